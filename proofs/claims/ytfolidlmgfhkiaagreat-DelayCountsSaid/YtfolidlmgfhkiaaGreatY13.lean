/- Lemmas on functions of the program, under the conditions that each states. -/
import Derived.Test.YtfolidlmgfhkiaaGreatY12
import Derived.Test.YtfolidlmgfhkiaaGreatY05
set_option linter.unusedVariables false
set_option linter.unusedSimpArgs false
set_option maxRecDepth 100000
set_option maxHeartbeats 4000000
namespace Go.Proofs.YtfolidlmgfhkiaaGreat.Dl
open Go.RowKit Go.Proofs.Tryz
theorem count_zero {ts:List Pr} {a b:Int} (h:∀ (j:Nat) (u:Pr),ts[j]?=some u->¬(u.a=a/\u.b=b)):countP ts a b=0:=Classical.byContradiction fun hne=>by
 obtain ⟨i,t,ht,h1,h2,_⟩:=count_some hne;exact h i t ht ⟨h1,h2⟩
theorem eh_ (A:OA) (n c:Nat) (ts:List Pr) (a b:Int) (w:World) (hs:Sl w w 3 Pr.cells A n ts) (hsort:Sorted ts) (hn:n<=1000000) :
  Calls prog 31 #[.agg #[.slice A n c],i_ a,i_ b] w fun e w'=>e=.returned (i_ (countP ts a b))/\Below w w w':=by
 have HL:=q_ hs.len;have HS:=q_ hsort;clear hsort;obtain ⟨W,hW⟩:=ex_ (w.alloc (.cells #[.slice A n c] 73));have A5:Below w w W:=by rw [hW];exact (bel (b_))
 have q0:W.cell? (a_ w)=some (.slice A n c):=zn_;have A1:=q_ A5;clear A5;go_enter func31,ntmps31;go_wp2_with fail;rw [<-hW];clear hW;go_loop [7] (fun i=>∃ k:Nat,k<=n/\i=i_ k/\Hid (∀ (j:Nat) (u:Pr),j<k->ts[j]?=some u->¬(u.a=a/\u.b=b))) (fun i=>n - (intOf i).toNat)
 case atStart=>exact ⟨0,Nat.zero_le _,rfl,q_ (fun j u h=>absurd h (Nat.not_lt_zero j))⟩
 obtain ⟨k,hk,rfl,A6⟩:=hrel;by_cases hlt:k<n
 ·obtain ⟨ab,ao,rfl,A3,A2⟩:=hs.at_ o_;obtain ⟨x,hx⟩:∃ x,ts[k]?=some x:=⟨_,ge_ yr_⟩;have c0:W.cell? ⟨ab,ao+k*3,none⟩=some (i_ x.a):=(belc A1.o A3).trans (A2 k x hx 0 _ rfl);have c1:W.cell? ⟨ab,ao+k*3+1,none⟩=some (i_ x.b):=(belc A1.o A3).trans (A2 k x hx 1 _ rfl);have c2:W.cell? ⟨ab,ao+k*3+2,none⟩=some (i_ x.cnt):=(belc A1.o A3).trans (A2 k x hx 2 _ rfl);have A4:=h_ (¬(x.a=a/\x.b=b)->∀ (j:Nat) (u:Pr),j<k+1->ts[j]?=some u->¬(u.a=a/\u.b=b)) (fun h j u hj hu=>by
   by_cases e:j=k
   ·subst e;rw [hx] at hu;injection hu with hu;subst hu;exact h
   exact A6.o j u o_ hu)
  have HX:=q_ hx;clear A2 hx;by_cases h1:x.a=a
  ·by_cases h2:x.b=b
   ·have g1:(x.a == a)=true:=by simpa using h1
    have g2:(x.b == b)=true:=by simpa using h2
    have HV:=h_ (countP ts a b=x.cnt) (by rw [<-h1,<-h2];exact count_at HS.o HX.o);clear h1 h2;go_wp2;go_ret;exact ⟨x6_,A1.o⟩
   have g1:(x.a == a)=true:=by simpa using h1
   have g2:(x.b == b)=false:=by simpa using h2
   have A0:=q_ (A4.o (fun h=>h2 h.2));clear h1 h2;go_wp2;go_round
   case rel=>exact ⟨k+1,o_,za_,A0⟩
   case measure=>exact me_
  have g1:(x.a == a)=false:=by simpa using h1
  have A0:=q_ (A4.o (fun h=>h1 h.1));clear h1;go_wp2;go_round
  case rel=>exact ⟨k+1,o_,za_,A0⟩
  case measure=>exact me_
 obtain rfl:k=n:=by omega
 have HV:=q_ (count_zero (ts:=ts) (a:=a) (b:=b) (fun j u hu=>A6.o j u (by have:=(e_ hu).1;rw [HL.o] at this;exact this) hu));go_wp2;go_ret;exact ⟨x6_,A1.o⟩
theorem refdecay_any (A:OA) (n c:Nat) (ts:List Pr) (w:World) (hs:Sl w w 3 Pr.cells A n ts) (hn:n<=900000) (hgood:∀ (i:Nat) (t:Pr),ts[i]?=some t->1<=t.cnt/\t.cnt<=1048576) :
  Calls prog 35 #[.agg #[.slice A n c]] w (GivesR none (bo_ ts) w):=by
 obtain ⟨i0,hi,Ap,Aq,Ar⟩:=info_parts CloneTrk.infoE;have Ah:=q_ hgood;have HL:=q_ hs.len;clear hgood;obtain ⟨W,hW⟩:=ex_ (((w.alloc (.cells #[.slice A n c] 73)).alloc (.cells #[.slice none 0 0] 73)).alloc (.cells #[.slice none 0 0] 73));have Ac:Below w w W:=by rw [hW];exact (bel (b_))
 have Ad:(W:Nat)=w+3:=by rw [hW];simp
 have q0:W.cell? (a_ w)=some (.slice A n c):=yj_;have q2:W.cell? (a_ (w+1))=some (.slice none 0 0):=zs_;have Af:W.frozen? (a_ (w+1))=false:=y2_;have q3:W.cell? (a_ (w+2))=some (.slice none 0 0):=zn_;have Ag:W.frozen? (a_ (w+2))=false:=xc_;have Aj:Hid (Out W (w+3) (w+2) (.slice none 0 0) []):=q_ ⟨q3,Ag,World.ownsRow_nil _ _ _ _,o_,o_⟩;have HQ:=h_ (W.cell? (a_ w)=some (.slice A n c)/\W.cell? (a_ (w+1))=some (.slice none 0 0)/\W.frozen? (a_ (w+1))=false) (⟨q0,q2,Af⟩);have Al:=q_ Ac;have HZ:=q_ Ad;clear q0 q2 Af q3 Ag Ac Ad;go_enter func35,ntmps35;go_wp2_with fail;rw [<-hW];clear hW;go_loopw [4] (fun i wr=>∃ (k:Nat) (v:Value),k<=n/\i=i_ k/\Hid (Out wr (w+3) (w+2) v (bo_ (ts.take k)))/\Hid (Below (w+2) W wr)/\Hid ((bo_ (ts.take k)).length=0->v=.slice none 0 0)) (fun i _=>n - (intOf i).toNat)
 case atStart=>exact ⟨0,_,Nat.zero_le _,rfl,Aj,q_ (b_),q_ (fun _=>rfl)⟩
 obtain ⟨k,v,hk,rfl,hO,hb,A8⟩:=hrel;have HR:=h_ (Below w w wr) (Al.o.trans (hb.o.mono o_));have Az:(w:Nat)+3<=wr:=hO.o.le;have Ay:(w:Nat)+2<wr:=by omega
 have Ax:(w:Nat)+1<wr:=by omega
 have r0:wr.cell? (a_ w)=some (.slice A n c):=(belc hb.o o_).trans HQ.o.1;have r1:wr.cell? (a_ (w+1))=some (.slice none 0 0):=(belc hb.o o_).trans HQ.o.2.1;have As:wr.frozen? (a_ (w+1))=false:=(belf hb.o o_).trans HQ.o.2.2;have r2:=hO.o.cell;have AD:=hO.o.fr;obtain ⟨l,hl⟩:=ex_ (bo_ (ts.take k));rw [<-hl] at hO A8;have A6:=q_ hl;have Aa:=h_ (l.length<=k) x7_;clear hl;by_cases hlt:k<n
 ·obtain ⟨ab,ao,rfl,A7,A4⟩:=hs.at_ o_;obtain ⟨x,hx⟩:∃ x,ts[k]?=some x:=⟨_,ge_ yr_⟩;have c0:wr.cell? ⟨ab,ao+k*3,none⟩=some (i_ x.a):=(belc HR.o A7).trans (A4 k x hx 0 _ rfl);have c1:wr.cell? ⟨ab,ao+k*3+1,none⟩=some (i_ x.b):=(belc HR.o A7).trans (A4 k x hx 1 _ rfl);have c2:wr.cell? ⟨ab,ao+k*3+2,none⟩=some (i_ x.cnt):=(belc HR.o A7).trans (A4 k x hx 2 _ rfl);obtain ⟨Av,Aw⟩:=Ah.o k x hx;have HX:=q_ hx;clear A4 hx;by_cases hc:2<=x.cnt
  ·have A1:=h_ (bo_ (ts.take (k+1))=l ++ [half x]) (by rw [decay_next HX.o,<-A6.o,if_pos o_]);have AA:x.cnt.tdiv 2=x.cnt / 2:=Int.tdiv_eq_ediv_of_nonneg o_;have AB:IntKind.i64.wrap (x.cnt / 2)=x.cnt / 2:=by rw [IntKind.wrap_i64];omega
   have A9:=q_ ((bel (Below.refl wr wr)):Below wr wr ((wr.alloc (.cells #[i_ x.a,i_ x.b,i_ (x.cnt / 2)] 85)).alloc (.cells #[i_ x.a,i_ x.b,i_ (x.cnt / 2)] 85)));have Ai:=h_ (∀ ad,(some (a_ (wr+1)):OA)=some ad->∀ (j:Nat) (u:Value),(Pr.cells (half x))[j]?=some u->((wr.alloc (.cells #[i_ x.a,i_ x.b,i_ (x.cnt / 2)] 85)).alloc (.cells #[i_ x.a,i_ x.b,i_ (x.cnt / 2)] 85)).cell? (ad.add j)=some u) (fun ad h j u hu=>by
    injection h with h
    subst h
    rw [Addr.add_lit,ar_ _ _ _ _ _ t_,Nat.zero_add,List.getElem?_toArray]
    exact hu)
   go_wp2_with (at_builtin;refine ca_ rfl _ _ 71 rfl (w+3) 85 i0 _ 3 24 underlying71 hi Ap Aq Ar rfl d_ v l.length (l.flatMap Pr.cells) rfl (own_below hO.o.own A9.o) (some (a_ (wr+1))) 1 1 (Pr.cells (half x)) rfl y9_ rfl Ai.o z6_ z7_ y3_ zm_ ?_;intro A3 c3 w3 A0 A2 _;have A5:=hO.o.more A9.o A2;have u2:=A5.1;have Au:=A5.2.1;have Ae:=A5.2.2);have Ak:=q_ A0;have AC:=Ae.size;clear A0 A2 A5;go_roundw
   case rel=>exact ⟨k+1,_,o_,za_,q_ (by rw [A1.o];exact ⟨World.cell?_setCell_same _ _ _ u2,by rw [World.frozen?_setCell];exact Au,(by
     have h5:=Ak.o
     rw [List.length_append,List.flatMap_append]
     exact ba_ (by simpa using h5) _ (fun e=>by have:=h5.lt _ e;first | omega | (simp at this <;> omega))),o_,zm_⟩),q_ ((hb.o.trans (Ae.mono o_)).setCell vo_ _),q_ (fun h0=>by rw [A1.o,List.length_append] at h0;simp at h0)⟩
   case measure=>exact me_
  have A1:=h_ (bo_ (ts.take (k+1))=l) (by rw [decay_next HX.o,<-A6.o,if_neg o_,List.append_nil]);go_wp2;go_roundw
  case rel=>exact ⟨k+1,v,o_,za_,q_ (by rw [A1.o];exact hO.o.below ((bel (b_)))),q_ ((bel hb.o)),q_ (by rw [A1.o];exact A8.o)⟩
  case measure=>exact me_
 obtain rfl:k=n:=by omega
 have HE:=h_ (l=bo_ ts) w2_;obtain ⟨A',c',hv,Ao,Am⟩:∃ A' c',v=.slice A' l.length c'/\l.length<=c'/\(l.length=0->A'=none/\c'=0):=by
  have Ab:=hO.o.own;rcases hO.o.own.2 with ⟨h,h0⟩ | ⟨g,cap,cur,h,h0⟩
  ·exact ⟨none,0,by rw [h0];exact h,o_,fun _=>⟨rfl,rfl⟩⟩
  exact ⟨_,_,h,by rw [h] at Ab;exact (ck_ Ab).1,fun e=>by have e2:=A8.o e;rw [e2] at h;injection h with h1 _ h3;exact ⟨h1.symm,h3.symm⟩⟩
 subst hv;go_wp2;refine bodyPost_ret (v:=.agg #[.slice A' l.length c']) (by simp [results,results35,go_sem,r1,As]) rfl ⟨A',_,c',rfl,?_,(bel HR.o),Ao,Am,fun ad An=>.inl (own_lo hO.o.own o_ ad An)⟩;have h5:=hO.o.own;rw [<-HE.o];exact Sl.da_ Pr.size rfl (ba_ h5 _ (fun e=>by have:=h5.lt _ e;first | omega | (simp at this <;> omega)))
def RMade (d:Nat) (w:World) (e:Ending) (w':World):Prop:=∃ A n c ts,e=.returned (.agg #[.slice A n c])/\Sl w' w' 3 Pr.cells A n ts/\Good ts/\Most ts 29/\ts.length<=256/\n<=c/\(n=0->A=none/\c=0)/\(∀ ad,A=some ad->w<=ad.block)/\Rd d w w'
structure Mq (w0:World) (d b:Nat) (N:Int) (ts:List Pr) (A:OA) (c:Nat) (w:World):Prop where
 rd:Rd d w0 w
 d0:d<w0
 hb:w0<b
 res:Bx w w0 [.slice none 0 0]
 q:Bx w b [.slice A ts.length c]
 pr:Sl w w 3 Pr.cells A ts.length ts
 lo:∀ ad,A=some ad->w0<ad.block/\ad.block≠b
 good:Good ts
 most:Most ts N
 le:ts.length<=256
 cap:ts.length<=c
 nz:ts.length=0->A=none/\c=0
section
variable {w0 w w1:World} {d b c:Nat} {N:Int} {A:OA} {ts:List Pr}
theorem Mq.kp (h:Mq w0 d b N ts A c w) (hk:Kp (fun q=>q=d) w w1) (hD:Dice w1 d):Mq w0 d b N ts A c w1 :=
 ⟨⟨hD,h.rd.kp.trans hk⟩,h.d0,h.hb,h.res.kp hk (fun e=>by have e:w0=d:=e;have:=h.d0;omega),h.q.kp hk (fun e=>by have e:b=d:=e;have:=h.d0;have:=h.hb;omega),sl_kp h.pr hk (fun _ ad ha e=>by have e:ad.block=d:=e;have:=h.lo ad ha;have:=h.d0;omega),h.lo,h.good,h.most,h.le,h.cap,h.nz⟩
theorem Mq.pick (h:Mq w0 d b N ts A c w) (ht:ct_ w d w1):Mq w0 d b N ts A c w1 :=
 h.kp ((Kp.refl _ w).grown ht.grown (fun q hq=>by injection hq with hq;exact .inl hq.symm)) ht.dice
theorem Mq.below (h:Mq w0 d b N ts A c w) (hb:Below w w w1):Mq w0 d b N ts A c w1:=h.kp (.of_below hb) (h.rd.dice.below hb)
theorem Mq.put (h:Mq w0 d b N ts A c w) (hb:Below w w w1) {A':OA} {n' c':Nat} {ts':List Pr} {N':Int} (hs:Sl w1 w1 3 Pr.cells A' n' ts') (hA:∀ ad,A'=some ad->w<=ad.block\/A=some ad) (hg:Good ts') (hm:Most ts' N') (hl:ts'.length<=256) (hc:n'<=c') (hz:n'=0->A'=none/\c'=0) :
  Mq w0 d b N' ts' A' c' (w1.setCell (a_ b) (.slice A' n' c')):=by
 have h1:=h.below hb;have A3:b<w:=h.q.1;have A1:n'=ts'.length:=hs.len.symm;subst A1;have hk:Kp (fun q=>q=b) w1 (w1.setCell (a_ b) (.slice A' ts'.length c')):=(Kp.refl (fun q=>q=b) w1).setCell (p:=(a_ b)) (.inl rfl) _;have A4:=h.d0;have A2:=h.hb;have A0:∀ ad,A'=some ad->w0<ad.block/\ad.block≠b:=fun ad ha=>by
  rcases hA ad ha with h2 | h2
  ·exact ⟨o_,o_⟩
  exact h.lo ad h2
 exact ⟨⟨h1.rd.dice.set (p:=(a_ b)) (by show d<b;omega) _,h1.rd.kp.setCell (p:=(a_ b)) (.inr (by show _<=b;omega)) _⟩,h.d0,h.hb,h1.res.far (p:=(a_ b)) (fun e=>by have e:b=w0:=e;omega) _,h1.q.set 0 _,sl_kp hs hk (fun _ ad ha e=>(A0 ad ha).2 e),A0,hg,hm,hl,hc,hz⟩
end
theorem most_mono {ts:List Pr} {N M:Int} (h:Most ts N) (hN:N<=M):Most ts M:=fun t ht=>Int.le_trans (h t ht) hN
theorem made_any (d:Nat) (w:World) (hD:Dice w d):Calls prog 25 #[.pointer (some (a_ d))] w (RMade d w):=by
 obtain ⟨W,hW,Ad,An,B0,B1⟩:=cn_ w [.slice none 0 0] 73 [.slice none 0 0] 73;have HM:=h_ (Mq w d (w+1) 0 [] none 0 W) (⟨⟨hD.below Ad,.of_below Ad⟩,hD.lt,o_,B0,B1,Sl.nil,(fun ad h=>by cases h),good_nil,(fun t h=>by cases h),d_,l_,fun _=>⟨rfl,rfl⟩⟩);clear hD Ad An B0 B1;go_enter func25,ntmps25;go_upto_region 2 with fail;rw [<-hW];clear hW;go_wp2_with fail;refine (bf_ d 30 _ HM.o.rd.dice d_ d_).mono ?_;rintro e w2 ⟨r,hr,rfl,Ai,-⟩;have Am:=q_ (HM.o.pick Ai);clear Ai HM;go_wp2_with fail;go_loopw [4] (fun i wr=>∃ (m:Nat) (ts:List Pr) (A:OA) (c:Nat),m<=r/\i=i_ ((r:Int) - (m:Int))/\Hid (Mq w d (w+1) m ts A c wr)) (fun i _=>(intOf i).toNat)
 case atStart=>exact ⟨0,[],none,0,o_,zk_,Am⟩
 obtain ⟨m,ts,A,c,hm,rfl,A1⟩:=hrel;by_cases hmr:m<r
 case neg =>
  have Ap:¬(0:Int)<(r:Int) - (m:Int):=by omega
  have q0:=A1.o.q.2.1 0 _ rfl;have r0:=A1.o.res.2.1 0 _ rfl;have Aq:=A1.o.res.2.2;have As:(w:Nat)<wr:=A1.o.res.1;have Au:(w:Nat)+1<wr:=A1.o.q.1;go_wp2_with fail;refine bodyPost_ret (v:=.agg #[.slice A ts.length c]) (by simp [results,results25,go_sem,r0,Aq]) rfl ⟨A,_,c,ts,rfl,?_,A1.o.good,most_mono A1.o.most o_,A1.o.le,A1.o.cap,A1.o.nz,fun ad ha=>Nat.le_of_lt (A1.o.lo ad ha).1,?_⟩
  ·exact sl_kp A1.o.pr ((Kp.refl (fun q=>q=w) wr).setCell (p:=(a_ w)) (.inl rfl) _) (fun _ ad ha e=>by have e:ad.block=w:=e;have:=A1.o.lo ad ha;omega)
  exact ⟨A1.o.rd.dice.set (p:=(a_ w)) A1.o.d0 _,A1.o.rd.kp.setCell (p:=(a_ w)) (.inr (l_)) _⟩
 case pos =>
 have Ap:(0:Int)<(r:Int) - (m:Int):=by omega
 go_upto_region 5 with fail;go_cut [] (fun wx=>∃ (ts:List Pr) (A:OA) (c:Nat),Hid (Mq w d (w+1) ((m:Int)+1) ts A c wx))
 case first =>
  have Ab:=q_ (A1.o.below (Below.drew (b_)));have Aw:=A1.o.q.2.1 0 _ rfl;clear A1;refine am_ (S:=fun _:World=>True) rfl trivial (fun _=>?_);go_simp;refine aa_ 1 12 ?_;refine aa_ 3 14 ?_;refine wpAnyH_ready (rs:=[0,2]) k_ t_ (AllReadyH.cons rfl (fun K hK=>?_) (AllReadyH.cons rfl (fun K hK=>?_) AllReadyH.nil))
  ·go_simp;have q0:=Ab.o.q.2.1 0 _ rfl;go_simp;refine hK.out _ _ trivial (fun _=>?_);clear q0;refine au_ 2 fun K hK=>?_
   go_simp;go_at_call 26;refine (bf_ d 5 _ Ab.o.rd.dice d_ d_).mono ?_;rintro e Ar ⟨a2,Ao,rfl,A3,-⟩;have A4:=q_ (Ab.o.pick A3);clear A3 Ab;refine hK.out _ _ trivial (fun _=>?_);refine au_ 4 fun K hK=>?_
   go_simp;go_at_call 26;refine (bf_ d 5 _ A4.o.rd.dice d_ d_).mono ?_;rintro e Al ⟨a4,Ae,rfl,A3,-⟩;have A0:=q_ (A4.o.pick A3);clear A3 A4;refine hK.out _ _ trivial (fun _=>?_);refine au_ 5 fun K hK=>?_
   go_simp;go_at_call 27;refine (ed_ A ts.length c ts a2 a4 _ A0.o.pr (by have:=A0.o.le;omega) A0.o.good A0.o.cap A0.o.nz).mono ?_;rintro e w6 ⟨A6,n6,c6,rfl,A8,A2,A7,Aa,A5⟩;have H7:=q_ (A0.o.put (c':=c6) A2 A8 A5 (train_good A0.o.good _ _) (most_train A0.o.most o_ _ _) (train_le A0.o.le _ _) A7 Aa);have q6:=(A0.o.below A2).q.2.1 0 _ rfl;have f6:=(A0.o.below A2).q.2.2;clear A2 A8 A7 Aa A5 A0;refine hK.out _ _ trivial (fun _=>?_);refine au_ 6 fun K hK=>?_
   go_simp;refine hK.out _ _ trivial (fun _=>?_);try simp only [Act.put,sA,s0,s1]
   exact u9_
  go_simp;go_at_call 26;refine (bf_ d 5 _ Ab.o.rd.dice d_ d_).mono ?_;rintro e Ar ⟨a2,Ao,rfl,A3,-⟩;have A4:=q_ (Ab.o.pick A3);clear A3 Ab;refine hK.out _ _ trivial (fun _=>?_);try simp only [Act.put,sA,s0,s1]
  refine wpAnyH_ready (rs:=[0,4]) k_ t_ (AllReadyH.cons rfl (fun K hK=>?_) (AllReadyH.cons rfl (fun K hK=>?_) AllReadyH.nil))
  ·go_simp;have q0:=A4.o.q.2.1 0 _ rfl;go_simp;refine hK.out _ _ trivial (fun _=>?_);clear q0;refine au_ 4 fun K hK=>?_
   go_simp;go_at_call 26;refine (bf_ d 5 _ A4.o.rd.dice d_ d_).mono ?_;rintro e Al ⟨a4,Ae,rfl,A3,-⟩;have A0:=q_ (A4.o.pick A3);clear A3 A4;refine hK.out _ _ trivial (fun _=>?_);refine au_ 5 fun K hK=>?_
   go_simp;go_at_call 27;refine (ed_ A ts.length c ts a2 a4 _ A0.o.pr (by have:=A0.o.le;omega) A0.o.good A0.o.cap A0.o.nz).mono ?_;rintro e w6 ⟨A6,n6,c6,rfl,A8,A2,A7,Aa,A5⟩;have H7:=q_ (A0.o.put (c':=c6) A2 A8 A5 (train_good A0.o.good _ _) (most_train A0.o.most o_ _ _) (train_le A0.o.le _ _) A7 Aa);have q6:=(A0.o.below A2).q.2.1 0 _ rfl;have f6:=(A0.o.below A2).q.2.2;clear A2 A8 A7 Aa A5 A0;refine hK.out _ _ trivial (fun _=>?_);refine au_ 6 fun K hK=>?_
   go_simp;refine hK.out _ _ trivial (fun _=>?_);try simp only [Act.put,sA,s0,s1]
   exact u9_
  go_simp;go_at_call 26;refine (bf_ d 5 _ A4.o.rd.dice d_ d_).mono ?_;rintro e Al ⟨a4,Ae,rfl,A3,-⟩;have A0:=q_ (A4.o.pick A3);clear A3 A4;refine hK.out _ _ trivial (fun _=>?_);refine au_ 0 fun K hK=>?_
  go_simp;have q0:=A0.o.q.2.1 0 _ rfl;go_simp;refine hK.out _ _ trivial (fun _=>?_);clear q0;refine au_ 5 fun K hK=>?_
  go_simp;go_at_call 27;refine (ed_ A ts.length c ts a2 a4 _ A0.o.pr (by have:=A0.o.le;omega) A0.o.good A0.o.cap A0.o.nz).mono ?_;rintro e w6 ⟨A6,n6,c6,rfl,A8,A2,A7,Aa,A5⟩;have H7:=q_ (A0.o.put (c':=c6) A2 A8 A5 (train_good A0.o.good _ _) (most_train A0.o.most o_ _ _) (train_le A0.o.le _ _) A7 Aa);have q6:=(A0.o.below A2).q.2.1 0 _ rfl;have f6:=(A0.o.below A2).q.2.2;clear A2 A8 A7 Aa A5 A0;refine hK.out _ _ trivial (fun _=>?_);refine au_ 6 fun K hK=>?_
  go_simp;refine hK.out _ _ trivial (fun _=>?_);try simp only [Act.put,sA,s0,s1]
  exact u9_
 case rest =>
 rename World=>w7
 obtain ⟨ts,A,c,H7⟩:=hcut;clear A1;go_wp2_with fail;refine (bf_ d 9 _ H7.o.rd.dice d_ d_).mono ?_;rintro e w8 ⟨r9,Av,rfl,Aj,-⟩;have H8:=q_ (H7.o.pick Aj);clear Aj H7;by_cases h0:r9=0
 ·have g:((r9:Int) == 0)=true:=by subst h0;rfl
  have q0:=H8.o.q.2.1 0 _ rfl;clear h0;go_wp2_with fail;refine (refdecay_any A ts.length c ts _ H8.o.pr (by have:=H8.o.le;omega) H8.o.good.2).mono ?_;rintro e w9 ⟨A9,n9,c9,rfl,Ah,Ac,Ag,Ak,Af⟩;have H9:=q_ (H8.o.put (c':=c9) Ac Ah (fun ad ha=>(Af ad ha).imp (fun h=>h) x_) (decay_good H8.o.good) (most_decay (M:=(m:Int)+1) H8.o.most o_) (Nat.le_trans (decay_len _) H8.o.le) Ag Ak);have q9:=(H8.o.below Ac).q.2.1 0 _ rfl;have f9:=(H8.o.below Ac).q.2.2;clear q0 Ac Ah Ag Ak Af H8;go_wp2_with fail;go_roundw
  case rel=>exact ⟨m+1,_,_,_,o_,za_,H9⟩
  case measure=>exact me_
 have g:((r9:Int) == 0)=false:=by simpa using h0
 clear h0;go_wp2_with fail;go_roundw
 case rel=>exact ⟨m+1,_,_,_,o_,za_,H8⟩
 case measure=>exact me_
end Go.Proofs.YtfolidlmgfhkiaaGreat.Dl
