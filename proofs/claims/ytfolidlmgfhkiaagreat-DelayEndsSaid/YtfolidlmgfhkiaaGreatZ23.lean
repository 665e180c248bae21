/- Lemmas: each says what a function of the program leaves, under the conditions that it states. -/
import Derived.Test.YtfolidlmgfhkiaaGreatZ22
set_option linter.unusedVariables false
set_option linter.unusedSimpArgs false
set_option maxRecDepth 100000
set_option maxHeartbeats 8000000
namespace Go.Proofs.YtfolidlmgfhkiaaGreat
open Go.RowKit Go.Proofs.Tryz
section
variable {b F N M o:Nat} {pv:Nat->Value} {qs:List Nat} {G:NP} {w w':World}
theorem GC.far2 {i j g:Nat} {u v:Value} (h:GC b F pv qs N M o G w) (hij:i≠j) (oi:cu_ i≠none) (oj:cu_ j≠none) (hi10:i<10) (hj10:j<10) (hi:w.cell? (f_ b i)=some u) (hj:w.cell? (f_ b j)=some v) (hu:u.ownBlock=some g):v.ownBlock≠some g:=by
 obtain ⟨C,f,_⟩:=h;have hl:=f.len (i:=0) rfl;have cs:∀ k v,k<10->w.cell? (f_ b k)=some v->(C b)[k]?=some v:=fun k v hk hc=>by
  have A0:k<(C b).length:=by rw [hl];exact hk
  have:=f.cell (i:=0) rfl (ge_ A0);rw [hc] at this;rw [ge_ A0,this]
 exact f.far _ (.head _) _ (.head _) i j u v g (.inr hij) oi oj (cs i u hi10 hi) (cs j v hj10 hj) hu
theorem GC.farq {j g q:Nat} {u v:Value} (h:GC b F pv qs N M o G w) (hq:q ∈ qs) (oj:cu_ j≠none) (hj10:j<10) (hc:w.cell? (a_ q)=some u) (hj:w.cell? (f_ b j)=some v) (hu:u.ownBlock=some g):v.ownBlock≠some g:=by
 have A2:q≠b:=by obtain ⟨_,_,_,_,_,_,_,_,_,h⟩:=h.at_own hq;exact h
 obtain ⟨C,f,_⟩:=h;have hl:=f.len (i:=0) rfl;obtain ⟨i,hi⟩:=mem_at (b:=b) (F:=F) (pv:=pv) (N:=N) hq rfl;have A1:j<(C b).length:=by rw [hl];exact hj10
 have h1:=f.cell (i:=0) rfl (ge_ A1);rw [hj] at h1;have A0:0<(C q).length:=by rw [f.len hi];simp
 have h2:=f.cell hi (ge_ A0);rw [hc] at h2;exact f.far _ (List.mem_of_getElem? hi) _ (.head _) 0 j u v g (.inl A2) (fun e=>by cases e) oj (by show (C q)[0]?=some u;rw [ge_ A0,h2]) (by show (C b)[j]?=some v;rw [ge_ A1,h1]) hu
theorem GC.notb {e:List CT} {et:TypeId} {j n c g:Nat} {A:OA} (h:GC b F pv qs N M o G w) (hj:(genT N F pv qs)[j]?=some (.sl e)) (ho:cu_ j=some et) (hc:w.cell? (f_ b j)=some (.slice A n c)) (hg:(Value.slice A n c).ownBlock=some g):g≠b/\∀ q ∈ qs,g≠q:=by
 obtain ⟨C,f,_⟩:=h;obtain ⟨e',A2,n2,c2,_,g2,_,_,g5⟩:=f.row _ (.head _) j _ et hj ho;have h1:=f.cell (i:=0) rfl g2;rw [hc] at h1;injection h1 with h1;injection h1 with q1 q2 q3;subst q1 q2 q3;have h5:=(g5 g hg).2.2;exact ⟨fun e=>h5 _ (.head _) e.symm,fun q hq e=>h5 _ (.tail _ (List.mem_map.2 ⟨q,hq,rfl⟩)) e.symm⟩
theorem GC.at_notb {q n c g:Nat} {A:OA} (h:GC b F pv qs N M o G w) (hq:q ∈ qs) (hc:w.cell? (a_ q)=some (.slice A n c)) (hg:(Value.slice A n c).ownBlock=some g):g≠b/\∀ r ∈ qs,g≠r:=by
 obtain ⟨C,f,_⟩:=h;obtain ⟨i,hi⟩:=mem_at (b:=b) (F:=F) (pv:=pv) (N:=N) hq rfl;obtain ⟨e',A2,n2,c2,_,g2,_,_,g5⟩:=f.row _ (List.mem_of_getElem? hi) 0 _ 3 rfl rfl;have h1:=f.cell hi g2;rw [hc] at h1;injection h1 with h1;injection h1 with q1 q2 q3;subst q1 q2 q3;have h5:=(g5 g hg).2.2;exact ⟨fun e=>h5 _ (.head _) e.symm,fun r hr e=>h5 _ (.tail _ (List.mem_map.2 ⟨r,hr,rfl⟩)) e.symm⟩
theorem GC.top {k:Nat} (h:GC b F pv qs N M o G w) (hk:k<o):∃ g c q,w.cell? (f_ b 9)=some (.slice (some (a_ g)) o c)/\w.cell? (f_ g k)=some (pt q)/\q ∈ qs/\g<w/\o<=c:=by
 obtain ⟨A,n,c,hc,_,hO,hG,_,hn⟩:=h.own (j:=9) rfl rfl;obtain rfl:n=o:=hn rfl;obtain ⟨xs,ho,hx⟩:=hO;obtain ⟨g,rfl,_,hg,_⟩:=dr_ ho o_;obtain ⟨u,hu,hv⟩:=hx k 0 _ hk rfl;have:[CT.sat (ptrP qs)].length=1:=rfl;rw [this,Nat.mul_one,Nat.add_zero] at hu;obtain ⟨q,hq,rfl⟩:=hv.sat_of;refine ⟨g,c,q,hc,?_,hq,hg,(dc_ ho).1⟩;rw [ho.cellAt k (by show k<n*1;omega)];exact hu
end
theorem at_row {b F N M o q nq cq:Nat} {pv:Nat->Value} {qs:List Nat} {G:NP} {w:World} {Aq:OA} (h:GC b F pv qs N M o G w) (hq:q ∈ qs) (hc:w.cell? (a_ q)=some (.slice Aq nq cq)) (w':World) (hb:Below w w w'):OwT w' 0 3 [.sat (idxP N)] G (N+1) Aq nq cq:=by
 obtain ⟨A,n,c,h1,_,h2,_⟩:=h.at_own hq;rw [hc] at h1;injection h1 with h1;injection h1 with q1 q2 q3;subst q1 q2 q3;exact h2.below hb
theorem at_no {b F N M o q nq cq:Nat} {pv:Nat->Value} {qs:List Nat} {G:NP} {w:World} {Aq:OA} (h:GC b F pv qs N M o G w) (hq:q ∈ qs) (hc:w.cell? (a_ q)=some (.slice Aq nq cq)):¬Wi G (Value.slice Aq nq cq).ownBlock w:=by
 obtain ⟨A,n,c,h1,_,h2,h3,_⟩:=h.at_own hq;rw [hc] at h1;injection h1 with h1;injection h1 with q1 q2 q3;subst q1 q2 q3;rintro (hx | hx)
 ·exact Nat.lt_irrefl _ (h.lt _ hx)
 exact Nat.lt_irrefl _ (h.lt _ (h3 _ hx))
theorem lit_idx {N:Nat} {w:World} {Y:NP} (i:Nat) (hi:i<N) (h:¬Y w):SlT (w.alloc (.cells #[i_ (i:Int)] 3)) Y (N+1) [.sat (idxP N)] (some (a_ w)) 1 1 :=
 SlT.lit1 (VTs.cons (.sat _ _ rfl ⟨i,rfl,hi⟩) VTs.nil) 3 h o_
theorem at_grown {b F N M o q nq cq g9 c9 k:Nat} {pv:Nat->Value} {qs:List Nat} {G:NP} {w w':World} {Aq:OA} (h:GC b F pv qs N M o G w) (hq:q ∈ qs) (hc:w.cell? (a_ q)=some (.slice Aq nq cq)) {ob:Obj} (hg:(w.alloc ob).grownBy w' (Value.slice Aq nq cq).ownBlock)
  (x9:w.cell? (f_ b 9)=some (.slice (some (a_ g9)) o c9)) (xe:w.cell? (f_ g9 k)=some (pt q)) (hg9:g9<w) :
  w'.cell? (a_ q)=some (.slice Aq nq cq)/\w'.frozen? (a_ q)=false/\w'.cell? (f_ b 9)=some (.slice (some (a_ g9)) o c9)/\w'.cell? (f_ g9 k)=some (pt q):=by
 obtain ⟨A,n,c,h1,_,_,h3,h4,h5,_⟩:=h.at_own hq;rw [hc] at h1;injection h1 with h1;injection h1 with q1 q2 q3;subst q1 q2 q3;have A2:=h.lt _ h5;have A3:=h.blt;have hne:some q≠(Value.slice Aq nq cq).ownBlock:=fun e=>(h.at_notb hq hc e.symm).2 q hq rfl
 have A1:some b≠(Value.slice Aq nq cq).ownBlock:=fun e=>(h.at_notb hq hc e.symm).1 rfl
 have A0:some g9≠(Value.slice Aq nq cq).ownBlock:=fun e=>h.farq hq (j:=9) (by simp [cu_]) o_ hc x9 e.symm rfl
 obtain ⟨g1,g2⟩:=gcell hg;exact ⟨(g1 q 0 (by simp;omega) hne).trans ((ak_ _ _ _ _ A2).trans hc),(g2 q 0 (by simp;omega) hne).trans ((ei_ _ _ _ _ A2).trans h4),(g1 b 9 (by simp;omega) A1).trans ((ak_ _ _ _ _ A3).trans x9),(g1 g9 k (by simp;omega) A0).trans ((ak_ _ _ _ _ hg9).trans xe)⟩
theorem ei_int:EI prog 30 3 [.num] 8:=EI.of (z:=i_ 0) underlying30 k_ rfl d_
theorem ei_idx (N:Nat):EI prog 30 3 [.sat (idxP N)] 8:=⟨ei_int.ht,ei_int.hi,Nat.one_pos⟩
theorem put_prot (b F:Nat) (pv:Nat->Value) (qs:List Nat) (N o:Nat) (G:NP) (w:World) (h:GC b F pv qs N N o G w) (hN:N<=10000000000) (g9 c9 q nq cq k:Nat) (Aq:OA) (hq:q ∈ qs)
  (x9:w.cell? (f_ b 9)=some (.slice (some (a_ g9)) o c9)) (xe:w.cell? (f_ g9 k)=some (pt q)) (xq:w.cell? (a_ q)=some (.slice Aq nq cq)) (x0 x1 x2 x3 x4:Int) :
  Calls prog 112 #[.pointer (some (a_ b)),i_ x0,i_ x1,i_ x2,i_ x3,i_ x4] w.drew fun e w1=>e=.returned (i_ (N:Int))/\∃ G2,Hid (GC b F pv qs (N+1) (N+1) o G2 w1)/\Hid (Up w G w1 G2)/\w1.cell? (f_ b 9)=some (.slice (some (a_ g9)) o c9)/\w1.cell? (f_ g9 k)=some (pt q)/\w1.cell? (a_ q)=some (.slice Aq nq cq)/\g9<w1/\b<w1/\q<w1 ∧
   Hid (OwT (w1.alloc (.cells #[i_ (N:Int)] 3)) 0 3 [.sat (idxP (N+1))] G2 (N+2) Aq nq cq)/\Hid (SlT (w1.alloc (.cells #[i_ (N:Int)] 3)) (Wi G2 (Value.slice Aq nq cq).ownBlock) (N+2) [.sat (idxP (N+1))] (some (a_ w1)) 1 1):=by
 have hd:GC b F pv qs N N o G w.drew:=h.below (Below.drew (b_));have A2:q<w:=by obtain ⟨_,_,_,_,_,_,_,_,hG,_⟩:=h.at_own hq;exact h.lt _ hG
 have A0:=h.notb (j:=9) rfl rfl x9 rfl;have A1:g9<w:=by
  obtain ⟨A,n,c,hc,_,hO,hG,_,_⟩:=h.own (j:=9) rfl rfl;rw [x9] at hc;injection hc with hc;injection hc with q1 q2 q3;subst q1;exact h.lt _ (hG _ rfl)
 refine (bq_ b F pv qs N o G w.drew hd hN x0 x1 x2 x3 x4).mono ?_;rintro e w1 ⟨rfl,G2,H2,U2,K2,P2⟩;have y9:w1.cell? (f_ b 9)=some (.slice (some (a_ g9)) o c9):=(K2.o.2 9 o_ o_).trans x9;have yq:w1.cell? (a_ q)=some (.slice Aq nq cq):=(K2.o.1 q hq).trans xq;have ye:w1.cell? (f_ g9 k)=some (pt q):=(P2.o.cell (b:=g9) (o:=k) A1 (by
  rintro (e | ⟨A',c',e1,e2⟩)
  ·exact A0.1 e
  exact hd.far2 (i:=9) (j:=1) o_ (by simp [cu_]) (by simp [cu_]) o_ o_ x9 e1 rfl e2)).trans xe
 have hz:=P2.o.size;have hz:(w:Nat)<=w1:=hz;exact ⟨rfl,G2,H2,q_ ((Up.of_below (Below.drew (b_))).trans U2.o),y9,ye,yq,o_,by have:=h.blt;omega,o_,q_ (at_row H2.o hq yq _ ((b_).alloc (l_) _)),q_ (lit_idx (N:=N+1) N o_ (at_no H2.o hq yq))⟩
theorem protect_g (b F:Nat) (pv:Nat->Value) (qs:List Nat) (N o:Nat) (G:NP) (w:World) (h:GC b F pv qs N N o G w) (hN:N<=10000000000) :
  Calls prog 204 #[.pointer (some (a_ b))] w fun e w'=>e=.returned (.tuple #[])/\RG b F pv qs N o G w 1 w':=by
 have H:=q_ h;by_cases ho0:o=0
 ·subst ho0;obtain ⟨A,n,c,x9,_,_,_,_,hn⟩:=h.own (j:=9) rfl rfl;obtain rfl:n=0:=hn rfl;clear h hn;go_enter func204,ntmps204;go_wp2_with (go_at_call 112;refine (bq_ b F pv qs N 0 G w H.o hN _ _ _ _ _).mono ?_;rintro e w1 hp;obtain rfl:=hp.1;have R1:=q_ (RG.put hp);clear hp);refine end0 rfl rfl ?_;exact ⟨rfl,R1.o⟩
 obtain ⟨g9,c9,q,x9,xe,hq,Ah,Al⟩:=h.top (k:=o - 1) o_;obtain ⟨Aq,nq,cq,xq,Aj,Ac,Ab,fq,A2,Aa⟩:=h.at_own hq;have Am:q<w:=h.lt _ A2;have Ag:=h.blt;have A0:=h.notb (j:=9) rfl rfl x9 rfl;have A4:=q_ x9;have A6:=q_ xe;have A8:=q_ xq;have A9:o<=1000:=by
  obtain ⟨A,n,c,_,hn,_,_,_,Ad⟩:=h.own (j:=9) rfl rfl;obtain rfl:n=o:=Ad rfl;exact hn
 have Ak:(0:Int)<(o:Int):=by omega
 have An:IntKind.i64.wrap ((o - 1:Nat):Int)=((o - 1:Nat):Int):=by rw [IntKind.wrap_i64];omega
 have Ae:(o:Int) - 1=((o - 1:Nat):Int):=by omega
 have Ai:((o - 1:Nat):Int)<(o:Int):=by omega
 clear h Ac Ab A2;go_enter func204,ntmps204;go_upto_region 2 with fail;refine ar_ (S:=fun w':World=>w'.cell? (f_ b 9)=some (.slice (some (a_ g9)) o c9)/\w'.cell? ⟨g9,o - 1,none⟩=some (pt q)) rfl ⟨A4.o,A6.o⟩ (fun _=>?_);go_simp;have Af:w.drew.cell? (a_ q)=some (.slice Aq nq cq):=A8.o;clear x9 xe xq;refine aa_ 0 10 ?_;refine aa_ 1 11 ?_;refine aa_ 2 12 ?_;refine aa_ 3 13 ?_;refine aa_ 4 14 ?_;refine aa_ 5 15 ?_;refine aa_ 6 16 ?_;refine aa_ 7 17 ?_;refine aa_ 8 18 ?_;refine aa_ 9 19 ?_;refine aa_ 10 20 ?_;refine aa_ 11 21 ?_;refine aa_ 12 22 ?_;refine aa_ 13 23 ?_;refine aa_ 14 24 ?_;refine aa_ 15 25 ?_;refine aa_ 16 26 ?_;refine aa_ 18 28 ?_;refine wpAnyH_ready (rs:=[17,19]) k_ t_ (AllReadyH.cons rfl (fun K hK=>?_) (AllReadyH.cons rfl (fun K hK=>?_) AllReadyH.nil))
 ·go_simp;clear Af;refine hK.out _ _ ⟨A4.o,A6.o⟩ (fun _=>?_);refine bb_ 19 fun K hK=>?_
  go_simp;go_at_call 112;refine (put_prot b F pv qs N o G w H.o hN g9 c9 q nq cq (o - 1) Aq hq A4.o A6.o A8.o _ _ _ _ _).mono ?_;rintro e w1 ⟨rfl,G2,H2,U2,y9,ye,yq,l9,lb,lq,A3,HU⟩;have A7:=q_ H2.o.lt;refine hK.out _ _ ⟨y9,ye⟩ (fun _=>?_);refine bb_ 20 fun K hK=>?_
  go_simp;have a9:=(ak_ w1 (.cells #[i_ (N:Int)] 3) b 9 lb).trans y9;have ae:=(ak_ w1 (.cells #[i_ (N:Int)] 3) g9 (o - 1) l9).trans ye;have aq:=(ak_ w1 (.cells #[i_ (N:Int)] 3) q 0 lq).trans yq;refine hK.out _ _ ⟨a9,ae⟩ (fun _=>?_);refine bb_ 21 fun K hK=>?_
  refine cw_ rfl (.tmp 27) (.tmp 30) rfl (ei_idx (N+1)) v_ A3.o v_ HU.o (fun k hk=>by have:=A7.o k hk;simp;omega) m_ o_ (Nat.zero_le _) ?_;intro A5 c5 w5 o5 g5 l5;have O5:=q_ o5;have G5:=q_ g5;have L5:=q_ l5;obtain ⟨zq,zf,z9,ze⟩:=at_grown H2.o hq yq g5 y9 ye l9;clear o5 g5 l5;refine hK.out _ _ ⟨z9,ze⟩ (fun _=>?_);refine aa_ 22 32 ?_;refine ba_ 23 k_ rfl (fun K hK=>?_);go_simp;refine hK.out _ _ ⟨(be_ _ _ _ _ (by intro e;injection e with e1 e2;exact Aa e1)).trans z9,(be_ _ _ _ _ (by intro e;injection e with e1 e2;exact A0.2 q hq e1.symm)).trans ze⟩ (fun _=>?_);try simp only [Act.put,sA,s0,s1]
  refine wpAnyH_done k_ ?_ _;obtain ⟨G3,g3,u3⟩:=(H2.o.below (w':=w1.alloc (.cells #[i_ (N:Int)] 3)) ((b_).alloc (l_) _)).at_grow hq ((ak_ _ _ _ _ lq).trans yq) O5.o (show nq+1<=N+1+1 by omega) G5.o L5.o;have A1:=q_ g3;have U3:=q_ (U2.o.trans ((Up.of_below ((Below.refl w1 w1).alloc (l_) (.cells #[i_ (N:Int)] 3))).trans u3));clear g3 u3;go_wp2_with fail;first
   | refine ret0 rfl rfl ?_
   | refine end0 rfl rfl ?_
  exact ⟨rfl,G3,qs,N+1,A1,fun _ h=>h,o_,o_,U3⟩
 go_simp;go_at_call 112;refine (put_prot b F pv qs N o G w H.o hN g9 c9 q nq cq (o - 1) Aq hq A4.o A6.o A8.o _ _ _ _ _).mono ?_;rintro e w1 ⟨rfl,G2,H2,U2,y9,ye,yq,l9,lb,lq,A3,HU⟩;have A7:=q_ H2.o.lt;refine hK.out _ _ ⟨y9,ye⟩ (fun _=>?_);try simp only [Act.put,sA,s0,s1]
 refine wpAnyH_ready (rs:=[17,20]) k_ t_ (AllReadyH.cons rfl (fun K hK=>?_) (AllReadyH.cons rfl (fun K hK=>?_) AllReadyH.nil))
 ·go_simp;refine hK.out _ _ ⟨y9,ye⟩ (fun _=>?_);refine bb_ 20 fun K hK=>?_
  go_simp;have a9:=(ak_ w1 (.cells #[i_ (N:Int)] 3) b 9 lb).trans y9;have ae:=(ak_ w1 (.cells #[i_ (N:Int)] 3) g9 (o - 1) l9).trans ye;have aq:=(ak_ w1 (.cells #[i_ (N:Int)] 3) q 0 lq).trans yq;refine hK.out _ _ ⟨a9,ae⟩ (fun _=>?_);refine bb_ 21 fun K hK=>?_
  refine cw_ rfl (.tmp 27) (.tmp 30) rfl (ei_idx (N+1)) v_ A3.o v_ HU.o (fun k hk=>by have:=A7.o k hk;simp;omega) m_ o_ (Nat.zero_le _) ?_;intro A5 c5 w5 o5 g5 l5;have O5:=q_ o5;have G5:=q_ g5;have L5:=q_ l5;obtain ⟨zq,zf,z9,ze⟩:=at_grown H2.o hq yq g5 y9 ye l9;clear o5 g5 l5;refine hK.out _ _ ⟨z9,ze⟩ (fun _=>?_);refine aa_ 22 32 ?_;refine ba_ 23 k_ rfl (fun K hK=>?_);go_simp;refine hK.out _ _ ⟨(be_ _ _ _ _ (by intro e;injection e with e1 e2;exact Aa e1)).trans z9,(be_ _ _ _ _ (by intro e;injection e with e1 e2;exact A0.2 q hq e1.symm)).trans ze⟩ (fun _=>?_);try simp only [Act.put,sA,s0,s1]
  refine wpAnyH_done k_ ?_ _;obtain ⟨G3,g3,u3⟩:=(H2.o.below (w':=w1.alloc (.cells #[i_ (N:Int)] 3)) ((b_).alloc (l_) _)).at_grow hq ((ak_ _ _ _ _ lq).trans yq) O5.o (show nq+1<=N+1+1 by omega) G5.o L5.o;have A1:=q_ g3;have U3:=q_ (U2.o.trans ((Up.of_below ((Below.refl w1 w1).alloc (l_) (.cells #[i_ (N:Int)] 3))).trans u3));clear g3 u3;go_wp2_with fail;first
   | refine ret0 rfl rfl ?_
   | refine end0 rfl rfl ?_
  exact ⟨rfl,G3,qs,N+1,A1,fun _ h=>h,o_,o_,U3⟩
 go_simp;have a9:=(ak_ w1 (.cells #[i_ (N:Int)] 3) b 9 lb).trans y9;have ae:=(ak_ w1 (.cells #[i_ (N:Int)] 3) g9 (o - 1) l9).trans ye;have aq:=(ak_ w1 (.cells #[i_ (N:Int)] 3) q 0 lq).trans yq;refine hK.out _ _ ⟨a9,ae⟩ (fun _=>?_);refine bb_ 17 fun K hK=>?_
 go_simp;refine hK.out _ _ ⟨a9,ae⟩ (fun _=>?_);refine bb_ 21 fun K hK=>?_
 refine cw_ rfl (.tmp 27) (.tmp 30) rfl (ei_idx (N+1)) v_ A3.o v_ HU.o (fun k hk=>by have:=A7.o k hk;simp;omega) m_ o_ (Nat.zero_le _) ?_;intro A5 c5 w5 o5 g5 l5;have O5:=q_ o5;have G5:=q_ g5;have L5:=q_ l5;obtain ⟨zq,zf,z9,ze⟩:=at_grown H2.o hq yq g5 y9 ye l9;clear o5 g5 l5;refine hK.out _ _ ⟨z9,ze⟩ (fun _=>?_);refine aa_ 22 32 ?_;refine ba_ 23 k_ rfl (fun K hK=>?_);go_simp;refine hK.out _ _ ⟨(be_ _ _ _ _ (by intro e;injection e with e1 e2;exact Aa e1)).trans z9,(be_ _ _ _ _ (by intro e;injection e with e1 e2;exact A0.2 q hq e1.symm)).trans ze⟩ (fun _=>?_);try simp only [Act.put,sA,s0,s1]
 refine wpAnyH_done k_ ?_ _;obtain ⟨G3,g3,u3⟩:=(H2.o.below (w':=w1.alloc (.cells #[i_ (N:Int)] 3)) ((b_).alloc (l_) _)).at_grow hq ((ak_ _ _ _ _ lq).trans yq) O5.o (show nq+1<=N+1+1 by omega) G5.o L5.o;have A1:=q_ g3;have U3:=q_ (U2.o.trans ((Up.of_below ((Below.refl w1 w1).alloc (l_) (.cells #[i_ (N:Int)] 3))).trans u3));clear g3 u3;go_wp2_with fail;first
  | refine ret0 rfl rfl ?_
  | refine end0 rfl rfl ?_
 exact ⟨rfl,G3,qs,N+1,A1,fun _ h=>h,o_,o_,U3⟩
theorem ei_ptr (qs:List Nat):EI prog 189 305 [.sat (ptrP qs)] 8:=EI.of (z:=.pointer none) underlying189 k_ rfl Nat.one_pos
theorem lit_ptr {qs:List Nat} {K:Nat} {w:World} {Y:NP} (q:Nat) (hq:q ∈ qs) (h:¬Y w) (hK:1<=K):SlT (w.alloc (.cells #[.pointer (some (a_ q))] 305)) Y K [.sat (ptrP qs)] (some (a_ w)) 1 1 :=
 SlT.lit1 (VTs.cons (.sat _ _ rfl ⟨q,hq,rfl⟩) VTs.nil) 305 h hK
theorem pl_at {b F N o q:Nat} {pv:Nat->Value} {qs:List Nat} {G:NP} {w:World} (h:GC b F pv qs N N o G w) (hq:q ∈ qs):∃ A n c,w.cell? (a_ q)=some (.slice A n c)/\n<=N+1/\Hid (Pl w b N A n):=by
 obtain ⟨A,n,c,h1,hn,h2,h3,_⟩:=h.at_own hq;refine ⟨A,n,c,h1,hn,q_ (fun j hj=>?_)⟩;obtain ⟨xs,ho,hx⟩:=h2;obtain ⟨g,rfl,_,hg,_⟩:=dr_ ho o_;obtain ⟨u,hu,hv⟩:=hx j 0 _ hj rfl;have:[CT.sat (idxP N)].length=1:=rfl;rw [this,Nat.mul_one,Nat.add_zero] at hu;obtain ⟨i,rfl,hi⟩:=hv.sat_of;refine ⟨g,0,i,rfl,hg,?_,hi,fun g' M c' hc e=>?_⟩
 ·rw [Nat.zero_add,ho.cellAt j (by show j<n*1;omega)];exact hu
 subst e;exact h.farq hq (j:=1) (by simp [cu_]) o_ h1 hc rfl rfl
theorem try_g (b F:Nat) (pv:Nat->Value) (o cb:Nat) (qs:List Nat) (N:Nat) (G:NP) (w:World) (h:GC b F pv qs N N o G w) (s f:ByteArray) (kd n op:Int) (E B C:OA) (m c m1 c1 m2 c2:Nat) (ho:o<=900) (hN:N+(20+2*cb)<=10000000000) (hb:LsC b F pv cb w G (o+1) B m1 c1) (hc:LsC b F pv cb w G (o+1) C m2 c2) :
  Calls prog 190 #[.pointer (some (a_ b)),.agg #[i_ kd,.string s,.string f,i_ n,i_ op,.slice E m c,.slice B m1 c1,.slice C m2 c2]] w fun e w'=>e=.returned (.tuple #[])/\RG b F pv qs N o G w (20+2*cb) w':=by
 obtain ⟨W0,Ax,Ai,AR,B0⟩:=af_ w [i_ kd,.string s,.string f,i_ n,i_ op,.slice E m c,.slice B m1 c1,.slice C m2 c2] 212;have h0:=h.below Ai;have u0:Up w G W0 G:=Up.of_below Ai;have Ay:¬G w:=fun hx=>Nat.lt_irrefl _ (h.lt _ hx)
 have KC:=q_ (stb_up (w:=w) (W:=W0) (G:=G) B0 o_ Ay);obtain ⟨G1,g1,u1⟩:=h0.new_at 30;obtain ⟨W1,Ah⟩:=ex_ (W0.alloc (.cells #[.slice none 0 0] 30));rw [←Ah] at g1 u1;obtain ⟨A9,n9,c9,y9,Bf,Aw,Av,_,A1⟩:=g1.own (j:=9) rfl rfl;obtain rfl:n9=o:=A1 rfl;have AS:=g1.blt;have B4:=q_ y9;have A6:=q_ ((Below.refl W1 W1).alloc (l_) (.cells #[.pointer (some (a_ W0))] 305));have H1:=q_ (g1.below A6.o);have HO:=h_ (OwT (W1.alloc (.cells #[.pointer (some (a_ W0))] 305)) 0 305 [.sat (ptrP (W0 :: qs))] G1 1000 A9 n9 c9) (Aw.below A6.o);have HL:=h_ (SlT (W1.alloc (.cells #[.pointer (some (a_ W0))] 305)) (Wi G1 (Value.slice A9 n9 c9).ownBlock) 1000 [.sat (ptrP (W0 :: qs))] (some (a_ W1)) 1 1) (lit_ptr W0 (.head _) (fun hx=>by
  rcases hx with hx | hx
  ·exact Nat.lt_irrefl _ (g1.lt _ hx)
  exact Nat.lt_irrefl _ (g1.lt _ (Av _ hx))) o_)
 have Ab:=q_ ((ak_ W1 (.cells #[.pointer (some (a_ W0.heap.size))] 305) b 9 AS).trans y9);have AE:=q_ g1.lt;have AI:=q_ (u0.trans u1);have AJ:=q_ u1;have HB:=q_ hb;have HC:=q_ hc;clear B0 Ai AR h h0 u0 Ay g1 u1 Aw Av A1 hb hc;go_enter func190,ntmps190;go_upto_region 1 with fail;rw [←Ax];clear Ax;go_upto_region 2 with fail;rw [←Ah];clear Ah;go_upto_region 3 with (at_builtin;refine cs_ rfl _ _ rfl (ei_ptr (W0.heap.size :: qs)) (by simp [Act.eval]) HO.o (by simp [Act.eval]) HL.o (fun k hk=>by have:=AE.o k hk;simp;omega) m_ o_ (Nat.zero_le _) ?_;intro A5 c5 w5 o5 g5 l5;have O5:=q_ o5;have G5:=q_ g5;have L5:=q_ l5;have An:=q_ (H1.o.grown (j:=9) rfl rfl Ab.o g5);have z9:=(An.o.1 9 o_).trans Ab.o;have fy:=An.o.2.1;clear o5 g5 l5 y9);obtain ⟨G2,g2,u2,_⟩:=H1.o.grow (j:=9) rfl rfl Ab.o O5.o (show n9+1<=1000 by omega) G5.o L5.o;obtain ⟨W,hW⟩:=ex_ (w5.setCell (f_ b 9) (.slice A5 (n9+1) c5));rw [←hW] at g2 u2 ⊢;have H:=h_ (GC b F pv (W0.heap.size :: qs) N N (n9+1) G2 W) (by simpa using g2);have HU:=q_ (AI.o.trans ((Up.of_below A6.o).trans u2));have Ac:=q_ (AJ.o.trans ((Up.of_below A6.o).trans u2));clear g2 u2 hW z9 fy;have KC:=h_ (∀ (w':World) (G':NP),Up W G2 w' G'->StB w' w.heap.size kd s f n op E B C m c m1 c1 m2 c2) (fun w' G' u=>KC.o w' G' (Ac.o.trans u));obtain ⟨x0,x1,x2,x3,x4,x5,x6,x7⟩:=KC.o W G2 (Up.refl _ _);go_wp2_with fail;refine (protect_g b F pv (W0.heap.size :: qs) N (n9+1) G2 W H.o o_).mono ?_;rintro e W1 ⟨rfl,G1,Az,N1,H1,AX,Bb,B6,V1⟩;have U1:=q_ ((q_ (Up.refl W G2)).o.trans V1.o);clear x0 x1 x2 x3 x4 x5 x6 x7;have q1:∀ q ∈ (W0.heap.size :: qs),q ∈ Az:=fun q hq=>AX q ((fun _ h=>h) q hq)
 obtain ⟨x0,x1,x2,x3,x4,x5,x6,x7⟩:=KC.o W1 G1 U1.o;go_wp2_with fail;refine (HB.o W1 G1 Az N1 (n9+1) H1.o (HU.o.trans U1.o) o_ o_).mono ?_;rintro e W2 ⟨rfl,G2,A8,N2,H2,AY,Bc,B7,V2⟩;have U2:=q_ (U1.o.trans V2.o);clear x0 x1 x2 x3 x4 x5 x6 x7;have q2:∀ q ∈ (W0.heap.size :: qs),q ∈ A8:=fun q hq=>AY q (q1 q hq)
 obtain ⟨x0,x1,x2,x3,x4,x5,x6,x7⟩:=KC.o W2 G2 U2.o;obtain ⟨A7,n7,c7,p9,_,Ag,_,_,Aj⟩:=H2.o.own (j:=9) rfl rfl;obtain rfl:n7=n9+1:=Aj rfl;have B5:n9+1<=c7:=by obtain ⟨xs,AW,_⟩:=Ag;exact (dc_ AW).1
 have AF:=q_ Ag;have AG:=q_ p9;obtain ⟨ip,zp,AT,_⟩:=(ei_ptr qs).hi;have Bh:∀ w',(Instr.slice 189 (.slice A7 (n9+1) c7) none (some (i_ (n9:Int))) none).run prog w'=.ok (.slice A7 n9 c7) w':=fun w'=>slice_high underlying189 AT o_ w'
 have AQ:=H2.o.fz 9;have Bi:IntKind.i64.wrap (n9:Int)=(n9:Int):=by rw [IntKind.wrap_i64];omega
 clear Ag Aj;go_upto_region 5 with fail;go_cut [] (fun wx=>∃ G',Hid (GC b F pv A8 N2 N2 n9 G' wx)/\Hid (Up W2 G2 wx G'))
 case first =>
  go_region_law fail;all_goals
   obtain ⟨G',g',u',_⟩:=(H2.o.below (w':=W2.drew) (Below.drew (b_))).grow (j:=9) rfl rfl AG.o (w':=W2.drew) ((AF.o.below (Below.drew (b_))).cut (Nat.le_succ n9)) (show n9<=1000 by omega) ⟨rfl,rfl,rfl,l_,fun _ _ _=>rfl⟩ (fun g hg=>.inl (by cases A7 <;> exact hg));have g2:=h_ (GC b F pv A8 N2 N2 n9 G' _) (by simpa using g');have u2:=q_ ((Up.of_below (Y:=G2) (Below.drew (Below.refl W2 W2))).trans u');clear g' u';go_wp2_with fail;go_meet;exact ⟨G',g2,u2⟩
 case rest =>
 rename World=>W3
 obtain ⟨G3,H3,V3⟩:=hcut;clear p9 AQ;have U3:=q_ (U2.o.trans V3.o);clear x0 x1 x2 x3 x4 x5 x6 x7;obtain ⟨x0,x1,x2,x3,x4,x5,x6,x7⟩:=KC.o W3 G3 U3.o;go_wp2_with fail;refine (protect_g b F pv A8 N2 n9 G3 W3 H3.o o_).mono ?_;rintro e W4 ⟨rfl,G4,Aa,N4,H4,AZ,Bd,B8,V4⟩;have U4:=q_ (U3.o.trans V4.o);clear x0 x1 x2 x3 x4 x5 x6 x7;have q4:∀ q ∈ (W0.heap.size :: qs),q ∈ Aa:=fun q hq=>AZ q (q2 q hq)
 obtain ⟨x0,x1,x2,x3,x4,x5,x6,x7⟩:=KC.o W4 G4 U4.o;go_wp2_with fail;refine (bq_ b F pv Aa N4 n9 G4 W4 H4.o o_ _ _ _ _ _).mono ?_;rintro e W5 ⟨rfl,G5,H5,V5,_,_⟩;have U5:=q_ (U4.o.trans V5.o);clear x0 x1 x2 x3 x4 x5 x6 x7;obtain ⟨x0,x1,x2,x3,x4,x5,x6,x7⟩:=KC.o W5 G5 U5.o;obtain ⟨Aq,nq,cq,xq,Bg,AH⟩:=pl_at H5.o (q4 _ (.head _));go_wp2_with fail;refine (here_g b F pv Aa (N4+1) n9 G5 W5 H5.o o_ Aq nq cq o_ AH.o).mono ?_;rintro e W6 ⟨rfl,H6,V6⟩;clear xq;have U6:=q_ (U5.o.trans V6.o);clear x0 x1 x2 x3 x4 x5 x6 x7;obtain ⟨x0,x1,x2,x3,x4,x5,x6,x7⟩:=KC.o W6 G5 U6.o;go_wp2_with fail;refine (mark_g b F pv Aa (N4+1) n9 G5 W6 H6.o o_).mono ?_;rintro e W7 ⟨rfl,G7,AA,N7,H7,B1,Aj,B9,V7⟩;have U7:=q_ (U6.o.trans V7.o);clear x0 x1 x2 x3 x4 x5 x6 x7;have q7:∀ q ∈ (W0.heap.size :: qs),q ∈ AA:=fun q hq=>B1 q (q4 q hq)
 obtain ⟨x0,x1,x2,x3,x4,x5,x6,x7⟩:=KC.o W7 G7 U7.o;go_wp2_with fail;refine (protect_g b F pv AA N7 n9 G7 W7 H7.o o_).mono ?_;rintro e W8 ⟨rfl,G8,A3,N8,H8,B2,Be,Ba,V8⟩;have U8:=q_ (U7.o.trans V8.o);clear x0 x1 x2 x3 x4 x5 x6 x7;have q8:∀ q ∈ (W0.heap.size :: qs),q ∈ A3:=fun q hq=>B2 q (q7 q hq)
 obtain ⟨x0,x1,x2,x3,x4,x5,x6,x7⟩:=KC.o W8 G8 U8.o;go_wp2_with fail;refine (bq_ b F pv A3 N8 n9 G8 W8 H8.o o_ _ _ _ _ _).mono ?_;rintro e W9 ⟨rfl,G9,H9,V9,_,_⟩;have U9:=q_ (U8.o.trans V9.o);clear x0 x1 x2 x3 x4 x5 x6 x7;obtain ⟨x0,x1,x2,x3,x4,x5,x6,x7⟩:=KC.o W9 G9 U9.o;go_wp2_with fail;refine (fa_ b F pv A3 (N8+1) n9 G9 W9 H9.o _).mono ?_;rintro e As ⟨⟨Bj,rfl⟩,A0⟩;have AB:=q_ (H9.o.below A0);have AL:=q_ (Up.of_below (Y:=G9) A0);clear A0;have Ao:=q_ (U9.o.trans AL.o);clear x0 x1 x2 x3 x4 x5 x6 x7;obtain ⟨x0,x1,x2,x3,x4,x5,x6,x7⟩:=KC.o As G9 Ao.o;go_wp2_with fail;refine (bq_ b F pv A3 (N8+1) n9 G9 As AB.o o_ _ _ _ _ _).mono ?_;rintro e Au ⟨rfl,Al,AC,AM,_,_⟩;have Ad:=q_ (Ao.o.trans AM.o);clear x0 x1 x2 x3 x4 x5 x6 x7;obtain ⟨x0,x1,x2,x3,x4,x5,x6,x7⟩:=KC.o Au Al Ad.o;go_wp2_with fail;refine (HC.o Au Al A3 (N8+1+1) n9 AC.o (HU.o.trans Ad.o) o_ o_).mono ?_;rintro e Af ⟨rfl,A4,A2,AK,Am,Ak,AV,AU,AN⟩;have Ap:=q_ (Ad.o.trans AN.o);clear x0 x1 x2 x3 x4 x5 x6 x7;have B3:∀ q ∈ (W0.heap.size :: qs),q ∈ A2:=fun q hq=>Ak q (q8 q hq)
 obtain ⟨x0,x1,x2,x3,x4,x5,x6,x7⟩:=KC.o Af A4 Ap.o;go_wp2_with fail;refine (here_g b F pv A2 AK n9 A4 _ (Am.o.below ((b_).alloc (l_) _)) o_ _ 1 1 o_ (pl_lit Am.o N4 o_)).mono ?_;rintro e AP ⟨rfl,AD,Ae⟩;have AO:=q_ ((Up.of_below (Y:=A4) ((Below.refl Af.heap.size Af).alloc (l_) (.cells #[i_ ((N4:Nat):Int)] 3))).trans Ae.out);have Ar:=q_ (Ap.o.trans AO.o);clear x0 x1 x2 x3 x4 x5 x6 x7;obtain ⟨x0,x1,x2,x3,x4,x5,x6,x7⟩:=KC.o AP A4 Ar.o;go_wp2_with fail;refine end0 rfl rfl ?_;exact ⟨rfl,(RG.seq (k1:=20+2*cb) (HU.o.trans Ar.o) (fun q hq=>B3 q (.tail _ hq)) o_ o_ (RG.zero AD.o (Up.refl _ _))).more o_⟩
end Go.Proofs.YtfolidlmgfhkiaaGreat
