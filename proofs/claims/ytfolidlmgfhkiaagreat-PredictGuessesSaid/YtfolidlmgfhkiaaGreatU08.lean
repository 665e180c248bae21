/- Lemmas on functions of the program, under the conditions that each states. -/
import Derived.Test.YtfolidlmgfhkiaaGreatU07
import Derived.Test.YtfolidlmgfhkiaaGreatU06
set_option linter.unusedVariables false
set_option linter.unusedSimpArgs false
set_option maxRecDepth 100000
set_option maxHeartbeats 8000000
namespace Go.Proofs.YtfolidlmgfhkiaaGreat.Pr
open Go.RowKit Go.Proofs.Tryz
theorem train_any (A:OA) (n c:Nat) (ts:List Trk) (key:Int) (v:Val) (w:World) (hs:Sl w w 5 Trk.cells A n ts) (hn:n<=900000) (hg:Good ts) :
  Calls prog 53 #[.agg #[.slice A n c],i_ key,v.value] w (Gives (cl_ ts key v) w):=by
 cases hh:hit ts key
 ·exact train_new A n c ts key v w hs hn hg.1 hh
 exact train_old A n c ts key v w hs hn hg hh
theorem same_any (A:OA) (n c:Nat) (A':OA) (c':Nat) (ts:List Trk) (w:World) (hs:Sl w w 5 Trk.cells A n ts) (hs':Sl w w 5 Trk.cells A' n ts) (hn:n<=1000000) :
  Calls prog 19 #[.agg #[.slice A n c],.agg #[.slice A' n c']] w fun e w'=>e=.returned (.bool true)/\Below w w w':=by
 have HN:=q_ hs.len;obtain ⟨W,hW⟩:=ex_ ((w.alloc (.cells #[.slice A n c] 59)).alloc (.cells #[.slice A' n c'] 59));have A5:Below w w W:=by rw [hW];exact (bel (b_))
 have A6:(W:Nat)=w+2:=by rw [hW];simp
 have q0:W.cell? (a_ w)=some (.slice A n c):=zk_;have q1:W.cell? (a_ (w+1))=some (.slice A' n c'):=ym_;have A7:=q_ q0;have A8:=q_ q1;have HZ:=q_ A6;have HB:=q_ A5;clear A6 q0 q1 A5;go_enter func19,ntmps19;go_wp2_with fail;rw [<-hW];have HW:=q_ hW;clear hW;go_loopw [16] (fun i wr=>∃ k:Nat,k<=n/\i=i_ k/\Below W W wr) (fun i _=>n - (intOf i).toNat)
 case atStart=>exact ⟨0,Nat.zero_le _,rfl,b_⟩
 obtain ⟨k,hk,rfl,hb⟩:=hrel;have r0:=(hb.cell (p:=(a_ w)) (by simp [HZ.o])).trans A7.o;have r1:=(hb.cell (p:=(a_ (w+1))) (by simp [HZ.o])).trans A8.o;have A1:Below w w wr:=HB.o.trans (hb.mono z4_);by_cases hlt:k<n
 ·obtain ⟨ab,ao,rfl,A4,A3⟩:=hs.at_ o_;obtain ⟨bb,bo,rfl,A2,A0⟩:=hs'.at_ o_;obtain ⟨t,ht⟩:∃ t,ts[k]?=some t:=⟨_,ge_ (by rw [HN.o];exact hlt)⟩;have c0:wr.cell? ⟨ab,ao+k*5,none⟩=some (i_ t.key):=(A1.cell (p:=(f_ ab _)) A4).trans (A3 k t ht 0 _ rfl);have c1:wr.cell? ⟨ab,ao+k*5+1,none⟩=some (.bool t.last.ref):=(A1.cell (p:=(f_ ab _)) A4).trans (A3 k t ht 1 _ rfl);have c2:wr.cell? ⟨ab,ao+k*5+2,none⟩=some (i_ t.last.n):=(A1.cell (p:=(f_ ab _)) A4).trans (A3 k t ht 2 _ rfl);have c3:wr.cell? ⟨ab,ao+k*5+3,none⟩=some (i_ t.stride):=(A1.cell (p:=(f_ ab _)) A4).trans (A3 k t ht 3 _ rfl);have c4:wr.cell? ⟨ab,ao+k*5+4,none⟩=some (i_ t.seen):=(A1.cell (p:=(f_ ab _)) A4).trans (A3 k t ht 4 _ rfl);have d0:wr.cell? ⟨bb,bo+k*5,none⟩=some (i_ t.key):=(A1.cell (p:=(f_ bb _)) A2).trans (A0 k t ht 0 _ rfl);have d1:wr.cell? ⟨bb,bo+k*5+1,none⟩=some (.bool t.last.ref):=(A1.cell (p:=(f_ bb _)) A2).trans (A0 k t ht 1 _ rfl);have d2:wr.cell? ⟨bb,bo+k*5+2,none⟩=some (i_ t.last.n):=(A1.cell (p:=(f_ bb _)) A2).trans (A0 k t ht 2 _ rfl);have d3:wr.cell? ⟨bb,bo+k*5+3,none⟩=some (i_ t.stride):=(A1.cell (p:=(f_ bb _)) A2).trans (A0 k t ht 3 _ rfl);have d4:wr.cell? ⟨bb,bo+k*5+4,none⟩=some (i_ t.seen):=(A1.cell (p:=(f_ bb _)) A2).trans (A0 k t ht 4 _ rfl);clear A3 A0 ht;go_wp2;go_quiet (fail);go_wp2;go_roundw
  case rel=>exact ⟨k+1,o_,zc_,below_drewN hb _⟩
  case measure=>exact me_
 go_wp2;go_ret;exact ⟨rfl,A1⟩
theorem samecells_any (A:OA) (n c:Nat) (A':OA) (c':Nat) (cs:List Cl) (w:World) (hs:Sl w w 4 Cl.cells A n cs) (hs':Sl w w 4 Cl.cells A' n cs) (hn:n<=1000000) :
  Calls prog 21 #[.slice A n c,.slice A' n c'] w fun e w'=>e=.returned (.bool true)/\Below w w w':=by
 have HN:=q_ hs.len;go_enter func21,ntmps21;go_wp2_with fail;go_loopw [13] (fun i wr=>∃ k:Nat,k<=n/\i=i_ k/\Below w w wr) (fun i _=>n - (intOf i).toNat)
 case atStart=>exact ⟨0,Nat.zero_le _,rfl,b_⟩
 obtain ⟨k,hk,rfl,A1⟩:=hrel;by_cases hlt:k<n
 ·obtain ⟨ab,ao,rfl,A4,A3⟩:=hs.at_ o_;obtain ⟨bb,bo,rfl,A2,A0⟩:=hs'.at_ o_;obtain ⟨t,ht⟩:∃ t,cs[k]?=some t:=⟨_,ge_ (by rw [HN.o];exact hlt)⟩;have c0:wr.cell? ⟨ab,ao+k*4,none⟩=some (i_ t.id):=(A1.cell (p:=(f_ ab _)) A4).trans (A3 k t ht 0 _ rfl);have c1:wr.cell? ⟨ab,ao+k*4+1,none⟩=some (i_ t.field):=(A1.cell (p:=(f_ ab _)) A4).trans (A3 k t ht 1 _ rfl);have c2:wr.cell? ⟨ab,ao+k*4+2,none⟩=some (.bool t.v.ref):=(A1.cell (p:=(f_ ab _)) A4).trans (A3 k t ht 2 _ rfl);have c3:wr.cell? ⟨ab,ao+k*4+3,none⟩=some (i_ t.v.n):=(A1.cell (p:=(f_ ab _)) A4).trans (A3 k t ht 3 _ rfl);have d0:wr.cell? ⟨bb,bo+k*4,none⟩=some (i_ t.id):=(A1.cell (p:=(f_ bb _)) A2).trans (A0 k t ht 0 _ rfl);have d1:wr.cell? ⟨bb,bo+k*4+1,none⟩=some (i_ t.field):=(A1.cell (p:=(f_ bb _)) A2).trans (A0 k t ht 1 _ rfl);have d2:wr.cell? ⟨bb,bo+k*4+2,none⟩=some (.bool t.v.ref):=(A1.cell (p:=(f_ bb _)) A2).trans (A0 k t ht 2 _ rfl);have d3:wr.cell? ⟨bb,bo+k*4+3,none⟩=some (i_ t.v.n):=(A1.cell (p:=(f_ bb _)) A2).trans (A0 k t ht 3 _ rfl);clear A3 A0 ht;go_wp2;go_quiet (fail);go_wp2;go_roundw
  case rel=>exact ⟨k+1,o_,zc_,below_drewN A1 _⟩
  case measure=>simp [intOf] <;> omega
 go_wp2;go_ret;exact ⟨rfl,A1⟩
theorem reads_take {w2 W w4:World} {o:Obj} {g:Nat} {xs:VL} (hgr:W.grownBy w4 (some w2)) (hg:g<w2) (hc:∀ (j:Nat) (u:Value),xs[j]?=some u->w2.cell? (((a_ g):Addr).add j)=some u) (i:Nat)
  (hW:W=(w2.alloc o).drew:=by rfl):∀ b,some ((a_ g):Addr)=some b->∀ (j:Nat) (u:Value),(xs.take (i*5))[j]?=some u->w4.cell? (b.add j)=some u:=by
 intro b hb j u hu;injection hb with hb;subst hb;rw [List.getElem?_take] at hu;split at hu
 ·have h:=hc j u hu;rw [Addr.add_lit] at h ⊢;have hz:(W:Nat)=w2+1:=by rw [hW];show (w2.alloc o).heap.size=_;simp
  rw [(bx_ hgr).1 _ _ o_ (by intro e;injection e;omega),hW];exact (ai_ w2 _ _ _ hg).trans h
 cases hu
theorem reftrain_new (A:OA) (n c:Nat) (ts:List Trk) (key:Int) (v:Val) (w:World) (hs:Sl w w 5 Trk.cells A n ts) (hn:n<=900000) (hh:hit ts key=false) :
  Calls prog 60 #[.agg #[.slice A n c],i_ key,v.value] w (Gives (cl_ ts key v) w):=by
 obtain ⟨i0,hi,Ar,As,Au⟩:=info_parts CloneTk5.infoE;have HH:=q_ hh;clear hh;unfold Val.value;obtain ⟨W,hW⟩:=ex_ (((w.alloc (.cells #[.slice A n c] 59)).alloc (.cells #[.bool v.ref,i_ v.n] 38)).alloc (.cells #[.slice none 0 0] 59));have AA:Below w w W:=by rw [hW];exact (bel (b_))
 have AH:(W:Nat)=w+3:=by rw [hW];simp
 have AL:=(hs.below AA).mono (B':=W) o_;have q0:W.cell? (a_ w)=some (.slice A n c):=zy_;have q1:W.cell? (a_ (w+1))=some (.bool v.ref):=zk_;have q2:W.cell? (f_ (w+1) 1)=some (i_ v.n):=zk_;have q3:W.cell? ⟨w+1+1,0,none⟩=some (.slice none 0 0):=ym_;have q4:W.frozen? ⟨w+1+1,0,none⟩=false:=xh_;have HL:=h_ ((ts.flatMap Trk.cells).length=n*5) yu_;have AO:=q_ q0;have AP:=q_ q1;have AQ:=q_ q2;have AR:=q_ q3;have AS:=q_ q4;have HZ:=q_ AH;have HB:=q_ AA;clear AH q0 q1 q2 q3 q4 AA;subst hW;go_enter func60,ntmps60;go_wp2_with (at_builtin;refine av_ rfl _ _ 57 rfl (w+3) 122 i0 _ 5 40 underlying57 hi Ar As Au rfl d_ (.slice none 0 0) 0 [] rfl (World.ownsRow_nil _ _ _ _) A n c (ts.flatMap Trk.cells) rfl (Sl.src AL).1 HL.o (Sl.src AL).2 (ed_ ts) m_ o_ t_ ?_;intro A1 c1 w1 Ab A6 _;have d0:=((bx_ A6).1 w 0 z4_ zr_).trans AO.o);have hz:=A6.size;rw [HZ.o] at hz;have d1:=((bx_ A6).1 (w+1) 0 z4_ zr_).trans AP.o;have d2:=((bx_ A6).1 (w+1) 1 z4_ zr_).trans AQ.o;have d3:=((bx_ A6).1 (w+1+1) 0 z4_ zr_).trans AR.o;have d4:=((bx_ A6).2 (w+1+1) 0 z4_ zr_).trans AS.o;have AI:Below w w w1:=HB.o.grown A6 z4_ zr_;rw [List.nil_append,Nat.zero_add] at Ab;have B1:=(hs.below AI).mono (B':=w1) o_;refine (at_any A n c ts key _ B1 o_).mono ?_;rintro e w2 ⟨rfl,Ae⟩;have B2:=Ae.size;have e1:=(Ae.cell (p:=(a_ (w+1))) za_).trans d1;have e2:=(Ae.cell (p:=(f_ (w+1) 1)) za_).trans d2;have e3:=(Ae.cell (p:=⟨w+1+1,0,none⟩) za_).trans d3;have e4:=(Ae.frozen (p:=⟨w+1+1,0,none⟩) za_).trans d4;have Aa:=own_below Ab Ae;have AC:Below w w w2:=AI.trans (Ae.mono o_);have AK:=lowb_le ts key;rw [hs.len] at AK;have Ap:(ts.flatMap Trk.cells).take (lowb ts key*5) ++ (Trk.cells ⟨key,v,0,1⟩ ++ (ts.flatMap Trk.cells).drop (lowb ts key*5))=(cl_ ts key v).flatMap Trk.cells:=by
  rw [flat_take Trk.size,flat_drop Trk.size,cl_,HH.o];simp
 have Am:(cl_ ts key v).length=n+1:=by
  rw [cl_,HH.o];simp [hs.len];omega
 have Ai:=q_ Ap;have Ax:=q_ Am;rw [HH.o];obtain ⟨i,hI⟩:=ex_ (lowb ts key);rw [<-hI] at AK;rw [<-hI];rw [<-hI] at Ai;clear Ap Am d0 d1 d2 d3 d4 hI;have AZ:(w:Nat)+1<w2:=by omega
 have A7:(w:Nat)+1+1<w2:=by omega
 have Ag:=own_src Aa;obtain ⟨xs,AF⟩:=ex_ (ts.flatMap Trk.cells);rw [<-AF] at Ag HL Ai;obtain ⟨cs,Al⟩:=ex_ (Trk.cells ⟨key,v,0,1⟩);rw [<-Al] at Ai;have Af:∀ u ∈ cs,u.oneCell'=true:=by rw [Al];simp [Trk.cells,Value.oneCell']
 have Ah:∀ u ∈ xs,u.oneCell'=true:=by rw [AF];exact ed_ ts
 have H1:=q_ Af;have H2:=q_ Ah;have AJ:cs.length=5:=by rw [Al];rfl
 have Aw:=q_ AJ;have Ad:((w2.alloc (.cells #[i_ key,.bool v.ref,i_ v.n,i_ 0,i_ 1] 122))).ownsRow w2 122 5 (.slice (some (a_ w2)) 1 1) 1 cs:=by
  rw [Al];exact World.ownsRow_lit w2 _ 1 (l_) m_ rfl
 have Ay:=q_ Ad;have AE:∀ u ∈ xs.drop (i*5),u.oneCell'=true:=fun u hu=>Ah u (List.mem_of_mem_drop hu)
 have AU:=q_ AE;have AN:∀ u ∈ cs ++ xs.drop (i*5),u.oneCell'=true:=fun u hu=>by rcases List.mem_append.1 hu with h | h;exact Af u h;exact AE u h
 have AV:=q_ AN;have An:¬(w:Nat)+1+1=w2:=by omega
 clear Al AF Af Ah AJ Ad AE AN;rcases Aa.2 with ⟨hA1,h0⟩ | ⟨g,cap,cur,hA1,hbg,hg,hnc,hcm,_⟩
 ·injection hA1 with hA1 _ hc1;obtain rfl:i=0:=by omega
  subst hA1 hc1 h0;have f2:∀ (j:Nat) (u:Value),cs[j]?=some u->((w2.alloc (.cells #[i_ key,.bool v.ref,i_ v.n,i_ 0,i_ 1] 122)).drew).cell? (((a_ w2):Addr).add j)=some u:=fun j u hu=>Ay.o.cells (g:=w2) rfl j u hu
  have F2:=q_ f2;have f1:∀ b,(none:OA)=some b->∀ (j:Nat) (u:Value),(xs.take (0*5))[j]?=some u->((w2.alloc (.cells #[i_ key,.bool v.ref,i_ v.n,i_ 0,i_ 1] 122)).drew).cell? (b.add j)=some u:=by
   intro b hb;cases hb
  have F1:=q_ f1;clear f1 f2;go_wp2;go_region_law (first | (refine di_ rfl (.tmp 29) (.tmp 32) 57 rfl 122 i0 underlying57 hi (some (a_ w2)) 1 1 (l_) zb_ none 0 zb_ ?_) | (refine step_append_grows rfl (.tmp 25) (.tmp 33) 57 rfl 122 i0 _ 5 40 underlying57 hi Ar As Au rfl d_ none 0 0 (xs.take (0*5)) zb_ (by intro _;exact ⟨rfl,rfl⟩) wu_ F1.o (a_ w2) 1 1 cs zb_ (by rw [Aw.o]) F2.o H1.o o_ m_ o_ ?_;intro v5 w5 A0 A2;obtain ⟨A5,c5,Aq⟩:=own_form A0 o_;subst Aq));have Av:=A2.size;have A3:∀ (o:Obj),((w2.alloc o).drew).heap.size=w2+1:=fun o=>by show (w2.alloc o).heap.size=_;simp
  rw [A3] at Av;have Aj:=((bx_ A2).1 (w.heap.size+1+1) 0 yv_ t_).trans ((ai_ w2 _ _ _ A7).trans e3);have AG:=((bx_ A2).2 (w.heap.size+1+1) 0 yv_ t_).trans ((cq_ w2 _ _ _ A7).trans e4);have Ak:Below w.heap.size w w5:=((AC.alloc o_ _).drew).grown A2 yv_ (by intro k hk;cases hk);have hd:xs.drop (0*5)=[]:=List.drop_eq_nil_of_le z8_;have Ao:=Ai.o;rw [hd,List.append_nil] at Ao;rw [Ao] at A0;have A9:(Value.slice A5 (0+1) c5).ownBlock≠some (w.heap.size+1+1):=fun e=>by have h:=A0.lt _ e;rw [A3] at h;omega
  go_wp2;refine bodyPost_ret (v:=.agg #[.slice A5 (0+1) c5]) wi_ rfl ⟨A5,_,c5,rfl,?_,(bel Ak),own_lo A0 wy_⟩;exact ty_
 injection hA1 with hA1 _ hc1;subst hA1 hc1;have AD:g<w2:=(Aa.lt g rfl).2;have B4:i<=c1:=by omega
 have HC:=q_ (Ag.2 _ rfl);clear Ag;have AM:∀ ad,(some (⟨g,i*5,none⟩:Addr))=some ad->∀ (j:Nat) (u:Value),(xs.drop (i*5))[j]?=some u->(w2.alloc (.cells #[i_ key,.bool v.ref,i_ v.n,i_ 0,i_ 1] 122)).cell? (ad.add j)=some u:=by
  intro ad AB j u hu;injection AB with AB;subst AB;rw [Addr.add_lit];rw [List.getElem?_drop] at hu;have h:=HC.o _ u hu;rw [Addr.add_lit,Nat.zero_add] at h;exact (ai_ w2 _ _ _ AD).trans h
 have AT:=q_ AM;clear AM;by_cases hci:c1=i
 ·obtain rfl:i=n:=by omega
  subst hci;have f2:∀ (j:Nat) (u:Value),cs[j]?=some u->((w2.alloc (.cells #[i_ key,.bool v.ref,i_ v.n,i_ 0,i_ 1] 122)).drew).cell? (((a_ w2):Addr).add j)=some u:=fun j u hu=>Ay.o.cells (g:=w2) rfl j u hu
  have F2:=q_ f2;have f1:∀ b,some ((a_ g):Addr)=some b->∀ (j:Nat) (u:Value),(xs.take (c1*5))[j]?=some u->((w2.alloc (.cells #[i_ key,.bool v.ref,i_ v.n,i_ 0,i_ 1] 122)).drew).cell? (b.add j)=some u:=by
   intro b hb j u hu;rw [List.getElem?_take] at hu;split at hu
   ·have h:=HC.o j u hu;injection hb with hb;subst hb;rw [Addr.add_lit] at h ⊢;exact (ai_ w2 _ _ _ AD).trans h
   cases hu
  have F1:=q_ f1;clear f1 f2;go_wp2;go_region_law (first | (refine di_ rfl (.tmp 29) (.tmp 32) 57 rfl 122 i0 underlying57 hi (some (a_ w2)) 1 1 (l_) zb_ (some (a_ g)) 0 zb_ ?_) | (refine step_append_grows rfl (.tmp 25) (.tmp 33) 57 rfl 122 i0 _ 5 40 underlying57 hi Ar As Au rfl d_ (some (a_ g)) c1 c1 (xs.take (c1*5)) zb_ yq_ wu_ F1.o (a_ w2) 1 1 cs zb_ (by rw [Aw.o]) F2.o H1.o o_ m_ o_ ?_;intro v5 w5 A0 A2;obtain ⟨A5,c5,Aq⟩:=own_form A0 o_;subst Aq));have Av:=A2.size;have A3:∀ (o:Obj),((w2.alloc o).drew).heap.size=w2+1:=fun o=>by show (w2.alloc o).heap.size=_;simp
  rw [A3] at Av;have Aj:=((bx_ A2).1 (w.heap.size+1+1) 0 yv_ t_).trans ((ai_ w2 _ _ _ A7).trans e3);have AG:=((bx_ A2).2 (w.heap.size+1+1) 0 yv_ t_).trans ((cq_ w2 _ _ _ A7).trans e4);have Ak:Below w.heap.size w w5:=((AC.alloc o_ _).drew).grown A2 yv_ (by intro k hk;cases hk);have hd:xs.drop (c1*5)=[]:=List.drop_eq_nil_of_le z8_;have Ao:=Ai.o;rw [hd,List.append_nil] at Ao;rw [Ao] at A0;have A9:(Value.slice A5 (c1+1) c5).ownBlock≠some (w.heap.size+1+1):=fun e=>by have h:=A0.lt _ e;rw [A3] at h;omega
  go_wp2;refine bodyPost_ret (v:=.agg #[.slice A5 (c1+1) c5]) wi_ rfl ⟨A5,_,c5,rfl,?_,(bel Ak),own_lo A0 wy_⟩;exact ty_
 go_wp2;go_region_law (first
  | (refine cv_ rfl (.tmp 29) (.tmp 32) 57 rfl w2 122 i0 _ 5 40 underlying57 hi Ar As Au rfl d_ (.slice (some (a_ w2)) 1 1) 1 cs zb_ Ay.o (some ⟨g,i*5,none⟩) (n - i) (c1 - i) (xs.drop (i*5)) zb_ yq_ (by rw [List.length_drop,HL.o];omega) AT.o AU.o m_ o_ (by show _<=(w2.alloc _).heap.size;simp) ?_;intro A4 c4 w4 Ac A8 B0;obtain ⟨g4,c5,Az,AW,AX⟩:=Ac.form o_;injection Az with Az _ hc4;subst Az hc4;have F1:=reads_take A8 AD HC.o i)
  | (refine step_append_grows rfl (.tmp 25) (.tmp 33) 57 rfl 122 i0 _ 5 40 underlying57 hi Ar As Au rfl d_ (some (a_ g)) i i (xs.take (i*5)) zb_ yq_ wu_ F1 (a_ g4) (1+(n - i)) c4 (cs ++ xs.drop (i*5)) zb_ (by rw [List.length_append,Aw.o,List.length_drop,HL.o];omega) (Ac.cells (g:=g4) rfl) AV.o o_ m_ o_ ?_;intro v5 w5 A0 A2;obtain ⟨A5,c5,Aq⟩:=own_form A0 o_;subst Aq))
 have B3:=A8.size;have Av:=A2.size;have A3:∀ (o:Obj),((w2.alloc o).drew).heap.size=w2+1:=fun o=>by show (w2.alloc o).heap.size=_;simp
 rw [A3] at B3;have Aj:=((bx_ A2).1 (w+1+1) 0 o_ t_).trans (((bx_ A8).1 (w+1+1) 0 yv_ (fun e=>An (by injection e))).trans ((ai_ w2 _ _ _ A7).trans e3));have AG:=((bx_ A2).2 (w+1+1) 0 o_ t_).trans (((bx_ A8).2 (w+1+1) 0 yv_ (fun e=>An (by injection e))).trans ((cq_ w2 _ _ _ A7).trans e4));have Ak:Below w w w5:=((((AC.alloc o_ _).drew).grown A8 yv_ (by intro k hk;injection hk with hk;have B5:w2=k:=hk;omega))).grown A2 o_ (by intro k hk;cases hk);have AY:i+(1+(n - i))=n+1:=by omega
 rw [Ai.o,AY] at A0;have A9:(Value.slice A5 (n+1) c5).ownBlock≠some (w.heap.size+1+1):=fun e=>by have:=A0.lt _ e;omega
 go_wp2;refine bodyPost_ret (v:=.agg #[.slice A5 (n+1) c5]) wi_ rfl ⟨A5,_,c5,rfl,?_,(bel Ak),own_lo A0 wy_⟩;exact ty_
theorem slkp {α:Type} {w w':World} {Z:NP} {sz n:Nat} {cells:α->VL} {A:OA} {l:List α} (h:Sl w w sz cells A n l) (hk:Kp Z w w') (hA:∀ ad,A=some ad->¬Z ad.block):Sl w' w' sz cells A n l:=by
 refine ⟨h.len,fun hn=>?_⟩;obtain ⟨ab,ao,e,A0,hc⟩:=h.at_ hn;exact ⟨ab,ao,e,lt_ A0 hk.size,fun i x hx j u hu=>(hk.cell A0 (hA _ e)).trans (hc i x hx j u hu)⟩
structure Ll (lo0:Nat) (V:World) (b:Nat) (ls:List Trk) (OAx:OA) (on oc:Nat) (w:World):Prop where
 q:Bx w b [.slice OAx on oc]
 pr:Sl w w 5 Trk.cells OAx on ls
 lo:∀ ad,OAx=some ad->lo0<=ad.block/\ad.block≠b
 bel:Below b V w
section
variable {lo0 b on oc:Nat} {V w w1:World} {ls:List Trk} {OAx:OA}
theorem Ll.below (h:Ll lo0 V b ls OAx on oc w) (hb:Below w w w1):Ll lo0 V b ls OAx on oc w1 :=
 ⟨h.q.below hb,h.pr.up hb,h.lo,h.bel.trans (hb.mono (Nat.le_of_lt h.q.1))⟩
theorem Ll.put (h:Ll lo0 V b ls OAx on oc w) (hb:Below w w w1) {A':OA} {n' c':Nat} {ls':List Trk} (hs:Sl w1 w1 5 Trk.cells A' n' ls') (hA:∀ ad,A'=some ad->w<=ad.block) (hl:lo0<=w) :
  Ll lo0 V b ls' A' n' c' (w1.setCell (a_ b) (.slice A' n' c')):=by
 have h1:=h.below hb;have A1:=h.q.1;have A0:∀ ad,A'=some ad->lo0<=ad.block/\ad.block≠b:=fun ad ha=>by have:=hA ad ha;exact ⟨o_,o_⟩
 exact ⟨h1.q.set 0 _,slkp hs ((Kp.refl (fun q=>q=b) w1).setCell (p:=(a_ b)) (.inl rfl) _) (fun ad ha e=>(A0 ad ha).2 e),A0,h1.bel.setCell (p:=(a_ b)) (l_) _⟩
end
theorem keyV_no {s f:Int} (h:bv_ s f=false):keyV s f=.tuple #[i_ 0,i_ 2]:=by simp [keyV,h]
theorem keyV_yes {s f:Int} (h:bv_ s f=true):keyV s f=.tuple #[i_ (kOf s f),i_ 0]:=by simp [keyV,h,kOf]
theorem learn_any (A:OA) (n c:Nat) (ts:List Trk) (tv:VL) (s fr:Int) (RA:OA) (rn rc:Nat) (cs:List Cl) (w:World) (hs:Sl w w 5 Trk.cells A n ts) (hg:Good ts) (hsm:Small ts)
  (t0:tv[0]?=some (i_ s)) (t37:tv[37]?=some (.slice RA rn rc)) (hr:Sl w w 4 Cl.cells RA rn cs) (hrn:rn<=1000000) :
  Calls prog 18 #[.agg #[.slice A n c],.agg tv.toArray,i_ fr] w (Gives (bz_ s fr ts cs) w):=by
 obtain ⟨W,hW,Am,AD,B0,B1,B2⟩:=dw_ w [.slice A n c] 59 tv 65 [.slice none 0 0] 59;have AS:n<=524544:=by rw [<-hs.len];exact en_ hg.1 hsm
 have As:=(hs.below Am).mono (B':=W) o_;have Ag:=h_ (∀ k,Good (bz_ s fr ts (cs.take k))/\Small (bz_ s fr ts (cs.take k))) (fun k=>ea_ _ hg hsm);have q0:=B0.2.1 0 _ rfl;have Av:=q_ B1;have Aw:=q_ B2;have Ai:=q_ Am;have AB:=q_ AD;have HR:=q_ hr;have AJ:=q_ t0;have Ah:=q_ t37;have Ay:=q_ hr.len;have Az:=q_ hs.len;clear t0 t37 hr hs B0 B1 B2 hg hsm;go_enter func18,ntmps18;go_upto_region 1 with fail;rw [<-hW];clear hW;go_wp2_with fail;refine (CloneTk5.any A n c (ts.flatMap Trk.cells) W (Sl.src As).1 (Sl.src As).2 (by rw [ds_ Trk.size,Az.o]) o_ (ed_ ts)).mono ?_;rintro e w1 ⟨A1,c1,rfl,A0,Ao⟩;have AG:=Ao.size;obtain ⟨V,hV,Al,AL,Aj⟩:=af_ w1 [.slice A1 n c1] 59;have AF:Sl w1 w1 5 Trk.cells A1 n ts:=Sl.cs_ Trk.size Az.o A0;have A9:=own_lo A0 (Nat.le_refl W);have Ab:∀ ad,A1=some ad->ad.block<w1:=fun ad ha=>by subst ha;exact (A0.lt _ rfl).2
 obtain ⟨b7,Aq⟩:=ex_ (w1:Nat);rw [<-Aq] at Aj;have Ae:Below W W V:=Ao.trans (Al.mono AG);have AH:=h_ (Ll (w+3) V b7 (bz_ s fr ts (cs.take 0)) A1 n c1 V) (⟨Aj,AF.up Al,fun ad ha=>by have h1:=A9 ad ha;have h2:=Ab ad ha;have:=AB.o;exact ⟨o_,o_⟩,b_⟩);have HV:=h_ (Bx V (w+1) tv/\Bx V (w+2) [.slice none 0 0]/\Below w w V/\w+3<=b7) (⟨Av.o.below Ae,Aw.o.below Ae,Ai.o.trans (Ae.mono Ai.o.size),by have:=AB.o;omega⟩);clear A0 Ao Al AL Aj AF A9 Ab Ae q0 As Am AD AG Av Aw Ai;go_upto_region 2 with fail;rw [<-hV,<-Aq];clear hV Aq;have AP:=HV.o.1.2.1 37 _ Ah.o;go_wp2_with fail;clear AP;go_loopw [19] (fun i wr=>∃ (k:Nat) (OAx:OA) (on oc:Nat),k<=rn/\i=i_ k/\Hid (Ll (w+3) V b7 (bz_ s fr ts (cs.take k)) OAx on oc wr)) (fun i _=>rn - (intOf i).toNat)
 case atStart=>exact ⟨0,A1,n,c1,Nat.zero_le _,rfl,AH⟩
 obtain ⟨k,OAx,on,oc,hk,rfl,hL⟩:=hrel;have A4:=q_ (HV.o.2.2.1.trans (hL.o.bel.mono wg_));by_cases hlt:k<rn
 case neg =>
  obtain rfl:k=rn:=by omega
  have AN:¬(k:Int)<(k:Int):=by omega
  have A7:cs.take k=cs:=List.take_of_length_le (by rw [Ay.o];exact l_);rw [A7] at hL;have q7:=hL.o.q.2.1 0 _ rfl;have r2:=(belc hL.o.bel (b:=w+2) (o:=0) wg_).trans (HV.o.2.1.2.1 0 _ rfl);have AO:=(belf hL.o.bel (b:=w+2) (o:=0) wg_).trans (HV.o.2.1.2.2 0);have AR:(w:Nat)+2<wr:=by have:=HV.o.2.2.2;have:=hL.o.q.1;omega
  clear A7;go_wp2_with fail;refine bodyPost_ret (v:=.agg #[.slice OAx on oc]) (by simp [results,results18,go_sem,r2,AO]) rfl ⟨OAx,on,oc,rfl,?_,A4.o.setCell yt_ _,fun ad ha=>by have:=(hL.o.lo ad ha).1;omega⟩;exact slkp hL.o.pr ((Kp.refl (fun q=>q=w+2) wr).setCell (p:=(a_ (w+2))) (.inl rfl) _) (fun ad ha e=>by have e:ad.block=w+2:=e;have:=(hL.o.lo ad ha).1;omega)
 case pos =>
 have AN:(k:Int)<(rn:Int):=by omega
 obtain ⟨ab,ao,rfl,Af,A8⟩:=HR.o.at_ o_;obtain ⟨x,hx⟩:∃ x,cs[k]?=some x:=⟨_,ge_ (by rw [Ay.o];exact hlt)⟩;have c0:wr.cell? ⟨ab,ao+k*4,none⟩=some (i_ x.id):=(belc A4.o Af).trans (A8 k x hx 0 _ rfl);have AK:wr.cell? ⟨ab,ao+k*4+1,none⟩=some (i_ x.field):=(belc A4.o Af).trans (A8 k x hx 1 _ rfl);have c2:wr.cell? ⟨ab,ao+k*4+2,none⟩=some (.bool x.v.ref):=(belc A4.o Af).trans (A8 k x hx 2 _ rfl);have c3:wr.cell? ⟨ab,ao+k*4+3,none⟩=some (i_ x.v.n):=(belc A4.o Af).trans (A8 k x hx 3 _ rfl);have Ac:=q_ (learn_next (s:=s) (fr:=fr) (p:=ts) hx);obtain ⟨Y,hY,An,AM,Ak⟩:=af_ wr [i_ x.id,i_ x.field,.bool x.v.ref,i_ x.v.n] 87;obtain ⟨b9,Ar⟩:=ex_ (wr:Nat);rw [<-Ar] at Ak;have A6:=q_ Ak;have A5:=q_ (hL.o.below An);have AQ:=q_ (A4.o.trans (An.mono A4.o.size));clear An AM Ak A8 hx hL;go_upto_region 5 with fail;rw [<-hY,<-Ar];clear hY Ar c0 AK c2 c3;have e0:=A6.o.2.1 0 _ rfl;have e1:=A6.o.2.1 1 _ rfl;have e2:=A6.o.2.1 2 _ rfl;have e3:=A6.o.2.1 3 _ rfl;by_cases h1:x.id=fr
 case neg =>
  have g1:(x.id != fr)=true:=by simpa using h1
  have HN:=q_ (learn_no (s:=s) (fr:=fr) (p:=bz_ s fr ts (cs.take k)) (c:=x) (by simp [lcond,h1]));clear h1;go_wp2_with fail;go_roundw
  case rel=>exact ⟨k+1,OAx,on,oc,o_,zc_,q_ (by rw [Ac.o,HN.o];exact A5.o)⟩
  case measure=>simp [intOf] <;> omega
 case pos =>
 have g1:(x.id != fr)=false:=by simpa using h1
 by_cases h2:3<=x.field
 case neg =>
  have g2:decide (x.field<3)=true:=decide_eq_true o_;have HN:=q_ (learn_no (s:=s) (fr:=fr) (p:=bz_ s fr ts (cs.take k)) (c:=x) (by simp [lcond,h2]));clear h1 h2;go_wp2_with fail;go_roundw
  case rel=>exact ⟨k+1,OAx,on,oc,o_,zc_,q_ (by rw [Ac.o,HN.o];exact A5.o)⟩
  case measure=>simp [intOf] <;> omega
 case pos =>
 have g2:decide (x.field<3)=false:=decide_eq_false o_;have y0:=(belc A5.o.bel (b:=w+1) (o:=0) wg_).trans (HV.o.1.2.1 0 _ AJ.o);have Ax:=h_ (lcond s fr x=bv_ s x.field) (by simp [lcond,h1,h2]);clear h1 h2;go_wp2_with fail;refine (key_any s x.field Y).mono ?_;rintro e w2 ⟨rfl,Ap⟩;have A2:=q_ (A5.o.below Ap);have AC:=q_ (A6.o.below Ap);clear e0 e1 e2 e3 y0 Ap A5;cases hk2:bv_ s x.field
 case false =>
  have HN:=q_ (learn_no (s:=s) (fr:=fr) (p:=bz_ s fr ts (cs.take k)) (c:=x) (Ax.o.trans hk2));rw [keyV_no hk2];clear hk2 g1 g2;go_wp2_with fail;go_roundw
  case rel=>exact ⟨k+1,OAx,on,oc,o_,zc_,q_ (by rw [Ac.o,HN.o];exact A2.o)⟩
  case measure=>simp [intOf] <;> omega
 case true =>
 have HN:=q_ (learn_yes (s:=s) (fr:=fr) (p:=bz_ s fr ts (cs.take k)) (c:=x) (Ax.o.trans hk2));rw [keyV_yes hk2];clear hk2 g1 g2;have e2:=AC.o.2.1 2 _ rfl;have e3:=AC.o.2.1 3 _ rfl;have q7:=A2.o.q.2.1 0 _ rfl;have Au:=train_any OAx on oc (bz_ s fr ts (cs.take k)) (kOf s x.field) x.v w2 A2.o.pr (by rw [<-A2.o.pr.len];exact Nat.le_trans (en_ (Ag.o k).1.1 (Ag.o k).2) d_) (Ag.o k).1;unfold Val.value at Au;have AA:=q_ Au;clear Au;go_wp2_with fail;refine AA.o.mono ?_;rintro e w3 ⟨A3,n3,c3,rfl,AE,Ad,Aa⟩;have AI:=q_ (A2.o.put (c':=c3) Ad AE Aa (by have h1:=HV.o.2.2.2;have h2:=A2.o.q.1;omega));have q9:=(A2.o.below Ad).q.2.1 0 _ rfl;have AT:=(A2.o.below Ad).q.2.2;clear e2 e3 q7 AE Ad Aa AA;go_wp2_with fail;go_roundw
 case rel=>exact ⟨k+1,A3,n3,c3,o_,zc_,q_ (by rw [Ac.o,HN.o];exact AI.o)⟩
 case measure=>simp [intOf] <;> omega
end Go.Proofs.YtfolidlmgfhkiaaGreat.Pr
namespace Go.Proofs.YtfolidlmgfhkiaaGreat
open Go.RowKit Go.Proofs.Tryz
section
variable {X:XE} {w w':World}
structure IC (d b lp:Nat) (X:XE) (Inv:World->Prop):Prop where
 ok:∀ w,Inv w->Mk d b lp w
 zx:∀ k,Zm d b k->X k
 lt:∀ w,Inv w->∀ k,X k->k<w
 up:∀ w w',Inv w->Mk d b lp w'->Kp (Zm d b) w w'->Inv w'
 ex:∀ w w',Inv w->Kp (Zm d b) w w'->X.e w->X.e w'
theorem IC.below {d b lp:Nat} {Inv:World->Prop} (h:IC d b lp X Inv) (hI:Inv w) (hb:Below w w w'):Inv w':=h.up w w' hI ((h.ok w hI).below hb) (.of_below hb)
def kV (X:XE) (v:Value):SK X:=⟨fun _ u=>u=v,fun _ _ _ _ _ h=>h⟩
def kNat (X:XE) (n:Nat):SK X:=⟨fun _ u=>∃ r:Nat,r<n/\u=i_ r,fun _ _ _ _ _ h=>h⟩
def kInt (X:XE):SK X:=⟨fun _ u=>∃ r:Int,u=i_ r,fun _ _ _ _ _ h=>h⟩
def kStr (X:XE):SK X:=⟨fun _ u=>∃ s:ByteArray,u=.string s/\s.size<=100,fun _ _ _ _ _ h=>h⟩
def bu_ (X:XE) (n:Nat):SK X:=⟨fun w u=>∃ g,u=.slice (some (a_ g)) n n/\g<w/\¬X g/\∀ i,i<n->∃ s:ByteArray,w.cell? (f_ g i)=some (.string s)/\s.size<=100,fun w w' u hk _ ⟨g,e,hg,hX,hc⟩=>⟨g,e,lt_ hg hk.size,hX,fun i hi=>by
 obtain ⟨s,hs,hz⟩:=hc i hi
 exact ⟨s,(hk.cell hg hX).trans hs,hz⟩⟩⟩
def kInts (X:XE) (n:Nat):SK X:=⟨fun w u=>∃ g,u=.slice (some (a_ g)) n n/\g<w/\¬X g/\∀ i,i<n->∃ s:Int,w.cell? (f_ g i)=some (i_ s)/\s≠3/\s≠5/\s≠6,fun w w' u hk _ ⟨g,e,hg,hX,hc⟩=>⟨g,e,lt_ hg hk.size,hX,fun i hi=>by
 obtain ⟨s,hs,hz⟩:=hc i hi
 exact ⟨s,(hk.cell hg hX).trans hs,hz⟩⟩⟩
def kInts' (X:XE) (n:Nat):SK X:=⟨fun w u=>∃ g,u=.slice (some (a_ g)) n n/\g<w/\¬X g/\∀ i,i<n->∃ s:Int,w.cell? (f_ g i)=some (i_ s),fun w w' u hk _ ⟨g,e,hg,hX,hc⟩=>⟨g,e,lt_ hg hk.size,hX,fun i hi=>by
 obtain ⟨s,hs⟩:=hc i hi
 exact ⟨s,(hk.cell hg hX).trans hs⟩⟩⟩
def dj_ (X:XE):SK X:=⟨fun w u=>∃ g o,∃ s:ByteArray,u=.pointer (some (f_ g o))/\g<w/\¬X g/\w.cell? (f_ g o)=some (.string s)/\s.size<=100,fun w w' u hk _ ⟨g,o,s,e,hg,hX,hc,hz⟩=>⟨g,o,s,e,lt_ hg hk.size,hX,(hk.cell hg hX).trans hc,hz⟩⟩
def kPInt (X:XE):SK X:=⟨fun w u=>∃ g o,∃ s:Int,u=.pointer (some (f_ g o))/\g<w/\¬X g/\w.cell? (f_ g o)=some (i_ s)/\s≠3/\s≠5/\s≠6,fun w w' u hk _ ⟨g,o,s,e,hg,hX,hc,hz⟩=>⟨g,o,s,e,lt_ hg hk.size,hX,(hk.cell hg hX).trans hc,hz⟩⟩
def kPInt' (X:XE):SK X:=⟨fun w u=>∃ g o,∃ s:Int,u=.pointer (some (f_ g o))/\g<w/\¬X g/\w.cell? (f_ g o)=some (i_ s),fun w w' u hk _ ⟨g,o,s,e,hg,hX,hc⟩=>⟨g,o,s,e,lt_ hg hk.size,hX,(hk.cell hg hX).trans hc⟩⟩
def kKind (X:XE):SK X:=⟨fun _ u=>∃ s:Int,u=i_ s/\s≠3/\s≠5/\s≠6,fun _ _ _ _ _ h=>h⟩
theorem ExV.kp {d:Nat} {kd n:Int} {s:ByteArray} {op:Int} {A:OA} {m c:Nat} (h:ExV w X d kd n s op A m c) (hk:Kp X w w'):ExV w' X d kd n s op A m c:=⟨h.1.up hk (l_),h.2⟩
def kEx (X:XE) (d:Nat):SK X:=⟨fun w u=>∃ (kd n:Int) (s:ByteArray) (op:Int) (A:OA) (m c:Nat),u=.agg #[i_ kd,i_ n,.string s,i_ op,.slice A m c]/\ExV w X d kd n s op A m c,fun w w' u hk _ ⟨kd,n,s,op,A,m,c,e,h⟩=>⟨kd,n,s,op,A,m,c,e,h.kp hk⟩⟩
def StV (w:World) (X:XE) (d:Nat) (kd:Int) (s f:ByteArray) (n op:Int) (A:OA) (m c:Nat) (B:OA) (m1 c1:Nat) (C:OA) (m2 c2:Nat):Prop:=VTs w X 20 (ag_ d) (stL kd s f n op A m c B m1 c1 C m2 c2)/\pS (stL kd s f n op A m c B m1 c1 C m2 c2)
def kSt (X:XE) (d:Nat):SK X:=⟨fun w u=>∃ (kd:Int) (s f:ByteArray) (n op:Int) (A:OA) (m c:Nat) (B:OA) (m1 c1:Nat) (C:OA) (m2 c2:Nat),u=.agg #[i_ kd,.string s,.string f,i_ n,i_ op,.slice A m c,.slice B m1 c1,.slice C m2 c2]/\StV w X d kd s f n op A m c B m1 c1 C m2 c2,
 fun w w' u hk _ ⟨kd,s,f,n,op,A,m,c,B,m1,c1,C,m2,c2,e,h⟩=>⟨kd,s,f,n,op,A,m,c,B,m1,c1,C,m2,c2,e,h.1.up hk (l_),h.2⟩⟩
def kExs (X:XE) (d n:Nat):SK X:=⟨fun w u=>∃ A c,u=.slice A n c/\SlP w X 20 pE (be_ d) A n c,fun w w' u hk _ ⟨A,c,e,h⟩=>⟨A,c,e,h.kept hk (fun _ _ h=>h) (l_)⟩⟩
def kSts (X:XE) (d q:Nat):SK X:=⟨fun w u=>∃ A n c,u=.slice A n c/\n<=q/\SlP w X 20 pS (ag_ d) A n c,fun w w' u hk _ ⟨A,n,c,e,hq,h⟩=>⟨A,n,c,e,hq,h.kept hk (fun _ _ h=>h) (l_)⟩⟩
end
section
variable {P:Program} {Q:Exit->Act->World->Prop} {X:XE} {Inv:World->Prop} {κ:SK X} {o:Oper} {a:Act} {w:World}
theorem bs_ {v:Value} (hr:(execOp a.eval o).run P w=.ok (.value v) w) (hv:κ.p w v) (hI:Inv w):RnK P Q X Inv κ o a w:=fun K hK=>by
 unfold Oper.wp;rw [hr];exact hK _ _ (Kp.refl _ _) (fun h=>h) hI hv
theorem rk_to {v:Value} {w':World} (hr:(execOp a.eval o).run P w=.ok (.value v) w') (hk:Kp X w w') (he:X.e w->X.e w') (hv:κ.p w' v) (hI:Inv w'):RnK P Q X Inv κ o a w:=fun K hK=>by
 unfold Oper.wp;rw [hr];exact hK _ _ hk he hI hv
theorem co_ {f:Nat} {args:Array Value} (hr:(execOp a.eval o).run P w=.ok (.enter f args) w) (hc:Calls P f args w (fun e w'=>∃ v,e=.returned v/\Kp X w w'/\(X.e w->X.e w')/\Inv w'/\κ.p w' v)):RnK P Q X Inv κ o a w:=fun K hK=>by
 unfold Oper.wp;rw [hr];show Calls _ _ _ _ _
 refine hc.mono ?_;rintro e w' ⟨v,rfl,h1,h0,h2,h3⟩;exact hK _ _ h1 h0 h2 h3
theorem bn_ {x:Operand} (ho:o.op=.move x\/o.op=.assign x) (hx:κ.p w (a.eval x)) (hI:Inv w):RnK P Q X Inv κ o a w:=by
 generalize hr:a.eval=r at hx;exact bs_ (v:=r x) vj_ hx hI
theorem cd_ {x:Operand} {p:Addr} (ho:o.op=.nilCheck x) (hx:a.eval x=.pointer (some p)) (hI:Inv w):RnK P Q X Inv (kV X (.pointer (some p))) o a w:=by
 generalize hr:a.eval=r at hx;exact bs_ (v:=.pointer (some p)) (by rw [hr];simp [execOp,ho,hx,go_sem]) rfl hI
end
section
variable {Q:Exit->Act->World->Prop} {X:XE} {Inv:World->Prop} {o:Oper} {a:Act} {w:World} {d b lp:Nat}
theorem cc_ {x:Operand} {f:Nat} (hf:f<4) (ho:o.op=.fieldAddr 205 x f) (hx:a.eval x=.pointer (some (a_ b))) (hI:Inv w):RnK prog Q X Inv (kV X (.pointer (some (f_ b f)))) o a w:=by
 generalize hr:a.eval=r at hx;refine bs_ (v:=.pointer (some (f_ b f))) ?_ rfl hI;rw [hr]
 match f,hf with
 | 0,_=>simp [execOp,ho,hx,go_sem]
 | 1,_=>simp [execOp,ho,hx,go_sem]
 | 2,_=>simp [execOp,ho,hx,go_sem]
 | 3,_=>simp [execOp,ho,hx,go_sem]
theorem rk_load {x:Operand} {T:TypeId} {p:Addr} {v:Value} {κ:SK X} (hT:T=3\/T=2\/T=9\/T=45\/T=192\/T=207) (ho:o.op=.load T x) (hx:a.eval x=.pointer (some p)) (hc:w.cell? p=some v) (hv:κ.p w v) (hI:Inv w):RnK prog Q X Inv κ o a w:=by
 generalize hr:a.eval=r at hx;refine bs_ (v:=v) ?_ hv hI;rw [hr];rcases hT with rfl | rfl | rfl | rfl | rfl | rfl <;> simp [execOp,ho,hx,hc,go_sem]
theorem bl_ {x:Operand} (hC:IC d b lp X Inv) (ho:o.op=.load 45 x) (hx:a.eval x=.pointer (some (a_ b))) (hI:Inv w):RnK prog Q X Inv (kV X (pt d)) o a w :=
 rk_load (.inr (.inr (.inr (.inl rfl)))) ho hx (hC.ok w hI).c0 rfl hI
theorem er_ {x:Operand} (ho:o.op=.load 9 x) (hx:(dj_ X).p w (a.eval x)) (hI:Inv w):RnK prog Q X Inv (kStr X) o a w:=by
 obtain ⟨g,q,s,e,hg,hX,hc,hz⟩:=hx;exact rk_load (.inr (.inr (.inl rfl))) ho e hc ⟨s,rfl,hz⟩ hI
theorem rk_lint {x:Operand} (ho:o.op=.load 3 x) (hx:(kPInt X).p w (a.eval x)) (hI:Inv w):RnK prog Q X Inv (kKind X) o a w:=by
 obtain ⟨g,q,s,e,hg,hX,hc,hz⟩:=hx;exact rk_load (.inl rfl) ho e hc ⟨s,rfl,hz⟩ hI
theorem rk_lint' {x:Operand} (ho:o.op=.load 3 x) (hx:(kPInt' X).p w (a.eval x)) (hI:Inv w):RnK prog Q X Inv (kInt X) o a w:=by
 obtain ⟨g,q,s,e,hg,hX,hc⟩:=hx;exact rk_load (.inl rfl) ho e hc ⟨s,rfl⟩ hI
theorem br_ {x:Operand} {n:Nat} {y:Operand} (hC:IC d b lp X Inv) (ho:o.op=.call { callee:=.value (.func 26),args:=#[x,y],argTypes:=#[45,3] }) (hx:a.eval x=.pointer (some (a_ d))) (hy:a.eval y=i_ n) (h1:1<=n) (hn:n<=1000000) (hI:Inv w):RnK prog Q X Inv (kNat X n) o a w:=by
 have hf:a.eval (.func 26)=.func (.func 26) #[] #[]:=rfl;generalize hr:a.eval=r at hx hy hf;refine co_ (f:=26) (args:=#[.pointer (some (a_ d)),i_ n]) yb_ ((bo_ d n w (hC.ok w hI).dice h1 hn).mono ?_);rintro e w' ⟨q,hq,rfl,ht,_⟩;exact ⟨_,rfl,(ht.kp b).mono (fun k _ hk=>hC.zx k hk),hC.ex w w' hI (ht.kp b),hC.up w w' hI ((hC.ok w hI).thrown ht) (ht.kp b),q,hq,rfl⟩
theorem rk_num {x:Operand} {n:Int} (hC:IC d b lp X Inv) (ho:o.op=.call { callee:=.value (.func 118),args:=#[x],argTypes:=#[2] }) (hx:a.eval x=i_ n) (hI:Inv w):RnK prog Q X Inv (kEx X 0) o a w:=by
 have hf:a.eval (.func 118)=.func (.func 118) #[] #[]:=rfl;generalize hr:a.eval=r at hx hf;refine co_ (f:=118) (args:=#[i_ n]) y1_ ((num_m n w).mono ?_);rintro e w' ⟨rfl,hb⟩;exact ⟨_,rfl,.of_below hb,hC.ex w w' hI (.of_below hb),hC.below hI hb,_,_,_,_,_,_,_,rfl,vts_ex0 _ _ _ _,pE_ex x_ x_ d_⟩
theorem eq_ {x:Operand} (hC:IC d b lp X Inv) (ho:o.op=.call { callee:=.value (.func 119),args:=#[x],argTypes:=#[9] }) (hx:(kStr X).p w (a.eval x)) (hI:Inv w):RnK prog Q X Inv (kEx X 0) o a w:=by
 obtain ⟨s,hs,hz⟩:=hx;have hf:a.eval (.func 119)=.func (.func 119) #[] #[]:=rfl;generalize hr:a.eval=r at hs hf;refine co_ (f:=119) (args:=#[.string s]) (by rw [hr];simp [execOp,ho,hs,hf,go_sem]) ((name_m s w).mono ?_);rintro e w' ⟨rfl,hb⟩;exact ⟨_,rfl,.of_below hb,hC.ex w w' hI (.of_below hb),hC.below hI hb,_,_,_,_,_,_,_,rfl,vts_ex0 _ _ _ _,pE_ex x_ x_ hz⟩
theorem rk_names (hC:IC d b lp X Inv) (ho:o.op=.call { callee:=.value (.func 167),args:=#[],argTypes:=#[] }) (hI:Inv w):RnK prog Q X Inv (bu_ X 5) o a w:=by
 have hf:a.eval (.func 167)=.func (.func 167) #[] #[]:=rfl;generalize hr:a.eval=r at hf;refine co_ (f:=167) (args:=#[]) (by rw [hr];simp [execOp,ho,hf,go_sem]) ((names_m w).mono ?_);rintro e w' ⟨rfl,hz,hb,hc⟩;exact ⟨_,rfl,.of_below hb,hC.ex w w' hI (.of_below hb),hC.below hI hb,w,rfl,o_,fun h=>by have:=hC.lt w hI _ h;omega,hc⟩
theorem rk_len {x:Operand} {n:Nat} (ho:o.op=.call { callee:=.builtin .len,args:=#[x],argTypes:=#[188] }) (hx:(bu_ X n).p w (a.eval x)) (hI:Inv w):RnK prog Q X Inv (kV X (i_ n)) o a w:=by
 obtain ⟨g,e,_⟩:=hx;generalize hr:a.eval=r at e;refine bs_ (v:=i_ n) ?_ rfl hI;rw [hr];simp [execOp,ho,e,go_sem]
theorem rk_idx {x y:Operand} {n:Nat} (ho:o.op=.indexAddr 188 x y) (hx:(bu_ X n).p w (a.eval x)) (hy:(kNat X n).p w (a.eval y)) (hI:Inv w):RnK prog Q X Inv (dj_ X) o a w:=by
 obtain ⟨g,e,hg,hX,hc⟩:=hx;obtain ⟨i,hi,e2⟩:=hy;obtain ⟨s,hs,hz⟩:=hc i hi;generalize hr:a.eval=r at e e2;refine bs_ (v:=.pointer (some (f_ g i))) ?_ ⟨g,i,s,rfl,hg,hX,hs,hz⟩ hI;rw [hr];have A0:(i:Int)<(n:Int):=by omega
 simp [execOp,ho,e,e2,A0,go_sem]
theorem rk_idxi {x y:Operand} {n:Nat} (ho:o.op=.indexAddr 30 x y) (hx:(kInts X n).p w (a.eval x)) (hy:(kNat X n).p w (a.eval y)) (hI:Inv w):RnK prog Q X Inv (kPInt X) o a w:=by
 obtain ⟨g,e,hg,hX,hc⟩:=hx;obtain ⟨i,hi,e2⟩:=hy;obtain ⟨s,hs,hz⟩:=hc i hi;generalize hr:a.eval=r at e e2;refine bs_ (v:=.pointer (some (f_ g i))) ?_ ⟨g,i,s,rfl,hg,hX,hs,hz⟩ hI;rw [hr];have A0:(i:Int)<(n:Int):=by omega
 simp [execOp,ho,e,e2,A0,go_sem]
theorem rk_idxi' {x y:Operand} {n:Nat} (ho:o.op=.indexAddr 30 x y) (hx:(kInts' X n).p w (a.eval x)) (hy:(kNat X n).p w (a.eval y)) (hI:Inv w):RnK prog Q X Inv (kPInt' X) o a w:=by
 obtain ⟨g,e,hg,hX,hc⟩:=hx;obtain ⟨i,hi,e2⟩:=hy;obtain ⟨s,hs⟩:=hc i hi;generalize hr:a.eval=r at e e2;refine bs_ (v:=.pointer (some (f_ g i))) ?_ ⟨g,i,s,rfl,hg,hX,hs⟩ hI;rw [hr];have A0:(i:Int)<(n:Int):=by omega
 simp [execOp,ho,e,e2,A0,go_sem]
end
theorem statement_step (kd:Int) (s f:ByteArray) (n op:Int) (A B C:OA) (m c m1 c1 m2 c2:Nat) (X:NP) (K:Nat) (hK:K<=900000000) (d:Nat) (w:World) (hp:SlP w X K pE (be_ d) A m c) (hsz:s.size<=100/\f.size<=100) :
  Calls prog 202 #[.agg #[i_ kd,.string s,.string f,i_ n,i_ op,.slice A m c,.slice B m1 c1,.slice C m2 c2]] w fun e w'=>RB e/\Below w w w':=by
 obtain ⟨W,hW,A7,Ae,B0⟩:=af_ w [i_ kd,.string s,.string f,i_ n,i_ op,.slice A m c,.slice B m1 c1,.slice C m2 c2] 212;have KC:=h_ (∀ w',Below W W w'->StB w' w kd s f n op A B C m c m1 c1 m2 c2) (fun w' hb =>
  ⟨(B0.below hb).2.1 0 _ rfl,(B0.below hb).2.1 1 _ rfl,(B0.below hb).2.1 2 _ rfl,(B0.below hb).2.1 3 _ rfl,(B0.below hb).2.1 4 _ rfl,(B0.below hb).2.1 5 _ rfl,(B0.below hb).2.1 6 _ rfl,(B0.below hb).2.1 7 _ rfl⟩)
 have HW:=q_ A7;have HP:=q_ hp;have HS:=q_ hsz;have Ah:=hp.sl.le;obtain ⟨x0,x1,x2,x3,x4,x5,x6,x7⟩:=KC.o W (b_);clear B0 A7 hp hsz;go_enter func202,ntmps202;go_upto_region 1 with fail;rw [<-hW];clear hW;go_wp2_with fail;refine (parts_any kd W).mono ?_;rintro e W1 ⟨⟨q3,b4,b5,b6,b7,b8,b9,Ab,rfl⟩,A5⟩;have H1:=q_ A5;clear x0 x1 x2 x3 x4 x5 x6 x7 A5;obtain ⟨x0,x1,x2,x3,x4,x5,x6,x7⟩:=KC.o W1 H1.o;cases Ab
 case false =>
  go_wp2;go_ret;exact ⟨⟨_,rfl⟩,zg_⟩
 go_upto_region 2 with fail;go_cut [45] (fun v wx=>∃ b:Bool,v=.bool b/\Hid (wx=W1))
 case first =>
  go_wp2;all_goals
   go_meet;exact ⟨_,rfl,q_ rfl⟩
 rename World=>wx
 obtain ⟨b,rfl,A9⟩:=hcut;have hw:=A9.o;subst hw;clear A9;cases b
 case true =>
  go_wp2;go_ret;exact ⟨⟨_,rfl⟩,zg_⟩
 go_upto_region 5 with fail;go_loopw [49] (fun i wr=>∃ k:Nat,k<=m/\i=i_ k/\Hid (Below wx wx wr)) (fun i _=>m - (intOf i).toNat)
 case atStart=>exact ⟨0,o_,rfl,q_ (b_)⟩
 obtain ⟨k,Ag,rfl,HR⟩:=hrel;have A2:=q_ (H1.o.trans (HR.o.mono H1.o.size));have A1:=q_ (HW.o.trans (A2.o.mono HW.o.size));have Ai:(w:Nat)<=wr:=A1.o.size;have Aj:(wx:Nat)<=wr:=HR.o.size;clear x0 x1 x2 x3 x4 x5 x6 x7;by_cases hlt:k<m
 ·have A3:(k:Int)<(m:Int):=by omega
  obtain ⟨g,o,us,rfl,hg,hX,hu,A8,hc⟩:=HP.o.el hlt;have Aa:=q_ A8;obtain ⟨Ac,n',s',Ad,A',m',c',rfl,_,_,_⟩:=A8;rw [ee_] at hc;have A0:∀ j,wr.cell? (f_ g j)=w.cell? (f_ g j):=fun j=>belc A1.o hg
  have Af:g<wr:=lt_ hg A1.o.size;have k0:wr.cell? ⟨g,o+k*5,none⟩=some (i_ Ac):=(A0 _).trans (hc 0 _ rfl);have k1:wr.cell? ⟨g,o+k*5+1,none⟩=some (i_ n'):=(A0 _).trans (hc 1 _ rfl);have k2:wr.cell? ⟨g,o+k*5+2,none⟩=some (.string s'):=(A0 _).trans (hc 2 _ rfl);have k3:wr.cell? ⟨g,o+k*5+3,none⟩=some (i_ Ad):=(A0 _).trans (hc 3 _ rfl);have k4:wr.cell? ⟨g,o+k*5+4,none⟩=some (.slice A' m' c'):=(A0 _).trans (hc 4 _ rfl);have HU:=q_ (hu.up (Kp.of_below A1.o) (l_));clear A0 hc hu;go_wp2_with (go_at_call 208;refine (Expr_any X K hK d _ _ (HU.o.up (Kp.of_below (bel (b_))) (l_)) Aa.o).mono ?_;rintro e w1 ⟨⟨r,rfl⟩,hb⟩;have A4:=h_ (Below wx wx w1) (Below.trans (b:=_) (bel HR.o) (hb.mono (by simp <;> (have:=HR.o.size;omega)))));all_goals first
   | (go_ret;exact ⟨⟨_,rfl⟩,(by repeat (first | (with_reducible exact (HW.o.trans ((H1.o.trans (A4.o.mono H1.o.size)).mono HW.o.size))) | (with_reducible refine Below.drew ?_) | (with_reducible refine below_drewN ?_ _) | (with_reducible refine Below.setCell ?_ ?_ _;rotate_left;(first | omega | (simp <;> omega))) | (with_reducible refine Below.alloc ?_ ?_ _;rotate_left;(first | omega | (simp <;> omega)))))⟩)
   | (go_roundw
      case rel=>exact ⟨k+1,o_,zc_,A4⟩
      case measure=>exact me_)
 have A3:¬(k:Int)<(m:Int):=by omega
 obtain ⟨x0,x1,x2,x3,x4,x5,x6,x7⟩:=KC.o wr A2.o;go_wp2_with fail;refine (Name_any op wr).mono ?_;rintro e W2 ⟨⟨sx,bo,rfl⟩,A6⟩;have H2:=q_ (A2.o.trans (A6.mono A2.o.size));clear x0 x1 x2 x3 x4 x5 x6 x7 A6;obtain ⟨x0,x1,x2,x3,x4,x5,x6,x7⟩:=KC.o W2 H2.o;clear x0 x1 x2 x3 x4 x5 x6 x7;go_upto_region 11 with fail;refine wp_region_list ?_;simp only [];refine abs_wp (fun a w'=>St 150 w [(14,0,none),(9,0,none),(8,0,none),(7,0,none),(6,0,none),(5,0,none),(4,0,none),(1,4,none)] a/\Below W W w') ⟨?_,H2.o⟩ (fun a w ⟨H,HI⟩=>?_)
 ·refine St.know ?_ 14 ⟨_,rfl⟩;refine St.know ?_ 9 ⟨_,rfl⟩;refine St.know ?_ 8 ⟨_,rfl⟩;refine St.know ?_ 7 ⟨_,rfl⟩;refine St.know ?_ 6 ⟨_,rfl⟩;refine St.know ?_ 5 ⟨_,rfl⟩;refine St.know ?_ 4 ⟨_,rfl⟩;refine St.know ?_ 1 rfl;exact St.start rfl rfl
 refine st_u 0 H rfl rfl d_ d_ (bi_ (.inl rfl) (H.get (t:=4) d_) HI) (fun a w H HI=>?_);refine st_u 0 H rfl rfl d_ d_ (bi_ (.inl rfl) (H.get (t:=63) d_) HI) (fun a w H HI=>?_);refine st_g 5 H HI rfl rfl d_ d_ rfl d_ d_ (fun hw=>dq_ (f:=1) rfl d_ (H.get (t:=1) d_) HI) (fun a w H HI=>?_);refine st_g 2 H HI rfl rfl d_ d_ rfl d_ d_ (fun hw=>es_ (f:=1) d_ rfl (H.getg (t:=65) d_ hw) (KC.o _ HI).y1 ⟨_,rfl,HS.o.1⟩ HI) (fun a w H HI=>?_);refine st_g 0 H HI rfl rfl d_ d_ rfl d_ d_ (fun hw=>rn_name rfl (H.getg (t:=66) d_ hw) (fun w' hb=>HI.trans (hb.mono HI.size))) (fun a w H HI=>?_);refine st_u 0 H rfl rfl d_ d_ (cb_ rfl (H.get (t:=64) d_) (fun hc=>(H.getg (t:=67) d_ hc)) (fun _=>⟨_,rfl⟩) HI) (fun a w H HI=>?_);refine st_u 0 H rfl rfl d_ d_ (bi_ (.inl rfl) (H.get (t:=68) d_) HI) (fun a w H HI=>?_);refine st_g 0 H HI rfl rfl d_ d_ rfl d_ d_ (fun hw=>bi_ (.inl rfl) (H.get (t:=4) d_) HI) (fun a w H HI=>?_);refine st_g 0 H HI rfl rfl d_ d_ rfl d_ d_ (fun hw=>rn_not rfl (H.getg (t:=70) d_ hw) HI) (fun a w H HI=>?_);refine st_g 0 H HI rfl rfl d_ d_ rfl d_ d_ (fun hw=>bi_ (.inl rfl) (H.getg (t:=71) d_ hw) HI) (fun a w H HI=>?_);refine st_g 5 H HI rfl rfl d_ d_ rfl d_ d_ (fun hw=>dq_ (f:=1) rfl d_ (H.get (t:=1) d_) HI) (fun a w H HI=>?_);refine st_g 2 H HI rfl rfl d_ d_ rfl d_ d_ (fun hw=>es_ (f:=1) d_ rfl (H.getg (t:=73) d_ hw) (KC.o _ HI).y1 ⟨_,rfl,HS.o.1⟩ HI) (fun a w H HI=>?_);refine st_g 0 H HI rfl rfl d_ d_ rfl d_ d_ (fun hw=>rn_eqs rfl (H.getg (t:=74) d_ hw) ⟨_,rfl,d_⟩ HI) (fun a w H HI=>?_);refine st_g 0 H HI rfl rfl d_ d_ rfl d_ d_ (fun hw=>cb_ rfl (H.getg (t:=72) d_ hw) (fun hc=>(H.getg (t:=75) d_ hc)) (fun _=>⟨_,rfl⟩) HI) (fun a w H HI=>?_);refine st_u 0 H rfl rfl d_ d_ (cb_ rfl (H.get (t:=69) d_) (fun _=>⟨_,rfl⟩) (fun hc=>(H.getg (t:=76) d_ hc)) HI) (fun a w H HI=>?_);refine st_u 0 H rfl rfl d_ d_ (bi_ (.inl rfl) (H.get (t:=77) d_) HI) (fun a w H HI=>?_);refine st_g 0 H HI rfl rfl d_ d_ rfl d_ d_ (fun hw=>bi_ (.inl rfl) (H.get (t:=5) d_) HI) (fun a w H HI=>?_);refine st_g 0 H HI rfl rfl d_ d_ rfl d_ d_ (fun hw=>bi_ (.inl rfl) (H.getg (t:=79) d_ hw) HI) (fun a w H HI=>?_);refine st_g 6 H HI rfl rfl d_ d_ rfl d_ d_ (fun hw=>dq_ (f:=2) rfl d_ (H.get (t:=1) d_) HI) (fun a w H HI=>?_);refine st_g 2 H HI rfl rfl d_ d_ rfl d_ d_ (fun hw=>es_ (f:=2) d_ rfl (H.getg (t:=81) d_ hw) (KC.o _ HI).y2 ⟨_,rfl,HS.o.2⟩ HI) (fun a w H HI=>?_);refine st_g 0 H HI rfl rfl d_ d_ rfl d_ d_ (fun hw=>rn_name rfl (H.getg (t:=82) d_ hw) (fun w' hb=>HI.trans (hb.mono HI.size))) (fun a w H HI=>?_);refine st_g 0 H HI rfl rfl d_ d_ rfl d_ d_ (fun hw=>cb_ rfl (H.getg (t:=80) d_ hw) (fun hc=>(H.getg (t:=83) d_ hc)) (fun _=>⟨_,rfl⟩) HI) (fun a w H HI=>?_);refine st_g 0 H HI rfl rfl d_ d_ rfl d_ d_ (fun hw=>bi_ (.inl rfl) (H.getg (t:=84) d_ hw) HI) (fun a w H HI=>?_);refine st_g 0 H HI rfl rfl d_ d_ rfl d_ d_ (fun hw=>bi_ (.inl rfl) (H.get (t:=5) d_) HI) (fun a w H HI=>?_);refine st_g 0 H HI rfl rfl d_ d_ rfl d_ d_ (fun hw=>rn_not rfl (H.getg (t:=86) d_ hw) HI) (fun a w H HI=>?_)
 refine st_g 0 H HI rfl rfl d_ d_ rfl d_ d_ (fun hw=>bi_ (.inl rfl) (H.getg (t:=87) d_ hw) HI) (fun a w H HI=>?_);refine st_g 6 H HI rfl rfl d_ d_ rfl d_ d_ (fun hw=>dq_ (f:=2) rfl d_ (H.get (t:=1) d_) HI) (fun a w H HI=>?_);refine st_g 2 H HI rfl rfl d_ d_ rfl d_ d_ (fun hw=>es_ (f:=2) d_ rfl (H.getg (t:=89) d_ hw) (KC.o _ HI).y2 ⟨_,rfl,HS.o.2⟩ HI) (fun a w H HI=>?_);refine st_g 0 H HI rfl rfl d_ d_ rfl d_ d_ (fun hw=>rn_eqs rfl (H.getg (t:=90) d_ hw) ⟨_,rfl,d_⟩ HI) (fun a w H HI=>?_);refine st_g 0 H HI rfl rfl d_ d_ rfl d_ d_ (fun hw=>cb_ rfl (H.getg (t:=88) d_ hw) (fun hc=>(H.getg (t:=91) d_ hc)) (fun _=>⟨_,rfl⟩) HI) (fun a w H HI=>?_);refine st_g 0 H HI rfl rfl d_ d_ rfl d_ d_ (fun hw=>cb_ rfl (H.getg (t:=85) d_ hw) (fun _=>⟨_,rfl⟩) (fun hc=>(H.getg (t:=92) d_ hc)) HI) (fun a w H HI=>?_);refine st_u 0 H rfl rfl d_ d_ (cb_ rfl (H.get (t:=78) d_) (fun hc=>(H.getg (t:=93) d_ hc)) (fun _=>⟨_,rfl⟩) HI) (fun a w H HI=>?_);refine st_u 0 H rfl rfl d_ d_ (bi_ (.inl rfl) (H.get (t:=94) d_) HI) (fun a w H HI=>?_);refine st_g 0 H HI rfl rfl d_ d_ rfl d_ d_ (fun hw=>bi_ (.inl rfl) (H.get (t:=6) d_) HI) (fun a w H HI=>?_);refine st_g 0 H HI rfl rfl d_ d_ rfl d_ d_ (fun hw=>bi_ (.inl rfl) (H.getg (t:=96) d_ hw) HI) (fun a w H HI=>?_);refine st_g 7 H HI rfl rfl d_ d_ rfl d_ d_ (fun hw=>dq_ (f:=3) rfl d_ (H.get (t:=1) d_) HI) (fun a w H HI=>?_);refine st_g 1 H HI rfl rfl d_ d_ rfl d_ d_ (fun hw=>es_ (f:=3) d_ rfl (H.getg (t:=98) d_ hw) (KC.o _ HI).y3 ⟨_,rfl⟩ HI) (fun a w H HI=>?_);refine st_g 0 H HI rfl rfl d_ d_ rfl d_ d_ (fun hw=>rn_cmp d_ d_ rfl (H.getg (t:=99) d_ hw) ⟨_,rfl⟩ HI) (fun a w H HI=>?_);refine st_g 0 H HI rfl rfl d_ d_ rfl d_ d_ (fun hw=>cb_ rfl (H.getg (t:=97) d_ hw) (fun hc=>(H.getg (t:=100) d_ hc)) (fun _=>⟨_,rfl⟩) HI) (fun a w H HI=>?_);refine st_g 0 H HI rfl rfl d_ d_ rfl d_ d_ (fun hw=>bi_ (.inl rfl) (H.getg (t:=101) d_ hw) HI) (fun a w H HI=>?_);refine st_g 7 H HI rfl rfl d_ d_ rfl d_ d_ (fun hw=>dq_ (f:=3) rfl d_ (H.get (t:=1) d_) HI) (fun a w H HI=>?_);refine st_g 1 H HI rfl rfl d_ d_ rfl d_ d_ (fun hw=>es_ (f:=3) d_ rfl (H.getg (t:=103) d_ hw) (KC.o _ HI).y3 ⟨_,rfl⟩ HI) (fun a w H HI=>?_);refine st_g 0 H HI rfl rfl d_ d_ rfl d_ d_ (fun hw=>rn_cmp d_ d_ rfl (H.getg (t:=104) d_ hw) ⟨_,rfl⟩ HI) (fun a w H HI=>?_);refine st_g 0 H HI rfl rfl d_ d_ rfl d_ d_ (fun hw=>cb_ rfl (H.getg (t:=102) d_ hw) (fun hc=>(H.getg (t:=105) d_ hc)) (fun _=>⟨_,rfl⟩) HI) (fun a w H HI=>?_);refine st_g 0 H HI rfl rfl d_ d_ rfl d_ d_ (fun hw=>bi_ (.inl rfl) (H.getg (t:=106) d_ hw) HI) (fun a w H HI=>?_);refine st_g 0 H HI rfl rfl d_ d_ rfl d_ d_ (fun hw=>bi_ (.inl rfl) (H.get (t:=6) d_) HI) (fun a w H HI=>?_);refine st_g 0 H HI rfl rfl d_ d_ rfl d_ d_ (fun hw=>rn_not rfl (H.getg (t:=108) d_ hw) HI) (fun a w H HI=>?_);refine st_g 0 H HI rfl rfl d_ d_ rfl d_ d_ (fun hw=>bi_ (.inl rfl) (H.getg (t:=109) d_ hw) HI) (fun a w H HI=>?_);refine st_g 7 H HI rfl rfl d_ d_ rfl d_ d_ (fun hw=>dq_ (f:=3) rfl d_ (H.get (t:=1) d_) HI) (fun a w H HI=>?_)
 refine st_g 1 H HI rfl rfl d_ d_ rfl d_ d_ (fun hw=>es_ (f:=3) d_ rfl (H.getg (t:=111) d_ hw) (KC.o _ HI).y3 ⟨_,rfl⟩ HI) (fun a w H HI=>?_);refine st_g 0 H HI rfl rfl d_ d_ rfl d_ d_ (fun hw=>rn_cmp d_ d_ rfl (H.getg (t:=112) d_ hw) ⟨_,rfl⟩ HI) (fun a w H HI=>?_);refine st_g 0 H HI rfl rfl d_ d_ rfl d_ d_ (fun hw=>cb_ rfl (H.getg (t:=110) d_ hw) (fun hc=>(H.getg (t:=113) d_ hc)) (fun _=>⟨_,rfl⟩) HI) (fun a w H HI=>?_);refine st_g 0 H HI rfl rfl d_ d_ rfl d_ d_ (fun hw=>cb_ rfl (H.getg (t:=107) d_ hw) (fun _=>⟨_,rfl⟩) (fun hc=>(H.getg (t:=114) d_ hc)) HI) (fun a w H HI=>?_);refine st_u 0 H rfl rfl d_ d_ (cb_ rfl (H.get (t:=95) d_) (fun hc=>(H.getg (t:=115) d_ hc)) (fun _=>⟨_,rfl⟩) HI) (fun a w H HI=>?_);refine st_u 0 H rfl rfl d_ d_ (bi_ (.inl rfl) (H.get (t:=116) d_) HI) (fun a w H HI=>?_);refine st_g 0 H HI rfl rfl d_ d_ rfl d_ d_ (fun hw=>bi_ (.inl rfl) (H.get (t:=7) d_) HI) (fun a w H HI=>?_);refine st_g 0 H HI rfl rfl d_ d_ rfl d_ d_ (fun hw=>bi_ (.inl rfl) (H.getg (t:=118) d_ hw) HI) (fun a w H HI=>?_);refine st_g 0 H HI rfl rfl d_ d_ rfl d_ d_ (fun hw=>bi_ (.inl rfl) (H.get (t:=14) d_) HI) (fun a w H HI=>?_);refine st_g 0 H HI rfl rfl d_ d_ rfl d_ d_ (fun hw=>cb_ rfl (H.getg (t:=119) d_ hw) (fun hc=>(H.getg (t:=120) d_ hc)) (fun _=>⟨_,rfl⟩) HI) (fun a w H HI=>?_);refine st_g 0 H HI rfl rfl d_ d_ rfl d_ d_ (fun hw=>bi_ (.inl rfl) (H.getg (t:=121) d_ hw) HI) (fun a w H HI=>?_);refine st_g 0 H HI rfl rfl d_ d_ rfl d_ d_ (fun hw=>bi_ (.inl rfl) (H.get (t:=7) d_) HI) (fun a w H HI=>?_);refine st_g 0 H HI rfl rfl d_ d_ rfl d_ d_ (fun hw=>rn_not rfl (H.getg (t:=123) d_ hw) HI) (fun a w H HI=>?_);refine st_g 0 H HI rfl rfl d_ d_ rfl d_ d_ (fun hw=>bi_ (.inl rfl) (H.getg (t:=124) d_ hw) HI) (fun a w H HI=>?_);refine st_g 8 H HI rfl rfl d_ d_ rfl d_ d_ (fun hw=>dq_ (f:=4) rfl d_ (H.get (t:=1) d_) HI) (fun a w H HI=>?_);refine st_g 1 H HI rfl rfl d_ d_ rfl d_ d_ (fun hw=>es_ (f:=4) d_ rfl (H.getg (t:=126) d_ hw) (KC.o _ HI).y4 ⟨_,rfl⟩ HI) (fun a w H HI=>?_);refine st_g 0 H HI rfl rfl d_ d_ rfl d_ d_ (fun hw=>rn_cmp d_ d_ rfl (H.getg (t:=127) d_ hw) ⟨_,rfl⟩ HI) (fun a w H HI=>?_);refine st_g 0 H HI rfl rfl d_ d_ rfl d_ d_ (fun hw=>cb_ rfl (H.getg (t:=125) d_ hw) (fun hc=>(H.getg (t:=128) d_ hc)) (fun _=>⟨_,rfl⟩) HI) (fun a w H HI=>?_);refine st_g 0 H HI rfl rfl d_ d_ rfl d_ d_ (fun hw=>cb_ rfl (H.getg (t:=122) d_ hw) (fun _=>⟨_,rfl⟩) (fun hc=>(H.getg (t:=129) d_ hc)) HI) (fun a w H HI=>?_);refine st_u 0 H rfl rfl d_ d_ (cb_ rfl (H.get (t:=117) d_) (fun hc=>(H.getg (t:=130) d_ hc)) (fun _=>⟨_,rfl⟩) HI) (fun a w H HI=>?_);refine st_u 0 H rfl rfl d_ d_ (bi_ (.inl rfl) (H.get (t:=131) d_) HI) (fun a w H HI=>?_);refine st_g 0 H HI rfl rfl d_ d_ rfl d_ d_ (fun hw=>bi_ (.inl rfl) (H.get (t:=8) d_) HI) (fun a w H HI=>?_);refine st_g 0 H HI rfl rfl d_ d_ rfl d_ d_ (fun hw=>bi_ (.inl rfl) (H.getg (t:=133) d_ hw) HI) (fun a w H HI=>?_);refine st_g 10 H HI rfl rfl d_ d_ rfl d_ d_ (fun hw=>dq_ (f:=6) rfl d_ (H.get (t:=1) d_) HI) (fun a w H HI=>?_)
 refine st_g 3 H HI rfl rfl d_ d_ rfl d_ d_ (fun hw=>es_ (f:=6) d_ rfl (H.getg (t:=135) d_ hw) (KC.o _ HI).y6 ⟨_,_,_,rfl⟩ HI) (fun a w H HI=>?_);refine st_g 1 H HI rfl rfl d_ d_ rfl d_ d_ (fun hw=>rn_len d_ rfl (H.getg (t:=136) d_ hw) HI) (fun a w H HI=>?_);refine st_g 0 H HI rfl rfl d_ d_ rfl d_ d_ (fun hw=>rn_cmp d_ d_ rfl (H.getg (t:=137) d_ hw) ⟨_,rfl⟩ HI) (fun a w H HI=>?_);refine st_g 0 H HI rfl rfl d_ d_ rfl d_ d_ (fun hw=>cb_ rfl (H.getg (t:=134) d_ hw) (fun _=>⟨_,rfl⟩) (fun hc=>(H.getg (t:=138) d_ hc)) HI) (fun a w H HI=>?_);refine st_u 0 H rfl rfl d_ d_ (cb_ rfl (H.get (t:=132) d_) (fun hc=>(H.getg (t:=139) d_ hc)) (fun _=>⟨_,rfl⟩) HI) (fun a w H HI=>?_);refine st_u 0 H rfl rfl d_ d_ (bi_ (.inl rfl) (H.get (t:=140) d_) HI) (fun a w H HI=>?_);refine st_g 0 H HI rfl rfl d_ d_ rfl d_ d_ (fun hw=>bi_ (.inl rfl) (H.get (t:=9) d_) HI) (fun a w H HI=>?_);refine st_g 0 H HI rfl rfl d_ d_ rfl d_ d_ (fun hw=>bi_ (.inl rfl) (H.getg (t:=142) d_ hw) HI) (fun a w H HI=>?_);refine st_g 11 H HI rfl rfl d_ d_ rfl d_ d_ (fun hw=>dq_ (f:=7) rfl d_ (H.get (t:=1) d_) HI) (fun a w H HI=>?_);refine st_g 3 H HI rfl rfl d_ d_ rfl d_ d_ (fun hw=>es_ (f:=7) d_ rfl (H.getg (t:=144) d_ hw) (KC.o _ HI).y7 ⟨_,_,_,rfl⟩ HI) (fun a w H HI=>?_);refine st_g 1 H HI rfl rfl d_ d_ rfl d_ d_ (fun hw=>rn_len d_ rfl (H.getg (t:=145) d_ hw) HI) (fun a w H HI=>?_);refine st_g 0 H HI rfl rfl d_ d_ rfl d_ d_ (fun hw=>rn_cmp d_ d_ rfl (H.getg (t:=146) d_ hw) ⟨_,rfl⟩ HI) (fun a w H HI=>?_);refine st_g 0 H HI rfl rfl d_ d_ rfl d_ d_ (fun hw=>cb_ rfl (H.getg (t:=143) d_ hw) (fun _=>⟨_,rfl⟩) (fun hc=>(H.getg (t:=147) d_ hc)) HI) (fun a w H HI=>?_);refine st_u 0 H rfl rfl d_ d_ (cb_ rfl (H.get (t:=141) d_) (fun hc=>(H.getg (t:=148) d_ hc)) (fun _=>⟨_,rfl⟩) HI) (fun a w H HI=>?_);refine st_u 0 H rfl rfl d_ d_ (bi_ (.inr rfl) (H.get (t:=149) d_) HI) (fun a w H HI=>?_);have h2:=H.get (t:=2) (k:=0) d_;obtain ⟨tm,df⟩:=a;obtain rfl:df=[]:=H.df;obtain ⟨x,hx⟩:=h2;have hx:tm.getD 2 undef=.bool x:=hx;refine wpList_nil ?_;go_wp2_with fail;refine bodyPost_ret (results_tmp zd_ _ _ _) rfl ?_;rw [hx];exact ⟨⟨_,rfl⟩,HW.o.trans (HI.mono HW.o.size)⟩
section
variable {X:XE} {w:World}
theorem bj_ {d d':Nat} {v:Value} (hd:d<=d') (h:(kEx X d).p w v):(kEx X d').p w v:=by
 obtain ⟨kd,n,s,op,A,m,c,e,h1,h2⟩:=h;exact ⟨kd,n,s,op,A,m,c,e,exprT_le hd h1 h2,h2⟩
theorem dl_ {d d':Nat} {v:Value} (hd:d<=d') (h:(kSt X d).p w v):(kSt X d').p w v:=by
 obtain ⟨kd,s,f,n,op,A,m,c,B,m1,c1,C,m2,c2,e,h1,h2⟩:=h;exact ⟨kd,s,f,n,op,A,m,c,B,m1,c1,C,m2,c2,e,stmtT_le hd h1 h2,h2⟩
theorem cx_ {n:Nat} {v:Value} (h:(kNat X n).p w v):(kInt X).p w v:=by
 obtain ⟨r,_,e⟩:=h;exact ⟨_,e⟩
end
section
variable {Q:Exit->Act->World->Prop} {X:XE} {Inv:World->Prop} {o:Oper} {a:Act} {w:World} {d b lp:Nat}
theorem rk_bin {x y z:Operand} {e:Nat} (hC:IC d b lp X Inv) (ho:o.op=.call { callee:=.value (.func 117),args:=#[x,y,z],argTypes:=#[3,209,209] }) (hx:(kInt X).p w (a.eval x)) (hy:(kEx X e).p w (a.eval y)) (hz:(kEx X e).p w (a.eval z)) (hI:Inv w):RnK prog Q X Inv (kEx X (e+1)) o a w:=by
 obtain ⟨q,hx⟩:=hx;obtain ⟨kd,n,s,op,A,m,c,hy,h1⟩:=hy;obtain ⟨A0,n',s',A1,A',m',c',hz,h2⟩:=hz;have hf:a.eval (.func 117)=.func (.func 117) #[] #[]:=rfl;generalize hr:a.eval=r at hx hy hz hf;refine co_ (f:=117) (args:=#[i_ q,.agg #[i_ kd,i_ n,.string s,i_ op,.slice A m c],.agg #[i_ A0,i_ n',.string s',i_ A1,.slice A' m' c']]) xv_ ((bin_m X e q kd n s op A m c A0 n' s' A1 A' m' c' w h1 h2 (hC.lt w hI)).mono ?_);rintro e w' ⟨⟨kd,n,s,op,A,m,c,rfl,h⟩,hb⟩;exact ⟨_,rfl,.of_below hb,hC.ex w w' hI (.of_below hb),hC.below hI hb,_,_,_,_,_,_,_,rfl,h.o⟩
theorem dn_ {x y:Operand} (hC:IC d b lp X Inv) (ho:o.op=.call { callee:=.value (.func 116),args:=#[x,y],argTypes:=#[9,209] }) (hx:(kStr X).p w (a.eval x)) (hy:(kEx X dE).p w (a.eval y)) (hI:Inv w):RnK prog Q X Inv (kSt X 0) o a w:=by
 obtain ⟨t,hx,ht⟩:=hx;obtain ⟨kd,n,s,op,A,m,c,hy,h1⟩:=hy;have hf:a.eval (.func 116)=.func (.func 116) #[] #[]:=rfl;generalize hr:a.eval=r at hx hy hf;refine co_ (f:=116) (args:=#[.string t,.agg #[i_ kd,i_ n,.string s,i_ op,.slice A m c]]) yb_ ((set_m X t kd n s op A m c w ht h1 (hC.lt w hI)).mono ?_);rintro e w' ⟨⟨kd,s,f,n,op,A,m,c,B,m1,c1,C,m2,c2,rfl,h⟩,hb⟩;exact ⟨_,rfl,.of_below hb,hC.ex w w' hI (.of_below hb),hC.below hI hb,_,_,_,_,_,_,_,_,_,_,_,_,_,_,rfl,h.o⟩
theorem aw_ (w:World) (cs:Array Value) (t:TypeId):Below w w (w.alloc (.cells cs t)):=(b_).alloc (l_) _
theorem du_ {x:Operand} {e:Nat} (hC:IC d b lp X Inv) (ho:o.op=.buildSlice 207 1 #[(0,x)]) (hx:(kEx X e).p w (a.eval x)) (hI:Inv w):RnK prog Q X Inv (kExs X e 1) o a w:=by
 obtain ⟨kd,n,s,op,A,m,c,hx,h1⟩:=hx;generalize hr:a.eval=r at hx;refine rk_to (v:=.slice (some (a_ w)) 1 1) (w':=w.alloc (.cells (exL kd n s op A m c).toArray 209)) x4_ (.of_below (aw_ w _ _)) (hC.ex w _ hI (.of_below (aw_ w _ _))) ?_ (hC.below hI (aw_ w _ _));exact ⟨_,_,rfl,SlP.one (Bx.new w _ _) (fun h=>by have:=hC.lt w hI _ h;omega) d_ (h1.1.up (.of_below (aw_ w _ _)) (l_)) h1.2⟩
theorem rk_bse2 {x y:Operand} {e:Nat} (hC:IC d b lp X Inv) (ho:o.op=.buildSlice 207 2 #[(0,x),(1,y)]) (hx:(kEx X e).p w (a.eval x)) (hy:(kEx X e).p w (a.eval y)) (hI:Inv w):RnK prog Q X Inv (kExs X e 2) o a w:=by
 obtain ⟨kd,n,s,op,A,m,c,hx,h1⟩:=hx;obtain ⟨A0,n',s',A1,A',m',c',hy,h2⟩:=hy;generalize hr:a.eval=r at hx hy;refine rk_to (v:=.slice (some (a_ w)) 2 2) (w':=w.alloc (.cells (exL kd n s op A m c ++ exL A0 n' s' A1 A' m' c').toArray 209)) (by rw [hr];simp [execOp,ho,hx,hy,go_sem];rfl) (.of_below (aw_ w _ _)) (hC.ex w _ hI (.of_below (aw_ w _ _))) ?_ (hC.below hI (aw_ w _ _));exact ⟨_,_,rfl,SlP.two (Bx.new w _ _) (fun h=>by have:=hC.lt w hI _ h;omega) d_ (h1.1.up (.of_below (aw_ w _ _)) (l_)) h1.2 (h2.1.up (.of_below (aw_ w _ _)) (l_)) h2.2⟩
theorem rk_bst1 {s0:ByteArray} (hC:IC d b lp X Inv) (ho:o.op=.buildSlice 188 1 #[(0,.const (.string s0))]) (h0:s0.size<=100) (hI:Inv w):RnK prog Q X Inv (bu_ X 1) o a w:=by
 have e0:a.eval (.const (.string s0))=.string s0:=rfl;refine rk_to (v:=.slice (some (a_ w)) 1 1) (w':=w.alloc (.cells #[.string s0] 9)) (by generalize a.eval=r at e0;simp [execOp,ho,e0,go_sem]) (.of_below (aw_ w _ _)) (hC.ex w _ hI (.of_below (aw_ w _ _))) ?_ (hC.below hI (aw_ w _ _));refine ⟨w,rfl,zm_,fun h=>by have:=hC.lt w hI _ h;omega,fun i hi=>?_⟩
 match i,hi with
 | 0,_=>exact ⟨_,zh_,h0⟩
theorem rk_bst2 {s0 s1:ByteArray} (hC:IC d b lp X Inv) (ho:o.op=.buildSlice 188 2 #[(0,.const (.string s0)),(1,.const (.string s1))]) (h0:s0.size<=100) (h1:s1.size<=100) (hI:Inv w):RnK prog Q X Inv (bu_ X 2) o a w:=by
 have e0:a.eval (.const (.string s0))=.string s0:=rfl;have e1:a.eval (.const (.string s1))=.string s1:=rfl;refine rk_to (v:=.slice (some (a_ w)) 2 2) (w':=w.alloc (.cells #[.string s0,.string s1] 9)) w6_ (.of_below (aw_ w _ _)) (hC.ex w _ hI (.of_below (aw_ w _ _))) ?_ (hC.below hI (aw_ w _ _));refine ⟨w,rfl,zm_,fun h=>by have:=hC.lt w hI _ h;omega,fun i hi=>?_⟩
 match i,hi with
 | 0,_=>exact ⟨_,zh_,h0⟩
 | 1,_=>exact ⟨_,zh_,h1⟩
theorem rk_bst3 {s0 s1 s2:ByteArray} (hC:IC d b lp X Inv) (ho:o.op=.buildSlice 188 3 #[(0,.const (.string s0)),(1,.const (.string s1)),(2,.const (.string s2))]) (h0:s0.size<=100) (h1:s1.size<=100) (h2:s2.size<=100) (hI:Inv w):RnK prog Q X Inv (bu_ X 3) o a w:=by
 have e0:a.eval (.const (.string s0))=.string s0:=rfl;have e1:a.eval (.const (.string s1))=.string s1:=rfl;have e2:a.eval (.const (.string s2))=.string s2:=rfl;refine rk_to (v:=.slice (some (a_ w)) 3 3) (w':=w.alloc (.cells #[.string s0,.string s1,.string s2] 9)) (by generalize a.eval=r at e0 e1 e2;simp [execOp,ho,e0,e1,e2,go_sem]) (.of_below (aw_ w _ _)) (hC.ex w _ hI (.of_below (aw_ w _ _))) ?_ (hC.below hI (aw_ w _ _));refine ⟨w,rfl,zm_,fun h=>by have:=hC.lt w hI _ h;omega,fun i hi=>?_⟩
 match i,hi with
 | 0,_=>exact ⟨_,zh_,h0⟩
 | 1,_=>exact ⟨_,zh_,h1⟩
 | 2,_=>exact ⟨_,zh_,h2⟩
theorem rk_bsi2 {s0 s1:Int} (hC:IC d b lp X Inv) (ho:o.op=.buildSlice 30 2 #[(0,.const (i_ s0)),(1,.const (i_ s1))]) (h0:s0≠3/\s0≠5/\s0≠6) (h1:s1≠3/\s1≠5/\s1≠6) (hI:Inv w):RnK prog Q X Inv (kInts X 2) o a w:=by
 have e0:a.eval (.const (i_ s0))=i_ s0:=rfl;have e1:a.eval (.const (i_ s1))=i_ s1:=rfl;refine rk_to (v:=.slice (some (a_ w)) 2 2) (w':=w.alloc (.cells #[i_ s0,i_ s1] 3)) w6_ (.of_below (aw_ w _ _)) (hC.ex w _ hI (.of_below (aw_ w _ _))) ?_ (hC.below hI (aw_ w _ _));refine ⟨w,rfl,zm_,fun h=>by have:=hC.lt w hI _ h;omega,fun i hi=>?_⟩
 match i,hi with
 | 0,_=>exact ⟨_,zh_,h0⟩
 | 1,_=>exact ⟨_,zh_,h1⟩
theorem rk_bsi4' {s0 s1 s2 s3:Int} (hC:IC d b lp X Inv) (ho:o.op=.buildSlice 30 4 #[(0,.const (i_ s0)),(1,.const (i_ s1)),(2,.const (i_ s2)),(3,.const (i_ s3))]) (hI:Inv w):RnK prog Q X Inv (kInts' X 4) o a w:=by
 have e0:a.eval (.const (i_ s0))=i_ s0:=rfl;have e1:a.eval (.const (i_ s1))=i_ s1:=rfl;have e2:a.eval (.const (i_ s2))=i_ s2:=rfl;have e3:a.eval (.const (i_ s3))=i_ s3:=rfl;refine rk_to (v:=.slice (some (a_ w)) 4 4) (w':=w.alloc (.cells #[i_ s0,i_ s1,i_ s2,i_ s3] 3)) (by generalize a.eval=r at e0 e1 e2 e3;simp [execOp,ho,e0,e1,e2,e3,go_sem]) (.of_below (aw_ w _ _)) (hC.ex w _ hI (.of_below (aw_ w _ _))) ?_ (hC.below hI (aw_ w _ _));refine ⟨w,rfl,zm_,fun h=>by have:=hC.lt w hI _ h;omega,fun i hi=>?_⟩
 match i,hi with
 | 0,_=>exact ⟨_,zh_⟩
 | 1,_=>exact ⟨_,zh_⟩
 | 2,_=>exact ⟨_,zh_⟩
 | 3,_=>exact ⟨_,zh_⟩
theorem rk_be1 {x:Operand} {kd:Int} (ho:o.op=.build 209 #[(0,.const (i_ kd)),(1,x)]) (hk:kd≠4/\kd≠5) (hx:(kInt X).p w (a.eval x)) (hI:Inv w):RnK prog Q X Inv (kEx X 0) o a w:=by
 obtain ⟨n,hx⟩:=hx;have e0:a.eval (.const (i_ kd))=i_ kd:=rfl;generalize hr:a.eval=r at hx e0;exact bs_ (v:=.agg #[i_ kd,i_ n,.string ⟨#[]⟩,i_ 0,.slice none 0 0]) y2_ ⟨_,_,_,_,_,_,_,rfl,vts_ex0 _ _ _ _,pE_ex (fun h=>absurd h hk.1) (fun h=>absurd h hk.2) d_⟩ hI
theorem rk_be3 {x y:Operand} {e:Nat} (ho:o.op=.build 209 #[(0,.const (i_ 4)),(1,x),(4,y)]) (hx:(kInt X).p w (a.eval x)) (hy:(kExs X e 1).p w (a.eval y)) (hI:Inv w):RnK prog Q X Inv (kEx X (e+1)) o a w:=by
 obtain ⟨n,hx⟩:=hx;obtain ⟨A,c,hy,hs⟩:=hy;have e0:a.eval (.const (i_ 4))=i_ 4:=rfl;generalize hr:a.eval=r at hx hy e0;exact bs_ (v:=.agg #[i_ 4,i_ n,.string ⟨#[]⟩,i_ 0,.slice A 1 c]) x2_ ⟨_,_,_,_,_,_,_,rfl,vts_ex hs,pE_ex (fun _=>l_) x_ d_⟩ hI
theorem rk_bs_0145 {x0 x1 x4 x5:Operand} {kd:Int} {m:Nat} (ho:o.op=.build 212 #[(0,x0),(1,x1),(4,x4),(5,x5)]) (h0:a.eval x0=i_ kd) (h1:(kStr X).p w (a.eval x1)) (h4:(kInt X).p w (a.eval x4)) (h5:(kExs X dE m).p w (a.eval x5)) (g5:kd=5->2<=m) (g6:kd=6->1<=m) (g3:kd=3->(⟨#[]⟩:ByteArray)=nameF\/(⟨#[]⟩:ByteArray)=nameG) (hI:Inv w):RnK prog Q X Inv (kSt X 0) o a w:=by
 obtain ⟨s,h1,hs⟩:=h1;obtain ⟨op,h4⟩:=h4;obtain ⟨A,c,h5,v5⟩:=h5;generalize hr:a.eval=r at h0 h1 h4 h5;exact bs_ (v:=.agg #[i_ kd,.string s,.string ⟨#[]⟩,i_ 0,i_ op,.slice A m c,.slice none 0 0,.slice none 0 0]) (by rw [hr];simp [execOp,ho,h0,h1,h4,h5,go_sem]) ⟨_,_,_,_,_,_,_,_,_,_,_,_,_,_,rfl,eg_ v5,pS_st g5 g6 g3 hs d_⟩ hI
theorem rk_bs_035 {x0 x3 x5:Operand} {kd:Int} {m:Nat} (ho:o.op=.build 212 #[(0,x0),(3,x3),(5,x5)]) (h0:a.eval x0=i_ kd) (h3:(kInt X).p w (a.eval x3)) (h5:(kExs X dE m).p w (a.eval x5)) (g5:kd=5->2<=m) (g6:kd=6->1<=m) (g3:kd=3->(⟨#[]⟩:ByteArray)=nameF\/(⟨#[]⟩:ByteArray)=nameG) (hI:Inv w):RnK prog Q X Inv (kSt X 0) o a w:=by
 obtain ⟨n,h3⟩:=h3;obtain ⟨A,c,h5,v5⟩:=h5;generalize hr:a.eval=r at h0 h3 h5;exact bs_ (v:=.agg #[i_ kd,.string ⟨#[]⟩,.string ⟨#[]⟩,i_ n,i_ 0,.slice A m c,.slice none 0 0,.slice none 0 0]) (by rw [hr];simp [execOp,ho,h0,h3,h5,go_sem]) ⟨_,_,_,_,_,_,_,_,_,_,_,_,_,_,rfl,eg_ v5,pS_st g5 g6 g3 d_ d_⟩ hI
theorem rk_bs_05 {x0 x5:Operand} {kd:Int} {m:Nat} (ho:o.op=.build 212 #[(0,x0),(5,x5)]) (h0:a.eval x0=i_ kd) (h5:(kExs X dE m).p w (a.eval x5)) (g5:kd=5->2<=m) (g6:kd=6->1<=m) (g3:kd=3->(⟨#[]⟩:ByteArray)=nameF\/(⟨#[]⟩:ByteArray)=nameG) (hI:Inv w):RnK prog Q X Inv (kSt X 0) o a w:=by
 obtain ⟨A,c,h5,v5⟩:=h5;generalize hr:a.eval=r at h0 h5;exact bs_ (v:=.agg #[i_ kd,.string ⟨#[]⟩,.string ⟨#[]⟩,i_ 0,i_ 0,.slice A m c,.slice none 0 0,.slice none 0 0]) (by rw [hr];simp [execOp,ho,h0,h5,go_sem]) ⟨_,_,_,_,_,_,_,_,_,_,_,_,_,_,rfl,eg_ v5,pS_st g5 g6 g3 d_ d_⟩ hI
theorem rk_bs_015 {x0 x1 x5:Operand} {kd:Int} {m:Nat} (ho:o.op=.build 212 #[(0,x0),(1,x1),(5,x5)]) (h0:a.eval x0=i_ kd) (h1:(kStr X).p w (a.eval x1)) (h5:(kExs X dE m).p w (a.eval x5)) (g5:kd=5->2<=m) (g6:kd=6->1<=m) (g3:kd=3->(⟨#[]⟩:ByteArray)=nameF\/(⟨#[]⟩:ByteArray)=nameG) (hI:Inv w):RnK prog Q X Inv (kSt X 0) o a w:=by
 obtain ⟨s,h1,hs⟩:=h1;obtain ⟨A,c,h5,v5⟩:=h5;generalize hr:a.eval=r at h0 h1 h5;exact bs_ (v:=.agg #[i_ kd,.string s,.string ⟨#[]⟩,i_ 0,i_ 0,.slice A m c,.slice none 0 0,.slice none 0 0]) (by rw [hr];simp [execOp,ho,h0,h1,h5,go_sem]) ⟨_,_,_,_,_,_,_,_,_,_,_,_,_,_,rfl,eg_ v5,pS_st g5 g6 g3 hs d_⟩ hI
theorem rk_bs_0125 {x0 x1 x2 x5:Operand} {kd:Int} {f:ByteArray} {m:Nat} (ho:o.op=.build 212 #[(0,x0),(1,x1),(2,x2),(5,x5)]) (h0:a.eval x0=i_ kd) (h1:(kStr X).p w (a.eval x1)) (h2:a.eval x2=.string f) (hf:f.size<=100) (h5:(kExs X dE m).p w (a.eval x5)) (g5:kd=5->2<=m) (g6:kd=6->1<=m) (g3:kd=3->f=nameF\/f=nameG) (hI:Inv w):RnK prog Q X Inv (kSt X 0) o a w:=by
 obtain ⟨s,h1,hs⟩:=h1;obtain ⟨A,c,h5,v5⟩:=h5;generalize hr:a.eval=r at h0 h1 h2 h5;exact bs_ (v:=.agg #[i_ kd,.string s,.string f,i_ 0,i_ 0,.slice A m c,.slice none 0 0,.slice none 0 0]) (by rw [hr];simp [execOp,ho,h0,h1,h2,h5,go_sem]) ⟨_,_,_,_,_,_,_,_,_,_,_,_,_,_,rfl,eg_ v5,pS_st g5 g6 g3 hs hf⟩ hI
theorem rk_bs_0567 {x0 x5 x6 x7:Operand} {kd:Int} {m:Nat} {e q6 q7:Nat} (ho:o.op=.build 212 #[(0,x0),(5,x5),(6,x6),(7,x7)]) (h0:a.eval x0=i_ kd) (h5:(kExs X dE m).p w (a.eval x5)) (h6:(kSts X e q6).p w (a.eval x6)) (h7:(kSts X e q7).p w (a.eval x7)) (g5:kd=5->2<=m) (g6:kd=6->1<=m) (g3:kd=3->(⟨#[]⟩:ByteArray)=nameF\/(⟨#[]⟩:ByteArray)=nameG) (hI:Inv w):RnK prog Q X Inv (kSt X (e+1)) o a w:=by
 obtain ⟨A,c,h5,v5⟩:=h5;obtain ⟨B,m1,c1,h6,_,v6⟩:=h6;obtain ⟨C,m2,c2,h7,_,v7⟩:=h7;generalize hr:a.eval=r at h0 h5 h6 h7;exact bs_ (v:=.agg #[i_ kd,.string ⟨#[]⟩,.string ⟨#[]⟩,i_ 0,i_ 0,.slice A m c,.slice B m1 c1,.slice C m2 c2]) (by rw [hr];simp [execOp,ho,h0,h5,h6,h7,go_sem]) ⟨_,_,_,_,_,_,_,_,_,_,_,_,_,_,rfl,vts_st v5 v6 v7,pS_st g5 g6 g3 d_ d_⟩ hI
theorem rk_bs_0167 {x0 x1 x6 x7:Operand} {kd:Int} {e q6 q7:Nat} (ho:o.op=.build 212 #[(0,x0),(1,x1),(6,x6),(7,x7)]) (h0:a.eval x0=i_ kd) (h1:(kStr X).p w (a.eval x1)) (h6:(kSts X e q6).p w (a.eval x6)) (h7:(kSts X e q7).p w (a.eval x7)) (g5:kd=5->2<=0) (g6:kd=6->1<=0) (g3:kd=3->(⟨#[]⟩:ByteArray)=nameF\/(⟨#[]⟩:ByteArray)=nameG) (hI:Inv w):RnK prog Q X Inv (kSt X (e+1)) o a w:=by
 obtain ⟨s,h1,hs⟩:=h1;obtain ⟨B,m1,c1,h6,_,v6⟩:=h6;obtain ⟨C,m2,c2,h7,_,v7⟩:=h7;generalize hr:a.eval=r at h0 h1 h6 h7;exact bs_ (v:=.agg #[i_ kd,.string s,.string ⟨#[]⟩,i_ 0,i_ 0,.slice none 0 0,.slice B m1 c1,.slice C m2 c2]) (by rw [hr];simp [execOp,ho,h0,h1,h6,h7,go_sem]) ⟨_,_,_,_,_,_,_,_,_,_,_,_,_,_,rfl,vts_st (SlP.nil _ _ _ _ _) v6 v7,pS_st g5 g6 g3 hs d_⟩ hI
end
structure InvR (d b lp:Nat) (X Z:NP) (w0:World) (rb:Nat) (ts:List CT) (pp:VL->Prop) (w:World):Prop where
 ok:Mk d b lp w
 kp:Kp Z w0 w
 lt:∀ k,X k->k<w
 bx:∃ cs,Bx w rb cs/\VTs w X 20 ts cs/\pp cs
section
variable {Q:Exit->Act->World->Prop} {X Z:NP} {o:Oper} {a:Act} {w w0:World} {d b lp rb:Nat} {ts:List CT} {pp:VL->Prop}
theorem InvR.ic {E:World->Prop} (he:∀ w w':World,Kp (Zm d b) w w'->E w->E w') (hz:∀ k,Zm d b k->X k) (hZ:∀ k,Zm d b k->Z k) (hr:¬Zm d b rb):IC d b lp ⟨X,E⟩ (InvR d b lp X Z w0 rb ts pp) :=
 ⟨fun _ h=>h.ok,hz,fun _ h=>h.lt,fun w w' h hm hk=>⟨hm,h.kp.trans (hk.mono (fun k _ hk=>hZ k hk)),fun k A0=>lt_ (h.lt k A0) hk.size,by
  obtain ⟨cs,h1,h2,h3⟩:=h.bx
  exact ⟨cs,h1.kp hk hr,h2.up (hk.mono (fun k _ hk=>hz k hk)) (l_),h3⟩⟩,fun w w' _ hk h=>he w w' hk h⟩
theorem Mk.sets {w:World} (h:Mk d b lp w) (hr:b<rb) (vs:VL):Mk d b lp (w.setCells rb 0 vs):=by
 have hk:Kp (fun k=>k=rb) w (w.setCells rb 0 vs):=ah_ _ _ _ (Kp.refl _ _) (.inl rfl);obtain ⟨l,h1⟩:=h.c1;obtain ⟨f,h3⟩:=h.c3;have hd:=h.ne;have hc:∀ q j,q<=b->(w.setCells rb 0 vs).cell? (f_ q j)=w.cell? (f_ q j):=fun q j hq=>hk.cell (by have:=h.lt;omega) o_
 exact v6_
theorem InvR.put {w:World} (h:InvR d b lp X Z w0 rb ts pp w) (hr:b<rb) (hX:X rb) (hZ:Z rb) {vs:VL} (hv:VTs w X 20 ts vs) (hp:pp vs):InvR d b lp X Z w0 rb ts pp (w.setCells rb 0 vs)/\Kp X w (w.setCells rb 0 vs):=by
 have hk:Kp X w (w.setCells rb 0 vs):=ah_ _ _ _ (Kp.refl _ _) (.inl hX);obtain ⟨cs,h1,h2,h3⟩:=h.bx;exact ⟨⟨h.ok.sets hr vs,ah_ _ _ _ h.kp (.inl hZ),fun k A0=>lt_ (h.lt k A0) hk.size,vs,h1.all vs (by rw [hv.1,h2.1]),hv.up hk (l_),hp⟩,hk⟩
theorem rk_store {E:World->Prop} (he:∀ vs:VL,E w->E (w.setCells rb 0 vs)) {x y:Operand} {T:TypeId} {vs:VL} (hr:b<rb) (hX:X rb) (hZ:Z rb) (ho:o.op=.store T x y) (hx:a.eval x=.pointer (some (a_ rb))) (hy:a.eval y=.agg vs.toArray) (hi:(prog.info? T).map (·.size)=some ts.length) (hv:VTs w X 20 ts vs) (hp:pp vs) (hI:InvR d b lp X Z w0 rb ts pp w):RnK prog Q ⟨X,E⟩ (InvR d b lp X Z w0 rb ts pp) (kAny ⟨X,E⟩) o a w:=fun K hK=>by
 obtain ⟨h1,h2⟩:=hI.put hr hX hZ hv hp;obtain ⟨cs,g1,g2,g3⟩:=hI.bx;refine wp_store_mid T x y ho rb 0 vs.toArray hx hy ?_ ?_ ?_ ?_
 ·rw [List.size_toArray];exact g1.there (by rw [hv.1,g2.1];omega)
 ·rw [List.size_toArray,hv.1];exact hi
 ·simpa using hv.one
 exact hK _ _ wz_ (by simpa using he vs) (by simpa using h1) trivial
theorem isz5:(prog.info? 209).map (·.size)=some 5:=by kernel_rfl
theorem isz8:(prog.info? 212).map (·.size)=some 8:=by kernel_rfl
theorem df_ {E:World->Prop} (he:∀ vs:VL,E w->E (w.setCells rb 0 vs)) {x y:Operand} {e:Nat} (hr:b<rb) (hX:X rb) (hZ:Z rb) (ho:o.op=.store 209 x y) (hx:a.eval x=.pointer (some (a_ rb))) (hy:(kEx ⟨X,E⟩ e).p w (a.eval y)) (hI:InvR d b lp X Z w0 rb (be_ e) pE w):RnK prog Q ⟨X,E⟩ (InvR d b lp X Z w0 rb (be_ e) pE) (kAny ⟨X,E⟩) o a w:=by
 obtain ⟨kd,n,s,op,A,m,c,hy,h1⟩:=hy;exact rk_store he hr hX hZ ho hx hy (by rw [ee_];exact isz5) h1.1 h1.2 hI
theorem bk_ {E:World->Prop} (he:∀ vs:VL,E w->E (w.setCells rb 0 vs)) {x y:Operand} {e:Nat} (hr:b<rb) (hX:X rb) (hZ:Z rb) (ho:o.op=.store 212 x y) (hx:a.eval x=.pointer (some (a_ rb))) (hy:(kSt ⟨X,E⟩ e).p w (a.eval y)) (hI:InvR d b lp X Z w0 rb (ag_ e) pS w):RnK prog Q ⟨X,E⟩ (InvR d b lp X Z w0 rb (ag_ e) pS) (kAny ⟨X,E⟩) o a w:=by
 obtain ⟨kd,s,f,n,op,A,m,c,B,m1,c1,C,m2,c2,hy,h1⟩:=hy;exact rk_store he hr hX hZ ho hx hy (by rw [ca_];exact isz8) h1.1 h1.2 hI
end
end Go.Proofs.YtfolidlmgfhkiaaGreat
namespace Go.Proofs.YtfolidlmgfhkiaaGreat.Pr
open Go.RowKit
structure Tq where
 s:Int
 RA:OA
 rn:Nat
 rc:Nat
 cells:VL
 size:cells.length=48
 c0:cells[0]?=some (i_ s)
 c37:cells[37]?=some (.slice RA rn rc)
 one:cells.all (·.oneCell')=true
def Rdq (w:World) (t:Tq):Prop:=∃ cs:List Cl,Sl w w 4 Cl.cells t.RA t.rn cs/\t.rn<=1000000
theorem slkq {α:Type} {w w':World} {Z:NP} {sz n:Nat} {cells:α->VL} {A:OA} {l:List α} (h:Sl w w sz cells A n l) (hk:Kp Z w w') (hA:0<n->∀ ad,A=some ad->¬Z ad.block):Sl w' w' sz cells A n l:=by
 refine ⟨h.len,fun hn=>?_⟩;obtain ⟨ab,ao,e,A0,hc⟩:=h.at_ hn;exact ⟨ab,ao,e,lt_ A0 hk.size,fun i x hx j u hu=>(hk.cell A0 (hA hn _ e)).trans (hc i x hx j u hu)⟩
theorem Rdq.kp {w w':World} {Z:NP} {t:Tq} (h:Rdq w t) (hk:Kp Z w w') (hA:0<t.rn->∀ ad,t.RA=some ad->¬Z ad.block):Rdq w' t:=by
 obtain ⟨cs,h1,h2⟩:=h;exact ⟨cs,slkq h1 hk hA,h2⟩
theorem Rdq.lt {w:World} {t:Tq} (h:Rdq w t) (h0:0<t.rn):∀ ad,t.RA=some ad->ad.block<w:=fun ad ha=>by
 obtain ⟨cs,h1,h2⟩:=h;obtain ⟨ab,ao,e,A0,_⟩:=h1.at_ h0;rw [ha] at e;injection e with e;subst e;exact A0
theorem Rdq.up {w w':World} {t:Tq} (h:Rdq w t) (hb:Below w w w'):Rdq w' t:=by
 obtain ⟨cs,h1,h2⟩:=h;exact ⟨cs,h1.up hb,h2⟩
theorem cells_of {w:World} {X:NP} {K:Nat} {A:OA} {n c:Nat} (h:SlT w X K ap_ A n c):∃ l:List Cl,Sl w w 4 Cl.cells A n l:=by
 obtain ⟨l,hl,_⟩:=h.list Cl.cells (fun _=>True) (fun vs hv=>by
  obtain ⟨a,r1,rfl,ha,h1⟩:=hv.head
  obtain ⟨b,r2,rfl,hb,h2⟩:=h1.head
  obtain ⟨c,r3,rfl,hc,h3⟩:=h2.head
  obtain ⟨d,r4,rfl,hd,h4⟩:=h3.head
  obtain ⟨x,rfl⟩:=ha.int
  obtain ⟨y,rfl⟩:=hb.int
  obtain ⟨z,rfl⟩:=hc.bool
  obtain ⟨u,rfl⟩:=hd.int
  rw [h4.end]
  exact ⟨⟨x,y,⟨z,u⟩⟩,rfl,trivial⟩)
 exact ⟨l,hl⟩
theorem tq_of {w:World} {X:NP} {K:Nat} {vs:VL} (h:VTs w X K ae_ vs) (hK:K<=1000000):∃ t:Tq,t.cells=vs/\Rdq w t/\∀ ad,t.RA=some ad->¬X ad.block:=by
 obtain ⟨a,ha⟩:=h.num (j:=0) rfl;obtain ⟨A,n,c,hs,ht⟩:=h.slc (j:=37) (e:=ap_) rfl;obtain ⟨cs,A1⟩:=cells_of ht;refine ⟨⟨a,A,n,c,vs,h.1,ha,hs,List.all_eq_true.2 h.one⟩,rfl,⟨cs,A1,Nat.le_trans ht.le hK⟩,fun ad A0=>?_⟩;obtain ⟨g,o,e,_,hX,_⟩:=ht.at_ ad A0;rw [e];exact hX
theorem tqs_of {w:World} {X:NP} {K:Nat} {A:OA} {n c:Nat} (h:SlT w X K ae_ A n c) (hK:K<=1000000):∃ l:List Tq,Sl w w 48 Tq.cells A n l/\∀ t ∈ l,Rdq w t/\∀ ad,t.RA=some ad->¬X ad.block:=by
 obtain ⟨l,hl,hP⟩:=h.list Tq.cells (fun t=>Rdq w t/\∀ ad,t.RA=some ad->¬X ad.block) (fun vs hv=>by
  obtain ⟨t,h1,h2⟩:=tq_of hv hK
  exact ⟨t,h1,h2⟩)
 exact ⟨l,hl,hP⟩
structure Gq (w0:World) (bf bp:Nat) (fb:Bool) (fn:Int) (TL:OA) (tn:Nat) (l:List Tq) (ts:List Trk) (QA:OA) (qn qc:Nat) (w:World):Prop where
 h0:w0<=bp
 hfp:bf≠bp
 f:Bx w bf [.bool fb,i_ fn]
 tl:Sl w w 48 Tq.cells TL tn l
 tlA:∀ ad,TL=some ad->ad.block≠bp
 rd:∀ t ∈ l,Rdq w t/\(0<t.rn->∀ ad,t.RA=some ad->ad.block≠bp)
 q:Bx w bp [.slice QA qn qc]
 pr:Sl w w 5 Trk.cells QA qn ts
 prA:∀ ad,QA=some ad->ad.block≠bp
 good:Good ts
 small:Small ts
 bel:Below w0 w0 w
section
variable {w0 w w1:World} {bf bp tn qn qc:Nat} {fb:Bool} {fn:Int} {TL QA:OA} {l:List Tq} {ts:List Trk}
theorem Gq.below (h:Gq w0 bf bp fb fn TL tn l ts QA qn qc w) (hb:Below w w w1):Gq w0 bf bp fb fn TL tn l ts QA qn qc w1 :=
 ⟨h.h0,h.hfp,h.f.below hb,h.tl.up hb,h.tlA,fun t ht=>⟨(h.rd t ht).1.up hb,(h.rd t ht).2⟩,h.q.below hb,h.pr.up hb,h.prA,h.good,h.small,h.bel.trans (hb.mono h.bel.size)⟩
theorem Gq.put (h:Gq w0 bf bp fb fn TL tn l ts QA qn qc w) (hb:Below w w w1) {A':OA} {n' c':Nat} {ts':List Trk} (hs:Sl w1 w1 5 Trk.cells A' n' ts') (hA:∀ ad,A'=some ad->w<=ad.block) (hg:Good ts') (hsm:Small ts') :
  Gq w0 bf bp fb fn TL tn l ts' A' n' c' (w1.setCell (a_ bp) (.slice A' n' c')):=by
 have h1:=h.below hb;have A1:=h.q.1;have hk:Kp (fun q=>q=bp) w1 (w1.setCell (a_ bp) (.slice A' n' c')):=(Kp.refl (fun q=>q=bp) w1).setCell (p:=(a_ bp)) (.inl rfl) _;have A0:∀ ad,A'=some ad->ad.block≠bp:=fun ad ha=>by have:=hA ad ha;omega
 exact ⟨h.h0,h.hfp,h1.f.far (p:=(a_ bp)) (fun e=>h.hfp e.symm) _,slkp h1.tl hk h.tlA,h.tlA,fun t ht=>⟨(h1.rd t ht).1.kp hk (h.rd t ht).2,(h.rd t ht).2⟩,h1.q.set 0 _,slkp hs hk A0,A0,hg,hsm,h1.bel.setCell (p:=(a_ bp)) h.h0 _⟩
end
end Go.Proofs.YtfolidlmgfhkiaaGreat.Pr
namespace Go.Proofs.YtfolidlmgfhkiaaGreat.Pr
open Go.RowKit Go.Proofs.Tryz
def GivesC (cs:List Cl) (w:World) (e:Ending) (w':World):Prop:=∃ A' n' c',e=.returned (.slice A' n' c')/\Sl w' w' 4 Cl.cells A' n' cs/\Below w w w'
theorem guesses_f (A:OA) (n c:Nat) (ts:List Trk) (s fr m:Int) (w:World) (hs:Sl w w 5 Trk.cells A n ts) (hsort:Sorted ts) (hn:n<=1000000) :
  Calls prog 22 #[.agg #[.slice A n c],i_ s,i_ fr,i_ m,.bool false] w (GivesC (guessP ts s fr m false) w):=by
 obtain ⟨i0,hi,Az,AA,AB⟩:=info_parts infoCl;obtain ⟨W,hW,Al,Am,B0⟩:=af_ w [.slice A n c] 59;have q0:=B0.2.1 0 _ rfl;have An:=q_ B0;have Ac:=q_ Al;have Au:=q_ Am;have Aq:=q_ hs;have Ar:=q_ hsort;clear B0 Al Am hs hsort q0;go_enter func22,ntmps22;go_upto_region 1 with fail;rw [<-hW];clear hW;by_cases hm1:1<=m
 case neg =>
  have hm:m<1:=by omega
  exact tu_
 case pos =>
 by_cases hm2:m<=64
 case neg =>
  have Ay:¬m<1:=by omega
  have hm:64<m:=by omega
  exact tt_
 case pos =>
 obtain ⟨mm,rfl⟩:∃ mm:Nat,m=mm:=⟨m.toNat,o_⟩;have Ay:¬(mm:Int)<1:=by omega
 have AD:¬(64:Int)<(mm:Int):=by omega
 have Ap:=h_ (W.ownsRow (w+1) 87 4 (.slice none 0 0) (as_ ts s fr false 0).length ((as_ ts s fr false 0).flatMap Cl.cells)) (World.ownsRow_nil _ _ _ _);go_wp2_with fail;go_loopw [12,27] (fun v i wr=>∃ k:Nat,k<=mm/\i=i_ k/\Hid (bv_ s 3=false->k=0)/\Hid (wr.ownsRow (w+1) 87 4 v (as_ ts s fr false k).length ((as_ ts s fr false k).flatMap Cl.cells))/\Hid (Below (w+1) W wr)) (fun _ i _=>mm - (intOf i).toNat)
 case atStart=>exact ⟨0,Nat.zero_le _,rfl,q_ (fun _=>rfl),Ap,q_ (b_)⟩
 obtain ⟨k,hk,rfl,h0,hO,hb⟩:=hrel;have A8:=q_ (Ac.o.trans (hb.o.mono o_));have hsz:(w:Nat)+1<=wr:=by have:=hb.o.size;have:=Au.o;omega
 by_cases hlt:k<mm
 case neg =>
  have Ax:¬(k:Int)<(mm:Int):=by omega
  obtain rfl:k=mm:=by omega
  have A1:bv_ s 3=true:=by
   cases h:bv_ s 3
   ·have:=h0.o h;omega
   rfl
  obtain ⟨A',c',hv⟩:∃ A' c',u12=.slice A' (as_ ts s fr false k).length c':=by
   rcases hO.o.2 with ⟨h,h9⟩ | ⟨g,cap,cur,h,_⟩
   ·exact ⟨none,0,vn_⟩
   exact ⟨_,_,h⟩
  exact tg_
 case pos =>
 have Ax:(k:Int)<(mm:Int):=by omega
 have AE:IntKind.i64.wrap (3+(k:Int))=3+(k:Int):=by rw [IntKind.wrap_i64];omega
 go_wp2_with fail;refine (key_any s (3+(k:Int)) wr).mono ?_;rintro e w2 ⟨rfl,A5⟩;have A4:=q_ (A8.o.trans (A5.mono A8.o.size));have Aa:=q_ (hb.o.trans (A5.mono hsz));have Aj:=q_ (own_below hO.o A5);have A2:(w:Nat)+1<=w2:=Nat.le_trans hsz A5.size;clear A5 hb hO hsz A8;cases A1:bv_ s 3
 case false =>
  exact u9_
 case true =>
 rw [keyV_yes yr_];have Ak:=q_ A1;have q0:=(belc Aa.o (b:=w) (o:=0) o_).trans (An.o.2.1 0 _ rfl);have Ab:=last_any A n c ts (kOf s (3+(k:Int))) w2 (Aq.o.up A4.o) hn Ar.o;unfold Val.value at Ab;have Ag:=q_ Ab;clear Ab A1;go_wp2_with fail;refine Ag.o.mono ?_;rintro e w3 ⟨rfl,A6⟩;have AC:=q_ (A4.o.trans (A6.mono A4.o.size));have Af:=q_ (Aa.o.trans (A6.mono A2));have A9:=q_ (own_below Aj.o A6);have Ad:(w:Nat)+1<=w3:=Nat.le_trans A2 A6.size;obtain ⟨x,hx⟩:=ex_ (lastV ts (kOf s (3+(k:Int))));rw [<-hx];have Av:=h_ (x=sayV ts false (kOf s (3+(k:Int)))) hx;clear q0 A6 A4 Aa Aj Ag hx A2;obtain ⟨l,hl⟩:=ex_ (as_ ts s fr false k);rw [<-hl] at A9;have Ai:=q_ hl;have Ah:=h_ (l.length<=k) xb_;clear hl;cases hh:hit ts (kOf s (3+(k:Int)))
 case false =>
  have HG:=h_ (as_ ts s fr false (k+1)=l) (by rw [guess_no hh,Ai.o]);clear hh;go_wp2_with fail;go_roundw
  case rel=>exact ⟨k+1,o_,zc_,q_ (fun h=>by rw [Ak.o] at h;cases h),q_ xu_,q_ ((bel Af.o))⟩
  case measure=>simp [intOf] <;> omega
 case true =>
 have HG:=h_ (as_ ts s fr false (k+1)=l ++ [⟨fr,3+(k:Int),x⟩]) (by rw [guess_yes hh,Ai.o,Av.o]);clear hh;have Ae:=q_ ((bel (Below.refl w3 w3)):Below w3 w3 ((w3.alloc (.cells #[.bool x.ref,i_ x.n] 38)).alloc (.cells #[i_ fr,i_ (3+(k:Int)),.bool x.ref,i_ x.n] 87)));have Ao:=h_ (∀ ad,(some (a_ (w3+1)):OA)=some ad->∀ (j:Nat) (u:Value),(Cl.cells ⟨fr,3+(k:Int),x⟩)[j]?=some u->((w3.alloc (.cells #[.bool x.ref,i_ x.n] 38)).alloc (.cells #[i_ fr,i_ (3+(k:Int)),.bool x.ref,i_ x.n] 87)).cell? (ad.add j)=some u) (fun ad h j u hu=>by
  injection h with h
  subst h
  rw [Addr.add_lit,ay_ _ _ _ _ _ t_,Nat.zero_add,List.getElem?_toArray]
  exact hu)
 go_wp2_with (at_builtin;refine av_ rfl _ _ 54 rfl (w+1) 87 i0 _ 4 32 underlying54 hi Az AA AB rfl d_ u12 l.length (l.flatMap Cl.cells) rfl (own_below A9.o Ae.o) (some (a_ (w3+1))) 1 1 (Cl.cells ⟨fr,3+(k:Int),x⟩) rfl yq_ rfl Ao.o xk_ w0_ wh_ za_ ?_;intro A3 c3 w4 A0 A7 _);have As:=q_ A0;have Aw:Below (w+1) w3 w4:=(Ae.o.mono Ad).grown A7 za_ (fun k hk=>(A9.o.lt k hk).1);clear A0 A7;go_roundw
 case rel=>exact ⟨k+1,o_,zc_,q_ (fun h=>by rw [Ak.o] at h;cases h),q_ wx_,q_ (Af.o.trans Aw)⟩
 case measure=>simp [intOf] <;> omega
theorem guesses_t (A:OA) (n c:Nat) (ts:List Trk) (s fr m:Int) (w:World) (hs:Sl w w 5 Trk.cells A n ts) (hsort:Sorted ts) (hn:n<=1000000) :
  Calls prog 22 #[.agg #[.slice A n c],i_ s,i_ fr,i_ m,.bool true] w (GivesC (guessP ts s fr m true) w):=by
 obtain ⟨i0,hi,Az,AA,AB⟩:=info_parts infoCl;obtain ⟨W,hW,Al,Am,B0⟩:=af_ w [.slice A n c] 59;have q0:=B0.2.1 0 _ rfl;have An:=q_ B0;have Ac:=q_ Al;have Au:=q_ Am;have Aq:=q_ hs;have Ar:=q_ hsort;clear B0 Al Am hs hsort q0;go_enter func22,ntmps22;go_upto_region 1 with fail;rw [<-hW];clear hW;by_cases hm1:1<=m
 case neg =>
  have hm:m<1:=by omega
  exact tu_
 case pos =>
 by_cases hm2:m<=64
 case neg =>
  have Ay:¬m<1:=by omega
  have hm:64<m:=by omega
  exact tt_
 case pos =>
 obtain ⟨mm,rfl⟩:∃ mm:Nat,m=mm:=⟨m.toNat,o_⟩;have Ay:¬(mm:Int)<1:=by omega
 have AD:¬(64:Int)<(mm:Int):=by omega
 have Ap:=h_ (W.ownsRow (w+1) 87 4 (.slice none 0 0) (as_ ts s fr true 0).length ((as_ ts s fr true 0).flatMap Cl.cells)) (World.ownsRow_nil _ _ _ _);go_wp2_with fail;go_loopw [12,27] (fun v i wr=>∃ k:Nat,k<=mm/\i=i_ k/\Hid (bv_ s 3=false->k=0)/\Hid (wr.ownsRow (w+1) 87 4 v (as_ ts s fr true k).length ((as_ ts s fr true k).flatMap Cl.cells))/\Hid (Below (w+1) W wr)) (fun _ i _=>mm - (intOf i).toNat)
 case atStart=>exact ⟨0,Nat.zero_le _,rfl,q_ (fun _=>rfl),Ap,q_ (b_)⟩
 obtain ⟨k,hk,rfl,h0,hO,hb⟩:=hrel;have A8:=q_ (Ac.o.trans (hb.o.mono o_));have hsz:(w:Nat)+1<=wr:=by have:=hb.o.size;have:=Au.o;omega
 by_cases hlt:k<mm
 case neg =>
  have Ax:¬(k:Int)<(mm:Int):=by omega
  obtain rfl:k=mm:=by omega
  have A1:bv_ s 3=true:=by
   cases h:bv_ s 3
   ·have:=h0.o h;omega
   rfl
  obtain ⟨A',c',hv⟩:∃ A' c',u12=.slice A' (as_ ts s fr true k).length c':=by
   rcases hO.o.2 with ⟨h,h9⟩ | ⟨g,cap,cur,h,_⟩
   ·exact ⟨none,0,vn_⟩
   exact ⟨_,_,h⟩
  exact tg_
 case pos =>
 have Ax:(k:Int)<(mm:Int):=by omega
 have AE:IntKind.i64.wrap (3+(k:Int))=3+(k:Int):=by rw [IntKind.wrap_i64];omega
 go_wp2_with fail;refine (key_any s (3+(k:Int)) wr).mono ?_;rintro e w2 ⟨rfl,A5⟩;have A4:=q_ (A8.o.trans (A5.mono A8.o.size));have Aa:=q_ (hb.o.trans (A5.mono hsz));have Aj:=q_ (own_below hO.o A5);have A2:(w:Nat)+1<=w2:=Nat.le_trans hsz A5.size;clear A5 hb hO hsz A8;cases A1:bv_ s 3
 case false =>
  exact u9_
 case true =>
 rw [keyV_yes yr_];have Ak:=q_ A1;have q0:=(belc Aa.o (b:=w) (o:=0) o_).trans (An.o.2.1 0 _ rfl);have Ab:=stride_any A n c ts (kOf s (3+(k:Int))) w2 (Aq.o.up A4.o) hn Ar.o;unfold Val.value at Ab;have Ag:=q_ Ab;clear Ab A1;go_wp2_with fail;refine Ag.o.mono ?_;rintro e w3 ⟨rfl,A6⟩;have AC:=q_ (A4.o.trans (A6.mono A4.o.size));have Af:=q_ (Aa.o.trans (A6.mono A2));have A9:=q_ (own_below Aj.o A6);have Ad:(w:Nat)+1<=w3:=Nat.le_trans A2 A6.size;obtain ⟨x,hx⟩:=ex_ (et_ ts (kOf s (3+(k:Int))));rw [<-hx];have Av:=h_ (x=sayV ts true (kOf s (3+(k:Int)))) hx;clear q0 A6 A4 Aa Aj Ag hx A2;obtain ⟨l,hl⟩:=ex_ (as_ ts s fr true k);rw [<-hl] at A9;have Ai:=q_ hl;have Ah:=h_ (l.length<=k) xb_;clear hl;cases hh:hit ts (kOf s (3+(k:Int)))
 case false =>
  have HG:=h_ (as_ ts s fr true (k+1)=l) (by rw [guess_no hh,Ai.o]);clear hh;go_wp2_with fail;go_roundw
  case rel=>exact ⟨k+1,o_,zc_,q_ (fun h=>by rw [Ak.o] at h;cases h),q_ xu_,q_ ((bel Af.o))⟩
  case measure=>simp [intOf] <;> omega
 case true =>
 have HG:=h_ (as_ ts s fr true (k+1)=l ++ [⟨fr,3+(k:Int),x⟩]) (by rw [guess_yes hh,Ai.o,Av.o]);clear hh;have Ae:=q_ ((bel (Below.refl w3 w3)):Below w3 w3 ((w3.alloc (.cells #[.bool x.ref,i_ x.n] 38)).alloc (.cells #[i_ fr,i_ (3+(k:Int)),.bool x.ref,i_ x.n] 87)));have Ao:=h_ (∀ ad,(some (a_ (w3+1)):OA)=some ad->∀ (j:Nat) (u:Value),(Cl.cells ⟨fr,3+(k:Int),x⟩)[j]?=some u->((w3.alloc (.cells #[.bool x.ref,i_ x.n] 38)).alloc (.cells #[i_ fr,i_ (3+(k:Int)),.bool x.ref,i_ x.n] 87)).cell? (ad.add j)=some u) (fun ad h j u hu=>by
  injection h with h
  subst h
  rw [Addr.add_lit,ay_ _ _ _ _ _ t_,Nat.zero_add,List.getElem?_toArray]
  exact hu)
 go_wp2_with (at_builtin;refine av_ rfl _ _ 54 rfl (w+1) 87 i0 _ 4 32 underlying54 hi Az AA AB rfl d_ u12 l.length (l.flatMap Cl.cells) rfl (own_below A9.o Ae.o) (some (a_ (w3+1))) 1 1 (Cl.cells ⟨fr,3+(k:Int),x⟩) rfl yq_ rfl Ao.o xk_ w0_ wh_ za_ ?_;intro A3 c3 w4 A0 A7 _);have As:=q_ A0;have Aw:Below (w+1) w3 w4:=(Ae.o.mono Ad).grown A7 za_ (fun k hk=>(A9.o.lt k hk).1);clear A0 A7;go_roundw
 case rel=>exact ⟨k+1,o_,zc_,q_ (fun h=>by rw [Ak.o] at h;cases h),q_ wx_,q_ (Af.o.trans Aw)⟩
 case measure=>simp [intOf] <;> omega
theorem guesses_any (A:OA) (n c:Nat) (ts:List Trk) (s fr m:Int) (st:Bool) (w:World) (hs:Sl w w 5 Trk.cells A n ts) (hsort:Sorted ts) (hn:n<=1000000) :
  Calls prog 22 #[.agg #[.slice A n c],i_ s,i_ fr,i_ m,.bool st] w (GivesC (guessP ts s fr m st) w):=by
 cases st
 ·exact guesses_f A n c ts s fr m w hs hsort hn
 exact guesses_t A n c ts s fr m w hs hsort hn
end Go.Proofs.YtfolidlmgfhkiaaGreat.Pr
namespace Go.Proofs.YtfolidlmgfhkiaaGreat
open Go.RowKit Go.Proofs.Tryz
section
variable {Q:Exit->Act->World->Prop} {X:XE} {Inv:World->Prop} {o:Oper} {a:Act} {w:World} {d b lp:Nat}
theorem rk_add {x y:Operand} {T:TypeId} (hT:T=3\/T=2) (ho:o.op=.binOp .add T x y T) (hx:(kInt X).p w (a.eval x)) (hy:(kInt X).p w (a.eval y)) (hI:Inv w):RnK prog Q X Inv (kInt X) o a w:=by
 obtain ⟨m,hx⟩:=hx;obtain ⟨n,hy⟩:=hy;generalize hr:a.eval=r at hx hy;exact bs_ (v:=i_ (IntKind.i64.wrap (m+n))) ww_ ⟨_,rfl⟩ hI
theorem rk_sub {x y:Operand} {T:TypeId} (hT:T=3\/T=2) (ho:o.op=.binOp .sub T x y T) (hx:(kInt X).p w (a.eval x)) (hy:(kInt X).p w (a.eval y)) (hI:Inv w):RnK prog Q X Inv (kInt X) o a w:=by
 obtain ⟨m,hx⟩:=hx;obtain ⟨n,hy⟩:=hy;generalize hr:a.eval=r at hx hy;exact bs_ (v:=i_ (IntKind.i64.wrap (m - n))) ww_ ⟨_,rfl⟩ hI
theorem rk_inc {x:Operand} {n:Nat} (hn:n<=1000) (ho:o.op=.binOp .add 3 x (.const (i_ 1)) 3) (hx:a.eval x=i_ n) (hI:Inv w):RnK prog Q X Inv (kV X (i_ ((n+1:Nat):Int))) o a w:=by
 have hw:IntKind.i64.wrap ((n:Int)+1)=((n+1:Nat):Int):=by rw [IntKind.wrap_i64];omega
 have e0:a.eval (.const (i_ 1))=i_ 1:=rfl;generalize hr:a.eval=r at hx e0;exact bs_ (v:=i_ ((n+1:Nat):Int)) (by rw [hr];simp [execOp,ho,hx,e0,hw,go_sem]) rfl hI
theorem rk_dec {x:Operand} {n:Nat} (ho:o.op=.binOp .sub 3 x (.const (i_ 1)) 3) (hx:a.eval x=i_ ((n+1:Nat):Int)) (hn:n<=1000) (hI:Inv w):RnK prog Q X Inv (kV X (i_ (n:Int))) o a w:=by
 have hw:IntKind.i64.wrap (n:Int)=(n:Int):=by rw [IntKind.wrap_i64];omega
 have e0:a.eval (.const (i_ 1))=i_ 1:=rfl;generalize hr:a.eval=r at hx e0;exact bs_ (v:=i_ (n:Int)) (by rw [hr];simp [execOp,ho,hx,e0,hw,go_sem]) rfl hI
theorem rk_rem {x:Operand} {n:Nat} (ho:o.op=.binOp .rem 3 x (.const (i_ 3)) 3) (hx:a.eval x=i_ n) (hI:Inv w):RnK prog Q X Inv (kNat X 3) o a w:=by
 have hw:(n:Int).tmod 3=((n % 3:Nat):Int):=by rw [Int.tmod_eq_emod_of_nonneg o_];omega
 have e0:a.eval (.const (i_ 3))=i_ 3:=rfl;generalize hr:a.eval=r at hx e0;exact bs_ (v:=i_ ((n:Int).tmod 3)) y2_ ⟨n % 3,Nat.mod_lt _ d_,by rw [hw]⟩ hI
end
def ExprOK (k:Nat):Prop:=∀ (d b lp:Nat) (X:NP) (w:World),Mk d b lp w->(∀ q,Zm d b q->X q)->(∀ q,X q->q<w)->Calls prog 114 #[.pointer (some (a_ b)),i_ k] w fun e w'=>RE X (k+1) e w'/\Md d b lp w w'
theorem ck_ {Q:Exit->Act->World->Prop} {X:XE} {Inv:World->Prop} {o:Oper} {a:Act} {w:World} {d b lp k:Nat} {x y:Operand} (hC:IC d b lp X Inv) (hE:ExprOK k) (ho:o.op=.call { callee:=.value (.func 114),args:=#[x,y],argTypes:=#[203,3] }) (hx:a.eval x=.pointer (some (a_ b))) (hy:a.eval y=i_ k) (hI:Inv w):RnK prog Q X Inv (kEx X (k+1)) o a w:=by
 have hf:a.eval (.func 114)=.func (.func 114) #[] #[]:=rfl;generalize hr:a.eval=r at hx hy hf;refine co_ (f:=114) (args:=#[.pointer (some (a_ b)),i_ k]) yb_ ((hE d b lp X w (hC.ok w hI) hC.zx (hC.lt w hI)).mono ?_);exact uw_
end Go.Proofs.YtfolidlmgfhkiaaGreat
