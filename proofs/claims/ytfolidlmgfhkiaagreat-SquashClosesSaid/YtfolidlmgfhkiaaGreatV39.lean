/- Lemmas on functions of the program, under the conditions that each states. -/
import Derived.Test.YtfolidlmgfhkiaaGreatV36
import Derived.Test.YtfolidlmgfhkiaaGreatV38
set_option linter.unusedVariables false
set_option linter.unusedSimpArgs false
set_option maxRecDepth 100000
set_option maxHeartbeats 8000000
namespace Go.Proofs.YtfolidlmgfhkiaaGreat
open Go.RowKit Go.Proofs.Tryz
def At (vs:VL) (st pc sp:Int):Prop:=vs[42]?=some (i_ st)/\vs[3]?=some (i_ pc)/\vs[47]?=some (i_ sp)
theorem VTs.at_ {X:NP} {w:World} {K:Nat} {vs:VL} (h:VTs w X K ae_ vs):∃ st pc sp,At vs st pc sp:=by
 obtain ⟨a,ha⟩:=h.num (j:=42) rfl;obtain ⟨b,hb⟩:=h.num (j:=3) rfl;obtain ⟨c,hc⟩:=h.num (j:=47) rfl;exact ⟨a,b,c,ha,hb,hc⟩
def StepOk (l:List In) (pc sp:Int) (us:VL):Prop:=∃ st' pc' sp',At us st' pc' sp'/\(st'=0->sp'=wrap64 (sp+1)/\-1<=pc/\pc<(l.length:Int)/\l.length<=2048/\(sp'<64\/(opAt l pc≠21/\(pc<pc'\/opAt l pc'=21))))
def RStep (X:NP) (K:Nat) (l:List In) (pc sp:Int) (e:Ending) (w:World):Prop:=∃ (us:VL) (ev:Int),e=.returned (.tuple #[.agg us.toArray,i_ ev])/\VTs w X K ae_ us/\Hid (ev=0->StepOk l pc sp us)
theorem eu_ {X:NP} {w:World} {K:Nat} {l:List In} {pc sp:Int} {us:VL} (h:VTs w X K ae_ us) (hs:∀ st',us[42]?=some (i_ st')->st'≠0):StepOk l pc sp us:=by
 obtain ⟨st,p,s,h1,h2,h3⟩:=h.at_;exact ⟨st,p,s,⟨h1,h2,h3⟩,fun h=>absurd h (hs st h1)⟩
theorem ret_task {X:NP} {w0 w:World} {L:List LV} {Y:NP} {C:Nat->VL} {i b N:Nat} {us:VL} (F:Fr X (fun _=>False) w0 L Y C w) (hp:L[i]?=some ⟨b,fun _=>N,ae_,noOw⟩) (hv:VTs w Y N ae_ us) (l:List In) (pc sp ev:Int) (hok:ev=0->StepOk l pc sp us) :
  (∃ f2:Fr X (fun _=>False) w0 L Y (upd C b us) (w.setCells b 0 us),True)/\RStep X N l pc sp (.returned (.tuple #[.agg (upd C b us b).toArray,i_ ev])) (w.setCells b 0 us)/\Below w0 w0 (w.setCells b 0 us):=by
 obtain ⟨f2,u2⟩:=F.sets (i:=i) hp hv;exact ⟨⟨f2,trivial⟩,⟨_,ev,rfl,(f2.whole hp).less (fun k _ hk=>f2.sub k hk),q_ (by rw [upd_same];exact hok)⟩,f2.below⟩
attribute [local go_sem ↓] exec33 exec48
theorem dd_.of_range {w:World} {b o:Nat} {cs:VL} (hl:cs.length=33) (h:w.rangeAt b o cs):dd_ w (.pointer (some (f_ b o))):=⟨b,o,cs,rfl,hl,h⟩
def cg_:VL:=[i_ 0,i_ 0,.bool false,i_ 0,.bool false,i_ 0,.bool false,i_ 0,.bool false,i_ 0,.bool false,i_ 0,.bool false,i_ 0,.bool false,i_ 0,.bool false,i_ 0,.bool false,i_ 0,.bool false,i_ 0,.bool false,i_ 0,.bool false,i_ 0,.bool false,i_ 0,.bool false,i_ 0,.bool false,i_ 0,.bool false,i_ 0,.bool false,i_ 0,.slice none 0 0,.slice none 0 0,.slice none 0 0,.slice none 0 0,.slice none 0 0,.slice none 0 0,i_ 0,i_ 0,.bool false,.bool false,i_ 0,i_ 0]
theorem em_ {X:NP} {w:World} {K:Nat}:VTs w X K ae_ cg_:=ax_ K ae_
theorem db_:(prog.info? 65).map (·.size)=some cg_.length:=au_
theorem Step_t (X:NP) (K:Nat) (A:OA) (n c:Nat) (v s:Int) (l:List In) (D:OA) (m d:Nat) (L:Nat) (vs:VL) (HA:OA) (hn hc:Nat) (w:World)
  (hco:SlT w X K aw_ A n c) (hl:Sl w w 5 In.cells A n l) (hK:K<=900000000) (hd:SlT w X K [.num] D m d) (ht:VTs w X L ae_ vs) (hL:L<=9000000) (hh:SlT w X K objT HA hn hc) (hX:∀ k,X k->k<w) (st pc sp:Int) (hat:At vs st pc sp) :
  Calls prog 46 #[.agg #[.slice A n c,i_ v,i_ s],.agg #[.slice D m d],.agg vs.toArray,.agg #[.slice HA hn hc]] w fun e w'=>RStep X (L+1600) l pc sp e w'/\Below w w w':=by
 have BY:=hco.le;obtain ⟨W0,Y0,C0,Bb,Bk,U0,F0,c0,c1,c2,c3⟩:=Fr.start4 hX K [.sl aw_,.num,.num] [.slice A n c,i_ v,i_ s] 26 (VTs.cons hco.vt (VTs.cons (.num _) (VTs.cons (.num _) VTs.nil))) K [.sl [.num]] [.slice D m d] 32 (vts1 hd) L ae_ vs 65 ht K [.sl objT] [.slice HA hn hc] 35 (vts1 hh);obtain ⟨W,Y,C,hW,hz,U1,F,cN,cO⟩:=F0.add1 (L+1600) ae_ zl1 65 (ax_ _ ae_);rw [Bk] at F cN cO hz;rw [Bb] at hW;have U:=U0.trans U1;have C0:=h_ (C w=[.slice A n c,i_ v,i_ s]) wc_;have C1:=h_ (C (w+1)=[.slice D m d]) wd_;have C2:=h_ (C (w+2)=vs) we_;have C3:=h_ (C (w+3)=[.slice HA hn hc]) (by rw [cO _ o_];exact c3);have Bu:=q_ (hco.go U (l_));have HL:=q_ (hl.go hco U);have HD:=q_ (hd.go U (l_));have HT:=q_ (ht.go U (l_));have HH:=q_ (hh.go U (l_));have HF:=q_ F;have Ag:=q_ hat
 have x0:=F.cell (i:=4) rfl (j:=0) zw_;have x1:=F.cell (i:=4) rfl (j:=1) zw_;have x2:=F.cell (i:=4) rfl (j:=2) zw_;have d0:=F.cell (i:=3) rfl (j:=0) (by rw [C1.o];rfl);clear hco hl hd ht hh hX U0 U1 F0 F c0 c1 c2 c3 cN cO U Bb Bk hat
 go_enter func46,ntmps46;go_upto_region 1 with fail;rw [<-hW];clear hW;go_wp2_with fail;refine (Valid16_t Y K A n c v s l D m d W HL.o o_ HD.o o_).mono ?_;rintro e W1 ⟨⟨vb,rfl,Bj⟩,hB⟩;have F1:=q_ (HF.o.call hB);have B1:=q_ hB;have HV:=q_ Bj;have BR:=q_ (F1.o.box (i:=0) rfl);have LR:=q_ (F1.o.len (i:=0) rfl);have HZ:=h_ (VTs W1 Y (L+1600) ae_ cg_) em_;clear hB Bj x0 x1 x2 d0;cases vb
 case false =>
  go_wp2_with (with_reducible refine ab_ rfl 65 (.tmp 8) (.tmp 17) rfl cg_ w_ z2_ (BR.o.ai_ LR.o d_) db_ HZ.o.one ?_);obtain ⟨⟨f2,_⟩,hr⟩:=ret_task F1.o (i:=0) rfl HZ.o l pc sp 1 (fun h=>o_);exact u9_
 have AU:=F1.o.cell (i:=2) rfl (j:=42) (by rw [C2.o];exact Ag.o.1);by_cases hst:st=0
 case neg =>
  go_wp2_with (with_reducible refine ab_ rfl 65 (.tmp 8) (.tmp 21) rfl cg_ w_ z2_ (BR.o.ai_ LR.o d_) db_ HZ.o.one ?_);obtain ⟨⟨f2,_⟩,hr⟩:=ret_task F1.o (i:=0) rfl HZ.o l pc sp 7 (fun h=>o_);exact u9_
 subst hst;have Az:=q_ (HL.o.up B1.o);have A4:=q_ (Bu.o.go (Up.of_below B1.o) (l_));have Ad:=q_ (HT.o.go (Up.of_below B1.o) (l_));have AJ:=q_ (HH.o.go (Up.of_below B1.o) (l_));obtain ⟨Bl,As⟩:=Ad.o.num (j:=1) rfl;obtain ⟨NA,nn,nc,Aq,hN⟩:=Ad.o.slc (j:=39) (e:=objT) rfl;obtain ⟨cs,Al⟩:=ex_ ((vs.drop 3).take 33);have Bd:cs.length=33:=by rw [Al,List.length_take,List.length_drop,Ad.o.1];rfl
 have AI:=h_ (VTs W1 Y K cpuT cs) (by rw [Al];exact (Ad.o.part 3 33).flat (ts:=cpuT) rfl);have AH:=h_ (cs[0]?=some (i_ pc)) (by rw [Al,List.getElem?_take,if_pos d_,List.getElem?_drop];exact Ag.o.2.1);have KS:=h_ (∀ w',Below W1 W1 w'->(w'.cell? (a_ w)=some (.slice A n c)/\w'.cell? (f_ w 1)=some (i_ v)/\w'.cell? (f_ w 2)=some (i_ s)/\dd_ w' (.pointer (some ⟨w+1+1,3,none⟩))/\row33V w' (.pointer (some ⟨w+1+1,3,none⟩))=cs.toArray/\There48 w' (.pointer (some ⟨w+1+1,0,none⟩))/\row48V w' (.pointer (some ⟨w+1+1,0,none⟩))=vs.toArray/\w'.cell? (a_ (w+3))=some (.slice HA hn hc)/\w'.cell? (f_ (w+2) 1)=some (i_ Bl)/\w'.cell? (f_ (w+2) 39)=some (.slice NA nn nc))) (fun w' hb=>by
  have f:=F1.o.call hb
  have bt:=f.box (i:=2) rfl
  rw [C2.o] at bt
  have AT:=bt.range 3 33
  rw [<-Al] at AT
  exact ⟨f.cell (i:=4) rfl zw_,f.cell (i:=4) rfl zw_,f.cell (i:=4) rfl zw_,dd_.of_range Bd AT,row33_at Bd AT,⟨_,_,vs,rfl,HT.o.1,bt.whole⟩,row48_at HT.o.1 bt.whole,f.cell (i:=1) rfl (by rw [C3.o];rfl),bt.2.1 1 _ As,bt.2.1 39 _ Aq⟩)
 have BU:=q_ Al;have Am:=h_ (Below W1 W1 W1.drew) (Below.drew (b_));have An:=h_ (Below W1 W1 (W1.drew.alloc (.cells zl6.toArray 145))) ((Below.drew (b_)).alloc (l_) _);have BB:=h_ (Bx (W1.drew.alloc (.cells zl6.toArray 145)) W1 zl6) (Bx.new W1.drew zl6 145);have AN:=h_ (∀ (w':World),Below W1 W1 w'->∀ k,Y k->k<w') (fun w' hb k hk=>lt_ (F1.o.lt k hk) hb.size);have AL:=h_ (Up W1 Y W1.drew Y) (Up.of_below Am.o);have B8:=h_ (∀ k,Y k->k<W1.drew) (AN.o _ Am.o);go_upto_region 5 with fail;clear Aq As Al hN AU;go_cut [10] (fun p wx=>∃ (q:Nat) (es:VL),p=.pointer (some (a_ q))/\W1<=q/\Hid (Bx wx q es)/\Hid (VTs wx Y 200 effT es)/\Hid (EffOk l pc es)/\Hid (Below W1 W1 wx))
 case first =>
  refine aq_ (S:=fun w':World=>w'.cell? (a_ w)=some (.slice A n c)/\w'.cell? (f_ w 1)=some (i_ v)/\w'.cell? (f_ w 2)=some (i_ s)/\dd_ w' (.pointer (some ⟨w+1+1,3,none⟩))/\row33V w' (.pointer (some ⟨w+1+1,3,none⟩))=cs.toArray/\There48 w' (.pointer (some ⟨w+1+1,0,none⟩))/\row48V w' (.pointer (some ⟨w+1+1,0,none⟩))=vs.toArray/\w'.cell? (a_ (w+3))=some (.slice HA hn hc)/\w'.cell? (f_ (w+2) 1)=some (i_ Bl)/\w'.cell? (f_ (w+2) 39)=some (.slice NA nn nc)) rfl (KS.o _ Am.o) (fun _=>?_);go_simp;refine aa_ 0 22 ?_;refine aa_ 1 23 ?_;refine aa_ 2 24 ?_;refine aa_ 3 25 ?_;refine aa_ 4 26 ?_;refine aa_ 6 28 ?_;refine aa_ 7 29 ?_;refine aa_ 8 30 ?_;refine aa_ 9 31 ?_;refine aa_ 10 32 ?_;refine aa_ 11 33 ?_;refine aa_ 12 34 ?_;refine aa_ 13 35 ?_;refine wpAnyH_ready (rs:=[5,15]) k_ t_ (AllReadyH.cons rfl (fun K hK=>?_) (AllReadyH.cons rfl (fun K hK=>?_) AllReadyH.nil))
  ·go_simp;go_at_call 86;refine (Visible_t Y _ HA hn hc L vs W1.drew (AJ.o.go AL.o (l_)) o_ (Ad.o.go AL.o (l_)) o_ B8.o).mono ?_;rintro e S ⟨⟨VA,vn,vc,rfl,AE⟩,hS⟩;have BS:=h_ (Below W1 W1 S) (Am.o.trans (hS.mono Am.o.size));have Ak:=h_ (Up W1 Y S Y) (AL.o.trans (Up.of_below hS));have AP:=h_ (∀ k,Y k->k<S) (fun k hk=>lt_ (B8.o k hk) hS.size);clear hS;refine hK.out _ _ (KS.o _ BS.o) (fun _=>?_);try simp only [Act.put,sA,s0,s1]
   refine wpAnyH_ready (rs:=[14,15]) k_ t_ (AllReadyH.cons rfl (fun K hK=>?_) (AllReadyH.cons rfl (fun K hK=>?_) AllReadyH.nil))
   ·go_simp;go_at_call 73;refine (One_t Y _ A n c v s l VA vn vc _ cs pc S (A4.o.go Ak.o o_) (Az.o.up BS.o) o_ ((AI.o.go Ak.o (l_)).flat rfl) AE.o AP.o AH.o).mono ?_;rintro e R ⟨⟨es,rfl,Aa,Ab⟩,hR⟩;have A3:=h_ (Below W1 W1 R) (BS.o.trans (hR.mono BS.o.size));have A0:=q_ Aa;clear hR Aa;refine hK.out _ _ (KS.o _ A3.o) (fun _=>?_);refine bc_ 15 fun K hK=>?_
    go_simp;have BA:=h_ (Below W1 W1 (R.alloc (.cells zl6.toArray 145))) (A3.o.alloc A3.o.size _);have A8:=q_ (Bx.new R zl6 145);have A0:=h_ (VTs (R.alloc (.cells zl6.toArray 145)) (fun k=>Y k\/k=R) 200 effT es) (A0.o.go (show Up R Y (R.alloc (.cells zl6.toArray 145)) (fun k=>Y k\/k=R) from ⟨Kp.of_below ((b_).alloc (l_) _),fun k hk h1 h2=>by rcases h2 with h2 | h2;exact h1 h2;exact absurd h2 (Nat.ne_of_lt hk)⟩) (l_));refine hK.out _ _ (KS.o _ BA.o) (fun _=>?_);refine bc_ 16 fun K hK=>?_
    rw [if_pos za_];refine wp_store_mid 145 (.tmp 10) (.tmp 36) rfl R 0 es.toArray v_ v_ ym_ xc_ (by simpa using A0.o.one) ?_;have A9:=h_ (Below W1 W1 (World.setCells (R.alloc (.cells zl6.toArray 145)) R 0 es)) ((ag_ R es 0 (Kp.of_below (X:=fun _=>False) BA.o) (.inr A3.o.size)).below (l_) (fun _ _ h=>h));refine hK.out _ _ (KS.o _ A9.o) (fun _=>?_);try simp only [Act.put,sA,s0,s1]
    refine wpAnyH_done k_ ?_ _;go_wp2_with fail;go_meet;exact ⟨R,es,rfl,A3.o.size,q_ (A8.o.all es (by rw [A0.o.len];rfl)),q_ ((A0.o.up (ag_ (X:=(fun k=>Y k\/k=R)) R es 0 (Kp.refl _ _) (.inl (.inr rfl))) (l_)).less (fun k _ hk=>.inl hk)),Ab,A9⟩
   go_simp;have AZ:=h_ (Below S S (S.alloc (.cells zl6.toArray 145))) ((b_).alloc (l_) _);have BA:=h_ (Below W1 W1 (S.alloc (.cells zl6.toArray 145))) (BS.o.trans (AZ.o.mono BS.o.size));have BZ:=q_ (Bx.new S zl6 145);have B7:=h_ (Up S Y (S.alloc (.cells zl6.toArray 145)) (fun k=>Y k\/k=S)) (⟨Kp.of_below AZ.o,fun k hk h1 h2=>by rcases h2 with h2 | h2;exact h1 h2;exact absurd h2 (Nat.ne_of_lt hk)⟩);have Aj:=h_ (Up W1 Y (S.alloc (.cells zl6.toArray 145)) (fun k=>Y k\/k=S)) (Ak.o.trans B7.o);have AA:=h_ (∀ k,(fun k=>Y k\/k=S) k->k<(S.alloc (.cells zl6.toArray 145)).heap.size) (fun k hk=>by rcases hk with hk | rfl;exact AN.o _ BA.o k hk;simp);refine hK.out _ _ (KS.o _ BA.o) (fun _=>?_);refine bc_ 14 fun K hK=>?_
   go_simp;go_at_call 73;refine (One_t (fun k=>Y k\/k=S) _ A n c v s l VA vn vc _ cs pc (S.alloc (.cells zl6.toArray 145)) (A4.o.go Aj.o o_) (Az.o.up BA.o) o_ ((AI.o.go Aj.o (l_)).flat rfl) (AE.o.go B7.o (l_)) AA.o AH.o).mono ?_;rintro e R ⟨⟨es,rfl,Aa,Ab⟩,hR⟩;have A3:=h_ (Below W1 W1 R) (BA.o.trans (hR.mono BA.o.size));have A0:=q_ Aa;have A8:=q_ (BZ.o.below hR);clear hR Aa;refine hK.out _ _ (KS.o _ A3.o) (fun _=>?_);refine bc_ 16 fun K hK=>?_
   rw [if_pos za_];refine wp_store_mid 145 (.tmp 10) (.tmp 36) rfl S 0 es.toArray v_ v_ ym_ xc_ (by simpa using A0.o.one) ?_;have A9:=h_ (Below W1 W1 (World.setCells R S 0 es)) ((ag_ S es 0 (Kp.of_below (X:=fun _=>False) A3.o) (.inr BS.o.size)).below (l_) (fun _ _ h=>h));refine hK.out _ _ (KS.o _ A9.o) (fun _=>?_);try simp only [Act.put,sA,s0,s1]
   refine wpAnyH_done k_ ?_ _;go_wp2_with fail;go_meet;exact ⟨S,es,rfl,BS.o.size,q_ (A8.o.all es (by rw [A0.o.len];rfl)),q_ ((A0.o.up (ag_ (X:=(fun k=>Y k\/k=S)) S es 0 (Kp.refl _ _) (.inl (.inr rfl))) (l_)).less (fun k _ hk=>.inl hk)),Ab,A9⟩
  go_simp;have Aj:=h_ (Up W1 Y (W1.drew.alloc (.cells zl6.toArray 145)) (fun k=>Y k\/k=W1)) (⟨Kp.of_below An.o,fun k hk h1 h2=>by rcases h2 with h2 | h2;exact h1 h2;exact absurd h2 (Nat.ne_of_lt hk)⟩);have AA:=h_ (∀ k,(fun k=>Y k\/k=W1) k->k<(W1.drew.alloc (.cells zl6.toArray 145)).heap.size) (fun k hk=>by rcases hk with hk | rfl;exact AN.o _ An.o k hk;simp);refine hK.out _ _ (KS.o _ An.o) (fun _=>?_);refine bc_ 5 fun K hK=>?_
  go_simp;go_at_call 86;refine (Visible_t (fun k=>Y k\/k=W1) _ HA hn hc L vs (W1.drew.alloc (.cells zl6.toArray 145)) (AJ.o.go Aj.o (l_)) o_ (Ad.o.go Aj.o (l_)) o_ AA.o).mono ?_;rintro e S ⟨⟨VA,vn,vc,rfl,AE⟩,hS⟩;have BS:=h_ (Below W1 W1 S) (An.o.trans (hS.mono An.o.size));have Ak:=h_ (Up W1 Y S (fun k=>Y k\/k=W1)) (Aj.o.trans (Up.of_below hS));have AP:=h_ (∀ k,(fun k=>Y k\/k=W1) k->k<S) (fun k hk=>lt_ (AA.o k hk) hS.size);have BZ:=q_ (BB.o.below hS);clear hS;refine hK.out _ _ (KS.o _ BS.o) (fun _=>?_);refine bc_ 14 fun K hK=>?_
  go_simp;go_at_call 73;refine (One_t (fun k=>Y k\/k=W1) _ A n c v s l VA vn vc _ cs pc S (A4.o.go Ak.o o_) (Az.o.up BS.o) o_ ((AI.o.go Ak.o (l_)).flat rfl) AE.o AP.o AH.o).mono ?_;rintro e R ⟨⟨es,rfl,Aa,Ab⟩,hR⟩;have A3:=h_ (Below W1 W1 R) (BS.o.trans (hR.mono BS.o.size));have A0:=q_ Aa;have A8:=q_ (BZ.o.below hR);clear hR Aa;refine hK.out _ _ (KS.o _ A3.o) (fun _=>?_);refine bc_ 16 fun K hK=>?_
  rw [if_pos za_];refine wp_store_mid 145 (.tmp 10) (.tmp 36) rfl W1 0 es.toArray v_ v_ ym_ xc_ (by simpa using A0.o.one) ?_;have A9:=h_ (Below W1 W1 (World.setCells R W1 0 es)) ((ag_ W1 es 0 (Kp.of_below (X:=fun _=>False) A3.o) (.inr (l_))).below (l_) (fun _ _ h=>h));refine hK.out _ _ (KS.o _ A9.o) (fun _=>?_);try simp only [Act.put,sA,s0,s1]
  refine wpAnyH_done k_ ?_ _;go_wp2_with fail;go_meet;exact ⟨W1,es,rfl,(l_),q_ (A8.o.all es (by rw [A0.o.len];rfl)),q_ ((A0.o.up (ag_ (X:=(fun k=>Y k\/k=W1)) W1 es 0 (Kp.refl _ _) (.inl (.inr rfl))) (l_)).less (fun k _ hk=>.inl hk)),Ab,A9⟩
 obtain ⟨q,es,rfl,hq,hB,hE,Ab,AD⟩:=hcut;have F2:=q_ (F1.o.call AD.o);have BQ:=hB;have HE:=hE;have B2:=AD;obtain ⟨kd,pp,e0,e1,hk⟩:=Ab.o;have B3:=q_ hk;have E0:=q_ e0;have E1:=q_ e1;have z0:=hB.o.2.1 0 _ e0;have BT:=h_ (Bx wc (w+2) vs) (by have:=F2.o.box (i:=2) rfl;rwa [C2.o] at this);have IT:=h_ ((prog.info? 65).map (·.size)=some vs.length) (by rw [HT.o.1];exact au_);have TW:=q_ (Ad.o.go (Up.of_below AD.o) (l_));have Bh:¬Y q:=fun h=>by have:=F1.o.lt _ h;omega
 have Bz:=q_ Bh;have C5:w+4<q:=by have:=F1.o.blt (i:=0) rfl;omega
 clear hB hE Ab AD hk e0 e1 Bh;by_cases h4:kd=4
 ·subst h4;go_wp2_with (with_reducible refine ac_ rfl 65 (.tmp 6) rfl _ underlying65 rfl v_ BT.o.whole IT.o ?_);refine (broken_t Y L vs wc TW.o F2.o.lt).mono ?_;rintro e S9 ⟨⟨Af,rfl,A1,AR⟩,Ao⟩;have F9:=q_ (F2.o.call Ao);have A7:=h_ (VTs S9 Y (L+1600) ae_ Af) (A1.up (Kp.refl _ _) o_);have AO:=h_ ((prog.info? 65).map (·.size)=some Af.length) w9_;have BR:=q_ (F9.o.box (i:=0) rfl);have LR:=q_ (F9.o.len (i:=0) rfl);clear Ao A1;go_wp2_with (with_reducible refine ab_ rfl 65 (.tmp 8) (.tmp 41) rfl (Af) w_ v_ (BR.o.ai_ LR.o (Nat.le_of_eq A7.o.len)) AO.o A7.o.one ?_);obtain ⟨⟨f9,_⟩,hr⟩:=ret_task F9.o (i:=0) rfl A7.o l pc sp 0 (fun _=>eu_ A7.o (fun AG h=>by
   rw [AR.o] at h
   injection h with h
   injection h with _ h
   omega))
  exact ta_
 by_cases h3:kd=3
 ·subst h3;have t3:=BT.o.2.1 3 _ Ag.o.2.1;have BJ:=BT.o.2.1 42 _ Ag.o.1;obtain ⟨C6,Ba⟩:=TW.o.num (j:=43) rfl;have BK:=BT.o.2.1 43 _ Ba;have ft:=BT.o.2.2;go_upto_region 9 with fail;go_cut [] (fun wx=>∃ y:Int,wx=(wc.setCell (f_ (w+2) 42) (i_ 1)).setCell (f_ (w+2) 43) (i_ y))
  case first =>
   go_wp2_with fail;go_meet;exact ⟨_,rfl⟩
  obtain ⟨y,rfl⟩:=hcut;obtain ⟨f3,u3⟩:=F2.o.set (i:=2) (j:=42) (t:=.num) (v:=i_ 1) rfl rfl rfl (.num _);obtain ⟨f4,u4⟩:=f3.set (i:=2) (j:=43) (t:=.num) (v:=i_ y) rfl rfl rfl (.num _);obtain ⟨U,hU⟩:=ex_ ((wc.setCell (f_ (w+2) 42) (i_ 1)).setCell (f_ (w+2) 43) (i_ y));rw [<-hU] at f4 ⊢;have BW:vs.length=48:=HT.o.1;obtain ⟨xs,A6⟩:=ex_ ((vs.set 42 (i_ 1)).set 43 (i_ y));have Bo:=h_ (Bx U (w+2) xs) (by have:=f4.box (i:=2) rfl;rw [upd_same,upd_same,C2.o,<-A6] at this;exact this);have VX:=h_ (VTs U Y (L+1600) ae_ xs) (by have:=f4.whole (i:=2) rfl;rw [upd_same,upd_same,C2.o,<-A6] at this;exact this.up (Kp.refl _ _) o_);have Bt:=h_ (xs[42]?=some (i_ 1)) (by rw [A6,gs_,if_neg d_,gs_,if_pos rfl,if_pos o_]);have IX:=h_ ((prog.info? 65).map (·.size)=some xs.length) (by rw [VX.o.1];exact au_);have F4:=q_ f4;have BR:=q_ (f4.box (i:=0) rfl);have LR:=q_ (f4.len (i:=0) rfl);clear hU f3 u3 f4 u4 A6 t3 BJ BK ft Ba z0;go_wp2_with (first | (with_reducible refine ac_ rfl 65 (.tmp 6) rfl _ underlying65 rfl v_ Bo.o.whole IX.o ?_) | (with_reducible refine ab_ rfl 65 (.tmp 8) (.tmp 51) rfl (xs) w_ v_ (BR.o.ai_ LR.o (Nat.le_of_eq VX.o.len)) IX.o VX.o.one ?_));obtain ⟨⟨f9,_⟩,hr⟩:=ret_task F4.o (i:=0) rfl VX.o l pc sp 0 (fun _=>eu_ VX.o (fun AG h=>by
   rw [Bt.o] at h
   injection h with h
   injection h with _ h
   omega))
  exact ta_
 have IE:=h_ ((prog.info? 145).map (·.size)=some es.length) (by rw [HE.o.1];exact isz_145);have z3:=F2.o.cell (i:=1) rfl (j:=0) (v:=.slice HA hn hc) (by rw [C3.o];rfl);go_wp2_with (first | (with_reducible refine ac_ rfl 65 (.tmp 6) rfl _ underlying65 rfl v_ BT.o.whole IT.o ?_) | (with_reducible refine ac_ rfl 145 (.tmp 10) rfl _ underlying145 rfl v_ BQ.o.whole IE.o ?_));refine (record_t Y K HA hn hc L 200 vs es wc (AJ.o.go (Up.of_below B2.o) (l_)) o_ TW.o o_ HE.o ⟨o_,o_⟩ F2.o.lt).mono ?_;rintro e S ⟨⟨us,tv,rfl,AS,Bi,Be⟩,hS⟩;obtain ⟨tb,rfl⟩:=Bi.bool;have F3:=q_ (F2.o.call hS);have B5:=Be;have US:=q_ AS;have IS:=h_ ((prog.info? 65).map (·.size)=some us.length) (by rw [AS.1];exact au_);have BN:=q_ (Bx.new S zl1 65);have LR:=h_ ((zl1:VL).length=ae_.length) rfl;obtain ⟨N,Y3,D3,hN,BF,u3,f3,cN,B9⟩:=F3.o.eb_ (L+1600) ae_ zl1 us 65 (ax_ _ ae_) (US.o.up (Kp.refl _ _) o_);have C4:q<wc.heap.size:=BQ.o.1;have hsz:=hS.size;have F4:=q_ f3;have AW:=h_ (Bx N q es) ((BQ.o.below hS).kp u3.kp Bz.o);have CN:=q_ cN;have CO:=h_ (∀ k,k<S.heap.size->D3 k=C k) (fun k hk=>B9 k o_);have Ah:=h_ (VTs N Y3 200 effT es) ((HE.o.go (Up.of_below hS) (l_)).go u3 (l_));have B4:=h_ (Below W1.heap.size W1 S) (B2.o.trans (hS.mono B2.o.size));have AM:=q_ u3;have BE:=h_ (VTs N Y3 L ae_ vs) ((TW.o.go (Up.of_below hS) (l_)).go u3 (l_));have BV:w.heap.size+4<S.heap.size:=F3.o.blt (i:=0) rfl;clear hS AS Bi Be f3 cN B9 u3 BF z0 z3;go_upto_region 12 with (with_reducible refine ab_ rfl 65 (.tmp 11) (.tmp 57) rfl (us) w_ v_ (BN.o.ai_ LR.o (Nat.le_of_eq US.o.len)) IS.o US.o.one ?_);rw [<-hN];clear hN;cases tb
 case false =>
  have BT:=h_ (Bx N (w.heap.size+2) vs) (by have:=F4.o.box (i:=3) rfl;rwa [CO.o _ o_,C2.o] at this);go_wp2_with (with_reducible refine ac_ rfl 65 (.tmp 6) rfl _ underlying65 rfl v_ BT.o.whole IT.o ?_);refine (broken_t Y3 L vs N BE.o F4.o.lt).mono ?_;rintro e S9 ⟨⟨Af,rfl,A1,AR⟩,Ao⟩;have F9:=q_ (F4.o.call Ao);have A7:=h_ (VTs S9 Y3 (L+1600) ae_ Af) (A1.up (Kp.refl _ _) o_);have AO:=h_ ((prog.info? 65).map (·.size)=some Af.length) w9_;have BR:=q_ (F9.o.box (i:=1) rfl);have LR:=q_ (F9.o.len (i:=1) rfl);clear Ao A1;go_wp2_with (with_reducible refine ab_ rfl 65 (.tmp 8) (.tmp 62) rfl (Af) w_ v_ (BR.o.ai_ LR.o (Nat.le_of_eq A7.o.len)) AO.o A7.o.one ?_);obtain ⟨⟨f9,_⟩,hr⟩:=ret_task F9.o (i:=1) rfl A7.o l pc sp 0 (fun _=>eu_ A7.o (fun AG h=>by
   rw [AR.o] at h
   injection h with h
   injection h with _ h
   omega))
  exact u6_
 obtain ⟨ec,Ap⟩:=ex_ ((es.drop 1).take 33);have A5:ec.length=33:=by rw [Ap,List.length_take,List.length_drop,Ah.o.1];rfl
 have B0:=h_ (VTs N Y3 0 cpuT ec) (by rw [Ap];exact (Ah.o.part 1 33).flat (ts:=cpuT) rfl);have Bs:=h_ (ec[0]?=some (i_ pp)) (by rw [Ap,List.getElem?_take,if_pos d_,List.getElem?_drop];exact E1.o);have RQ:=h_ (N.rangeAt q 1 ec) (by rw [Ap];exact AW.o.range 1 33);have IC:=h_ ((prog.info? 62).map (·.size)=some ec.length) (by rw [A5];exact isz_62);have TX:=q_ (F4.o.there (i:=0) rfl (o:=3) (n:=ec.length) (by rw [A5];decide));obtain ⟨f5,u5⟩:=F4.o.part (i:=0) (o:=3) (N:=0) (us:=cpuT) rfl rfl d_ B0.o (fun j h1 h2=>⟨Nat.zero_le _,rfl⟩);obtain ⟨P,hP⟩:=ex_ (N.setCells S 3 ec);obtain ⟨D5,AB⟩:=ex_ (upd D3 S (splice (D3 S) 3 ec));rw [<-hP,<-AB] at f5;rw [<-hP] at u5;have Bg:us.length=48:=US.o.1;have A2:∀ j,36<=j->(splice us 3 ec)[j]?=us[j]?:=fun j hj=>by
  unfold splice;have h3:(us.take 3).length=3:=by rw [List.length_take,Bg];decide
  rw [List.getElem?_append_right (by rw [h3];omega),h3,List.getElem?_append_right (by rw [A5];omega),A5,List.getElem?_drop]
  congr 1;omega
 have BD:=q_ (show (splice us 3 ec)[3]?=some (i_ pp) from by
  unfold splice
  have h3:(us.take 3).length=3:=by rw [List.length_take,Bg];decide
  rw [List.getElem?_append_right (by rw [h3];omega),h3,List.getElem?_append_left (by rw [A5];decide)]
  exact Bs.o)
 have E5:=h_ (D5 S.heap.size=splice us 3 ec) (by rw [AB,upd_same,CN.o]);have Br:=h_ ((D5 S.heap.size)[47]?=some (i_ sp)) (by rw [E5.o,A2 47 d_,B5.o.2];exact Ag.o.2.2);have Bq:=h_ ((D5 S.heap.size)[42]?=some (i_ 0)) (by rw [E5.o,A2 42 d_,B5.o.1];exact Ag.o.1);have Bp:=h_ (∀ k,k<S.heap.size->D5 k=C k) (fun k hk=>by rw [AB,ad_ _ _ o_];exact CO.o k hk);have F5:=q_ f5;have Bn:=h_ (Bx P q es) (by rw [hP];exact AW.o.others o_ ec);have U5:=q_ u5;clear f5 u5 AB A2 Ap;go_upto_region 15 with (first | (with_reducible refine ac_ rfl 62 (.tmp 63) rfl _ underlying62 rfl v_ RQ.o IC.o ?_) | (with_reducible refine ab_ rfl 62 (.tmp 65) (.tmp 64) rfl ec w_ v_ TX.o IC.o B0.o.one ?_));rw [<-hP];clear hP;have BP:=F5.o.cell (i:=0) rfl Br.o;have fx:=F5.o.fz (i:=0) rfl;obtain ⟨f6,u6⟩:=F5.o.set (i:=0) (j:=47) (t:=.num) (v:=i_ (wrap64 (sp+1))) rfl rfl rfl (.num _);obtain ⟨Q,hQ⟩:=ex_ (P.setCell (f_ S.heap.size 47) (i_ (wrap64 (sp+1))));obtain ⟨D6,AC⟩:=ex_ (upd D5 S.heap.size ((D5 S.heap.size).set 47 (i_ (wrap64 (sp+1)))));rw [<-hQ,<-AC] at f6;rw [<-hQ] at u6;obtain ⟨xs,A6⟩:=ex_ ((splice us 3 ec).set 47 (i_ (wrap64 (sp+1))));have E6:=h_ (D6 S.heap.size=xs) (by rw [AC,upd_same,E5.o,A6]);have Ay:=h_ (∀ k,k<S.heap.size->D6 k=C k) (fun k hk=>by rw [AC,ad_ _ _ o_];exact Bp.o k hk);have F6:=q_ f6;have VX:=h_ (VTs Q Y3 (L+1600) ae_ xs) (by have:=f6.whole (i:=0) rfl;rwa [E6.o] at this);have Ac:=h_ (Bx Q q es) (by rw [hQ];exact Bn.o.far (by show S.heap.size≠q;omega) _);have BH:(D5 S.heap.size).length=48:=F5.o.len (i:=0) rfl;have AX:=h_ (At xs 0 pp (wrap64 (sp+1))) (⟨by rw [A6,gs_,if_neg d_,<-E5.o];exact Bq.o,by rw [A6,gs_,if_neg d_];exact BD.o,by rw [A6,gs_,if_pos rfl,if_pos (by rw [<-E5.o,BH];decide)]⟩);have U6:=q_ (U5.o.trans u6);clear f6 u6 AC A6;go_upto_block 0 with fail;rw [<-hQ];clear hQ BP fx;have q0:=Ac.o.2.1 0 _ E0.o;have Ai:=q_ (show -1<=pc/\pc<(l.length:Int)/\l.length<=2048 from by
  rcases B3.o with h | h
  ·exact absurd h h4
  exact ⟨h.1.2.1,h.1.2.2,h.1.1.2⟩)
 have Bf:(D6 S).length=48:=F6.o.len (i:=0) rfl;have B6:=q_ Bf;clear Bf;go_cut [] (fun wx=>∃ (Y':NP) (C':Nat->VL),Hid (Fr X (fun _=>False) w [⟨S,fun _=>L+1600,ae_,noOw⟩,⟨w+3+1,fun _=>L+1600,ae_,noOw⟩,⟨w+3,fun _=>K,[.sl objT],noOw⟩,⟨w+2,fun _=>L,ae_,noOw⟩,⟨w+1,fun _=>K,[.sl [.num]],noOw⟩,⟨w,fun _=>K,[.sl aw_,.num,.num],noOw⟩] Y' C' wx)/\Hid (StepOk l pc sp (C' S)))
 case first =>
  by_cases h2:kd=2
  ·subst h2;obtain ⟨BL,Av⟩:=Ah.o.tru (j:=40) rfl;obtain ⟨vr,Aw⟩:=Ah.o.tru (j:=41) rfl;obtain ⟨BM,Ax⟩:=Ah.o.num (j:=42) rfl;have Cg:=Ac.o.2.1 40 _ Av;have Ch:=Ac.o.2.1 41 _ Aw;have Ci:=Ac.o.2.1 42 _ Ax;obtain ⟨AU,BO,_⟩:=F6.o.num (i:=0) rfl (j:=42) rfl rfl;obtain ⟨C9,Cd,_⟩:=F6.o.tru (i:=0) rfl (j:=44) rfl rfl;obtain ⟨Ca,Ce,_⟩:=F6.o.tru (i:=0) rfl (j:=45) rfl rfl;obtain ⟨Cb,Cf,_⟩:=F6.o.num (i:=0) rfl (j:=46) rfl rfl;have fx:=F6.o.fz (i:=0) rfl;clear Av Aw Ax;go_upto_region 17 with fail;go_region_law fail;all_goals
    obtain ⟨g1,v1⟩:=(F6.o.call (Below.drew (b_))).set (i:=0) (j:=42) (t:=.num) (v:=i_ 3) rfl rfl rfl (.num _);obtain ⟨g2,v2⟩:=g1.set (i:=0) (j:=44) (t:=.tru) (v:=.bool BL) rfl rfl rfl (.tru _);obtain ⟨g3,v3⟩:=g2.set (i:=0) (j:=45) (t:=.tru) (v:=.bool vr) rfl rfl rfl (.tru _);obtain ⟨g4,v4⟩:=g3.set (i:=0) (j:=46) (t:=.num) (v:=i_ BM) rfl rfl rfl (.num _);have Ae:=q_ (eu_ (l:=l) (pc:=pc) (sp:=sp) (g4.whole (i:=0) rfl) (fun AG h=>by
     rw [upd_same,upd_same,upd_same,upd_same,gs_,if_neg d_,gs_,if_neg d_,gs_,if_neg d_,gs_,if_pos rfl,if_pos (by rw [B6.o];decide)] at h
     injection h with h
     injection h with _ h
     omega))
    have G4:=q_ g4;clear g1 v1 g2 v2 g3 v3 g4 v4;go_wp2_with fail;go_meet;exact ⟨_,_,G4,Ae⟩
  by_cases h1:kd=1
  ·subst h1;obtain ⟨AV,Au⟩:=Ah.o.num (j:=39) rfl;have Bm:=Ac.o.2.1 39 _ Au;have d0:=F6.o.cell (i:=4) rfl (j:=0) (v:=.slice D m d) (by rw [Ay.o _ o_,C1.o];rfl);have Bv:=h_ (SlT Q Y3 K [.num] D m d) ((((HD.o.go (Up.of_below B1.o) (l_)).go (Up.of_below B4.o) (l_)).go AM.o (l_)).go U6.o (l_));have Bw:=h_ (Sl Q Q.heap.size 5 In.cells A n l) (Sl.go (Sl.go (Az.o.up B4.o) (A4.o.go (Up.of_below B4.o) (l_)) AM.o) ((A4.o.go (Up.of_below B4.o) (l_)).go AM.o (l_)) U6.o);clear Au;go_upto_region 18 with fail;go_cut [81] (fun bv wx=>∃ b:Bool,bv=.bool b/\Hid (b=false->wrap64 (sp+1)<64)/\Hid (Below Q.heap.size Q wx))
   case first =>
    go_wp2_with fail;refine (Active_t Y3 K D m d AV Q Bv.o o_).mono ?_;rintro e R ⟨⟨b1,rfl⟩,hR⟩;have HR:=q_ hR;have BI:=(F6.o.call hR).cell (i:=0) rfl (j:=47) (by rw [E6.o];exact AX.o.2.2);clear hR q0 Bm d0;cases b1
    case true =>
     go_wp2_with fail;go_meet;exact ⟨true,rfl,q_ x_,HR⟩
    by_cases AQ:64<=wrap64 (sp+1)
    ·go_wp2_with fail;go_meet;first
      | exact ⟨true,rfl,q_ x_,HR⟩
      | exact ⟨_,rfl,q_ (fun h=>by have:=of_decide_eq_false h;omega),HR⟩
    have AY:=q_ (show wrap64 (sp+1)<64 by omega);have a0:=(F6.o.call HR.o).cell (i:=5) rfl (j:=0) (v:=.slice A n c) w5_;have a1:=(F6.o.call HR.o).cell (i:=5) rfl (j:=1) (v:=i_ v) w5_;have a2:=(F6.o.call HR.o).cell (i:=5) rfl (j:=2) (v:=i_ s) w5_;have p1:=(Ac.o.below HR.o).2.1 1 _ E1.o;go_wp2_with fail;refine (Asks_any A n c v s pp l R (Bw.o.up HR.o) o_).mono ?_;rintro e T ⟨⟨b2,rfl,_⟩,hT⟩;have AK:=h_ (Below Q.heap.size Q T) (HR.o.trans (hT.mono HR.o.size));clear hT a0 a1 a2 p1 BI;cases b2
    case true =>
     go_wp2_with fail;go_meet;first
      | exact ⟨true,rfl,q_ x_,AK⟩
      | exact ⟨_,rfl,q_ (fun _=>AY.o),AK⟩
    go_wp2_with fail;go_meet;exact ⟨_,rfl,q_ (fun _=>AY.o),AK⟩
   obtain ⟨bb,rfl,BG,Bc⟩:=hcut;have F7:=q_ (F6.o.call Bc.o);clear q0 Bm d0;cases bb
   case false =>
    have AQ:wrap64 (sp+1)<64:=BG.o (by first | rfl | trivial);have Ae:=h_ (StepOk l pc sp (D6 S)) (by rw [E6.o];exact ⟨0,pp,_,AX.o,fun _=>⟨rfl,Ai.o.1,Ai.o.2.1,Ai.o.2.2,.inl AQ⟩⟩);clear AQ;go_wp2_with fail;go_meet;exact ⟨_,_,F7,Ae⟩
   have p1:=(Ac.o.below Bc.o).2.1 1 _ E1.o;obtain ⟨AU,BO,_⟩:=F7.o.num (i:=0) rfl (j:=42) rfl rfl;obtain ⟨C7,Cc,_⟩:=F7.o.num (i:=0) rfl (j:=43) rfl rfl;have fx:=F7.o.fz (i:=0) rfl;go_upto_region 19 with fail;go_region_law fail;all_goals
    obtain ⟨g1,v1⟩:=(F7.o.call (Below.drew (b_))).set (i:=0) (j:=42) (t:=.num) (v:=i_ 2) rfl rfl rfl (.num _);obtain ⟨g4,v4⟩:=g1.set (i:=0) (j:=43) (t:=.num) (v:=i_ pp) rfl rfl rfl (.num _);have Ae:=q_ (eu_ (l:=l) (pc:=pc) (sp:=sp) (g4.whole (i:=0) rfl) (fun AG h=>by
     rw [upd_same,upd_same,gs_,if_neg d_,gs_,if_pos rfl,if_pos (by rw [B6.o];decide)] at h
     injection h with h
     injection h with _ h
     omega))
    have G4:=q_ g4;clear g1 v1 g4 v4;go_wp2_with fail;go_meet;exact ⟨_,_,G4,Ae⟩
  have By:=q_ (show opAt l pc≠21/\(pc<pp\/opAt l pp=21) from by
   rcases B3.o with h | ⟨_,h5,h6⟩
   ·exact absurd h h4
   refine ⟨fun h=>by have:=h6 h;omega,?_⟩
   rcases h5 with h5 | h5
   ·omega
   exact h5)
  have Ae:=h_ (StepOk l pc sp (D6 S)) (by rw [E6.o];exact ⟨0,pp,_,AX.o,fun _=>⟨rfl,Ai.o.1,Ai.o.2.1,Ai.o.2.2,.inr By.o⟩⟩);go_wp2_with fail;go_meet;exact ⟨_,_,F6,Ae⟩
 obtain ⟨Y8,C8,F8,Ar⟩:=hcut
 rename World=>w8
 obtain ⟨ys,AF⟩:=ex_ (C8 S);have VY:=h_ (VTs w8 Y8 (L+1600) ae_ ys) (by rw [AF];exact F8.o.whole (i:=0) rfl);have BC:=h_ (StepOk l pc sp ys) (by rw [AF];exact Ar.o);have BX:=h_ (Bx w8 S ys) (by rw [AF];exact F8.o.box (i:=0) rfl);have IX:=h_ ((prog.info? 65).map (·.size)=some ys.length) (by rw [VY.o.1];exact au_);have BR:=q_ (F8.o.box (i:=1) rfl);have LR:=q_ (F8.o.len (i:=1) rfl);clear Ar AF q0;go_wp2_with (first | (with_reducible refine ac_ rfl 65 (.tmp 11) rfl _ underlying65 rfl v_ BX.o.whole IX.o ?_) | (with_reducible refine ab_ rfl 65 (.tmp 8) (.tmp 108) rfl (ys) w_ v_ (BR.o.ai_ LR.o (Nat.le_of_eq VY.o.len)) IX.o VY.o.one ?_));obtain ⟨⟨f9,_⟩,hr⟩:=ret_task F8.o (i:=1) rfl VY.o l pc sp 0 (fun _=>BC.o);exact u6_
end Go.Proofs.YtfolidlmgfhkiaaGreat
