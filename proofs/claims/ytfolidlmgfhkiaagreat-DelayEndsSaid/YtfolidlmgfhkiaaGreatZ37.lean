/- Lemmas: each says what a function of the program leaves, under the conditions that it states. -/
import Derived.Test.YtfolidlmgfhkiaaGreatZ36
import Derived.Test.YtfolidlmgfhkiaaGreatZ26
import Derived.Test.YtfolidlmgfhkiaaGreatZ27
set_option linter.unusedVariables false
set_option linter.unusedSimpArgs false
set_option maxRecDepth 100000
set_option maxHeartbeats 8000000
namespace Go.Proofs.YtfolidlmgfhkiaaGreat
open Go.RowKit Go.Proofs.Tryz
def folT:List CT:=[.num,.num,.num]
theorem infoFo:(prog.info? 157).map (fun i=>(i.zero,i.size,i.bytes))=some (some (.agg #[i_ 0,i_ 0,i_ 0]),3,24):=by kernel_rfl
theorem vts_fol {X:NP} {w:World} {K:Nat} (a b c:Int):VTs w X K folT [i_ a,i_ b,i_ c]:=VTs.cons (.num _) (VTs.cons (.num _) (VTs.cons (.num _) VTs.nil))
theorem SlT.fol_at {X:NP} {w:World} {K n c k:Nat} {A:OA} (h:SlT w X K folT A n c) (hk:k<n):∃ g o,A=some (f_ g o)/\g<w/\∃ a b d:Int,∀ w',Below w w w' →
  (w'.cell? ⟨g,o+k*3,none⟩=some (i_ a)/\w'.cell? ⟨g,o+k*3+1,none⟩=some (i_ b)/\w'.cell? ⟨g,o+k*3+2,none⟩=some (i_ d)):=by
 obtain ⟨g,o,hA,hg,vs,hv,hm⟩:=h.at0 hk;obtain ⟨a,r1,rfl,ha,h1⟩:=hv.head;obtain ⟨b,r2,rfl,hb,h2⟩:=h1.head;obtain ⟨d,r3,rfl,hd,h3⟩:=h2.head;obtain ⟨a,rfl⟩:=ha.int;obtain ⟨b,rfl⟩:=hb.int;obtain ⟨d,rfl⟩:=hd.int;exact ⟨g,o,hA,hg,a,b,d,fun w' hw=>⟨hm w' hw 0 _ rfl,hm w' hw 1 _ rfl,hm w' hw 2 _ rfl⟩⟩
def RAt (n:Nat) (e:Ending):Prop:=∃ (i:Nat) (b:Bool),e=.returned (.tuple #[i_ i,.bool b])/\i<=n/\Hid (b=true->i<n)
theorem at20_t (X:NP) (K:Nat) (A:OA) (n c:Nat) (m:Int) (w:World) (h:SlT w X K folT A n c) (hK:K<=900000000) :
  Calls prog 81 #[.agg #[.slice A n c],i_ m] w fun e w'=>RAt n e/\Below w w w':=by
 have A7:=h.le;obtain ⟨W,hW,A1,A6,B0⟩:=af_ w [.slice A n c] 99;have H:=q_ (h.up (Kp.of_below A1) (l_));have A3:=q_ B0;have HW:=q_ A1;have x0:=B0.2.1 0 _ rfl;have A8:(w:Nat)<W:=by omega
 clear h B0 A1;go_enter func81,ntmps81;go_upto_region 1 with fail;rw [←hW];clear hW;go_upto_region 2 with fail;clear x0;go_loopw [11] (fun i wr=>∃ k:Nat,k<=n/\i=i_ k/\Below W W wr) (fun i _=>n - (intOf i).toNat)
 case atStart=>exact ⟨0,Nat.zero_le _,rfl,b_⟩
 obtain ⟨k,hk,rfl,hb⟩:=hrel;have q0:=(A3.o.below hb).2.1 0 _ rfl;have A2:Below w w wr:=HW.o.trans (hb.mono HW.o.size);have A0:=q_ A2;have HB:=q_ hb;have A5:=hb.size;by_cases hlt:k<n
 ·have A4:(k:Int)<(n:Int):=by omega
  obtain ⟨g,o,rfl,hg,a,b,d,hx⟩:=H.o.fol_at hlt;obtain ⟨c0,c1,c2⟩:=hx wr hb;clear hx hb A2;by_cases hxm:a<m
  ·have g1:decide (m<=a)=false:=by simp;omega
   have g2:¬m<=a:=by omega
   go_wp2;go_roundw
   case rel=>exact ⟨k+1,o_,by go_num,HB.o.alloc A5 _⟩
   case measure=>simp [intOf];omega
  have g2:m<=a:=by omega
  go_wp2;go_quiet (fail);go_wp2;go_ret2;exact ⟨⟨k,_,rfl,o_,q_ (fun _=>hlt)⟩,below_drewN (A0.o.alloc A0.o.size _) _⟩
 obtain rfl:k=n:=by omega
 clear hb A2;go_wp2;go_ret2;exact ⟨⟨k,false,rfl,l_,q_ x_⟩,A0.o⟩
def RGu (e:Ending):Prop:=∃ (i:Int) (b:Bool),e=.returned (.tuple #[i_ i,.bool b])
theorem Guess20_t (X:NP) (K:Nat) (A:OA) (n c:Nat) (m:Int) (w:World) (h:SlT w X K folT A n c) (hK:K<=900000000) :
  Calls prog 84 #[.agg #[.slice A n c],i_ m] w fun e w'=>RGu e/\Below w w w':=by
 have A5:=h.le;obtain ⟨W,hW,A0,A4,B0⟩:=af_ w [.slice A n c] 99;have H:=q_ (h.up (Kp.of_below A0) (l_));have A2:=q_ B0;have HW:=q_ A0;have x0:=B0.2.1 0 _ rfl;have A6:(w:Nat)<W:=by omega
 clear h B0 A0;go_enter func84,ntmps84;go_upto_region 1 with fail;rw [←hW];clear hW;go_wp2_with fail;refine (at20_t X K A n c m W H.o hK).mono ?_;rintro e w' ⟨⟨i,b,rfl,hi,hb⟩,hB⟩;have HB:=q_ hB;have q0:=(A2.o.below hB).2.1 0 _ rfl;have A1:=q_ (HW.o.trans (hB.mono HW.o.size));have Hi:=q_ hb;clear hB hb x0;cases b
 case false =>
  go_wp2;go_ret2;exact ⟨⟨_,_,rfl⟩,A1.o⟩
 have hin:i<n:=Hi.o.o rfl;have A3:(i:Int)<(n:Int):=by omega
 obtain ⟨g,o,rfl,hg,a,b,d,hx⟩:=H.o.fol_at hin;obtain ⟨c0,c1,c2⟩:=hx w' HB.o;clear hx;go_wp2;try go_quiet (fail)
 try go_wp2
 go_ret2;exact ⟨⟨_,_,rfl⟩,(bel A1.o)⟩
def RSq (X:NP) (K:Nat) (e:Ending) (w:World):Prop:=∃ (A:OA) (n c:Nat),e=.returned (.agg #[.slice A n c])/\Hid (SlT w X K folT A n c)
theorem isz1S:(prog.info? 99).map (·.size)=some 1:=by kernel_rfl
theorem train20_x (X:NP) (K:Nat) (A:OA) (n c:Nat) (key v:Int) (w:World) (ha:SlT w X K folT A n c) (hK:K<=9000000) (hX:∀ k,X k->k<w+2) (hr:X (w+1)) :
  Calls prog 43 #[.agg #[.slice A n c],i_ key,i_ v] w fun e w'=>RSq X (K+1) e w'/\Below w w w':=by
 obtain ⟨i0,A2,Ac,A5,A0⟩:=info_parts infoFo;obtain ⟨W,hW,A8,Ak,B0,B1⟩:=co_ w [.slice A n c] 99 [.slice none 0 0] 99;have KB:=q_ (fun w' (hb:Below W W w')=>B1.below hb);have Av:=ha.le;have x0:=B0.2.1 0 _ rfl;have KA:=q_ (fun w' (hb:Below W W w')=>B0.below hb);have Ai:=q_ (ha.up (Kp.of_below A8) (Nat.le_refl K));have HA:=h_ (SlT W (Wi X (Value.slice none 0 0).ownBlock) (K+1) folT A n c) ((ha.up (Kp.of_below A8) (Nat.le_refl K)).kept (Kp.refl _ _) (fun k _ h h2=>by rcases h2 with h2 | h2;exact h h2;cases h2) o_);have HW:=q_ A8;have Ao:(w:Nat)+1<W:=by omega
 have Ad:=q_ hr;have A1:=h_ (∀ k,X k->k<W) (fun k hk=>by have:=hX k hk;omega);clear ha hX B0 B1 A8 Ak;go_enter func43,ntmps43;go_upto_region 1 with fail;rw [←hW];clear hW;go_upto_region 2 with (at_builtin;refine aq_ rfl _ _ 97 rfl W 157 i0 _ 24 folT X (K+1) underlying97 A2 Ac A5 A0 rfl d_ none 0 0 (by simp [Act.eval]) (OwT.nil _ _ _ _ _ _) A n c v_ HA.o A1.o m_ o_ (l_) ?_;intro A4 c4 w4 o4 g4 l4;rw [Nat.zero_add] at o4 l4 ⊢;have b4:Below W W w4:=am_ g4 (l_) (fun k hk=>by cases hk);have z4:=b4.size;have O4:=q_ o4;clear o4 l4 g4);clear x0;have x0:=(KA.o w4 b4).2.1 0 _ rfl;have B4:=q_ b4;clear b4;go_wp2_with fail;refine (at20_t X K A n c key w4 (Ai.o.up (Kp.of_below B4.o) (l_)) o_).mono ?_;rintro e w5 ⟨⟨k,b,rfl,hk,hb⟩,Ag⟩;have B5:=q_ (B4.o.trans (Ag.mono z4));have z5:=B5.o.size;have O5:=q_ (O4.o.below Ag);have Hb:=q_ hb;clear Ag x0 hb;cases b
 case false =>
  have Ap:n<=c4:=(O5.o.slT A1.o (by omega:n<=K+1)).cap;have H5:=q_ (O5.o.slT A1.o (by omega:n<=K+1));have hd:Below w5 w5 w5.drew:=Below.drew (b_);have HU:=h_ (∀ a b c,SlT (w5.drew.alloc (.cells #[i_ a,i_ b,i_ c] 157)) X (K+1) folT (some (a_ w5)) 1 1) (fun a b c=>SlT.lit1 (w:=w5.drew) (e:=folT) (vts_fol a b c) _ (fun h=>by have:=A1.o _ h;have:(w5.drew:Nat)=w5:=rfl;omega) o_);have A3:=h_ (∀ o,Below w5 w5 (w5.drew.alloc o)) (fun o=>hd.alloc (l_) o);have Ax:∀ w',(Instr.slice 97 (.slice A4 n c4) none (some (i_ (k:Int))) (some (i_ (k:Int)))).run prog w'=.ok (.slice A4 k k) w':=ep_ underlying97 A2 o_;have Ay:∀ w',(Instr.slice 97 (.slice A4 n c4) (some (i_ (k:Int))) none none).run prog w'=.ok (.slice (cutA A4 c4 k 3) (n - k) (c4 - k)) w':=fun w'=>by rw [et_ underlying97 A2 o_,A5]
  clear hd;go_upto_region 4 with fail;by_cases hlt:k<n
  ·have Aa:k<=n:=by omega
   go_region_law (first
    | (refine br_ rfl (.tmp 29) (.tmp 32) 97 rfl 157 i0 _ 24 folT X (K+1) underlying97 A2 Ac A5 A0 rfl d_ (some (a_ w5)) 1 1 v_ (HU.o _ _ _) (cutA A4 c4 k 3) (n - k) (c4 - k) (by simp [Act.eval,Act.put,cutA]) ((H5.o.up (Kp.of_below (A3.o _)) (l_)).drop Aa) o_ o_ (fun q A0=>by have:=A1.o q A0;first | (simp;omega) | (simp <;> omega)) m_ o_ ?_;intro A6 c6 w6 o6 b6;have b6:Below w5 w5 w6:=(A3.o _).trans (b6.mono (A3.o _).size);have Aj:=q_ (o6.slT (K:=K+1) (fun q A0=>by have:=A1.o q A0;first | (simp;omega) | (simp <;> omega)) o_);clear o6)
    | (refine br_ rfl (.tmp 25) (.tmp 33) 97 rfl 157 i0 _ 24 folT X (K+1) underlying97 A2 Ac A5 A0 rfl d_ A4 k k v_ ((H5.o.up (Kp.of_below b6) (l_)).take Aa k (l_) o_) A6 (1+(n - k)) c6 v_ Aj.o o_ o_ (fun q A0=>by have:=A1.o q A0;have:=b6.size;omega) m_ o_ ?_;intro A7 c7 w7 o7 b7;have b7:Below w5 w5 w7:=b6.trans (b7.mono (show (w5:Nat)<=_ from b6.size));have O7:=q_ (o7.slT (K:=K+1) (fun q A0=>by have:=A1.o q A0;have:=b6.size;omega) o_);clear o7))
   all_goals
    have HR:=q_ (KB.o w7 (B5.o.trans (b7.mono z5)));have r0:=HR.o.2.1 0 _ rfl;have rf:=HR.o.2.2 0;have rl:=HR.o.1;have Ae:Below w w w7:=(HW.o.trans (B5.o.mono HW.o.size)).trans (b7.mono (by have:=HW.o.size;omega));go_wp2;refine retC results43 (by rfl) underlying99 rfl isz1S (cs:=[.slice A7 (k+(1+(n - k))) c7]) (HR.o.set 0 _).whole rfl ?_;exact ⟨⟨_,_,_,rfl,q_ (O7.o.up ((Kp.refl X w7).setCell (p:=(a_ (w+1))) (.inl Ad.o) _) (l_))⟩,Ae.setCell (by show _<=(w:Nat)+1;omega) _⟩
  obtain rfl:k=n:=by omega
  have Aa:k<=k:=Nat.le_refl k;have hz:k - k=0:=by omega
  go_region_law (first
   | (refine step_append_zero rfl (.tmp 29) (.tmp 32) 97 rfl 157 i0 underlying97 A2 (some (a_ w5)) 1 1 (l_) v_ (cutA A4 c4 k 3) (c4 - k) (by simp [Act.eval,Act.put,cutA]) ?_)
   | (refine br_ rfl (.tmp 25) (.tmp 33) 97 rfl 157 i0 _ 24 folT X (K+1) underlying97 A2 Ac A5 A0 rfl d_ A4 k k v_ ((H5.o.up (Kp.of_below (A3.o _)) (l_)).take Aa k (l_) o_) (some (a_ w5)) 1 1 v_ (HU.o _ _ _) o_ o_ (fun q A0=>by have:=A1.o q A0;first | (simp;omega) | (simp <;> omega)) m_ o_ ?_;intro A7 c7 w7 o7 b7;have b7:Below w5 w5 w7:=(A3.o _).trans (b7.mono (show (w5:Nat)<=_ from (A3.o _).size));have O7:=q_ (o7.slT (K:=K+1) (fun q A0=>by have:=A1.o q A0;have:=b7.size;simp <;> omega) o_);clear o7))
  all_goals
   have HR:=q_ (KB.o w7 (B5.o.trans (b7.mono z5)));have r0:=HR.o.2.1 0 _ rfl;have rf:=HR.o.2.2 0;have rl:=HR.o.1;have Ae:Below w w w7:=(HW.o.trans (B5.o.mono HW.o.size)).trans (b7.mono (by have:=HW.o.size;omega));go_wp2;refine retC results43 (by rfl) underlying99 rfl isz1S (cs:=[.slice A7 (k+1) c7]) (HR.o.set 0 _).whole rfl ?_;exact ⟨⟨_,_,_,rfl,q_ (O7.o.up ((Kp.refl X w7).setCell (p:=(a_ (w+1))) (.inl Ad.o) _) (l_))⟩,Ae.setCell (by show _<=(w:Nat)+1;omega) _⟩
 have Ab:k<n:=Hb.o.o rfl;have Au:(k:Int)<(n:Int):=by omega
 have Am:¬(k:Int)<0:=by omega
 obtain ⟨g,rfl,Aq,Ar,A9⟩:=O5.o.addr o_;obtain ⟨g',o',Af,_,a,b,d,hx⟩:=(O5.o.slT A1.o (by omega:n<=K+1)).fol_at Ab;injection Af with Af;injection Af with h1 h2;subst h1 h2;obtain ⟨c0,c1,c2⟩:=hx w5 (b_);rw [Nat.zero_add] at c0 c1 c2;have f0:=A9 (k*3);have f1:=A9 (k*3+1);have f2:=A9 (k*3+2);have Ah:w+1≠g:=by omega
 have HR:=q_ (KB.o w5 B5.o);have r0:=HR.o.2.1 0 _ rfl;have rf:=HR.o.2.2 0;have Al:=h_ (Below w w w5) (HW.o.trans (B5.o.mono HW.o.size));have As:¬g=w5:=by omega
 have Aw:(w:Nat)+1<w5:=by omega
 have An:=h_ (∀ q,X q->q<W) A1.o;have HT:=h_ (∀ (x y z:Int) (o:Obj),Bx (((((w5.setCell ⟨g,k*3,none⟩ (i_ x)).setCell ⟨g,k*3+1,none⟩ (i_ y)).setCell ⟨g,k*3+2,none⟩ (i_ z)).setCell (a_ (w+1)) (.slice (some (a_ g)) n c4)).alloc o) (w+1) [.slice (some (a_ g)) n c4]/\SlT (((((w5.setCell ⟨g,k*3,none⟩ (i_ x)).setCell ⟨g,k*3+1,none⟩ (i_ y)).setCell ⟨g,k*3+2,none⟩ (i_ z)).setCell (a_ (w+1)) (.slice (some (a_ g)) n c4)).alloc o) X (K+1) folT (some (a_ g)) n c4/\Below w w (((((w5.setCell ⟨g,k*3,none⟩ (i_ x)).setCell ⟨g,k*3+1,none⟩ (i_ y)).setCell ⟨g,k*3+2,none⟩ (i_ z)).setCell (a_ (w+1)) (.slice (some (a_ g)) n c4)).alloc o)) (fun x y z o=>by
  have s0:=O5.o.set (k:=k) (j:=0) Ab rfl (.num x) ⟨g,k*3,none⟩ rfl
  have s1:=s0.set (k:=k) (j:=1) Ab rfl (.num y) ⟨g,k*3+1,none⟩ rfl
  have s2:=s1.set (k:=k) (j:=2) Ab rfl (.num z) ⟨g,k*3+2,none⟩ rfl
  have s3:=s2.slT A1.o (by omega:n<=K+1)
  have bx:=(((HR.o.far (p:=⟨g,k*3,none⟩) (Ne.symm Ah) (i_ x)).far (p:=⟨g,k*3+1,none⟩) (Ne.symm Ah) (i_ y)).far (p:=⟨g,k*3+2,none⟩) (Ne.symm Ah) (i_ z)).set 0 (.slice (some (a_ g)) n c4)
  have hB:=(((Al.o.setCell (p:=⟨g,k*3,none⟩) (by show _<=g;omega) (i_ x)).setCell (p:=⟨g,k*3+1,none⟩) (by show _<=g;omega) (i_ y)).setCell (p:=⟨g,k*3+2,none⟩) (by show _<=g;omega) (i_ z)).setCell (p:=(a_ (w+1))) (by show _<=(w:Nat)+1;omega) (.slice (some (a_ g)) n c4)
  refine ⟨bx.kp (X:=fun _=>False) (.of_below ((b_).alloc (l_) o)) (fun h=>h),(s3.up ((Kp.refl X _).setCell (p:=(a_ (w+1))) (.inl Ad.o) _) (l_)).up (.of_below ((b_).alloc (l_) o)) (l_),hB.alloc hB.size o⟩)
 clear hx A9;go_wp2;all_goals
  refine retC results43 (by rfl) underlying99 rfl isz1S (cs:=[.slice (some (a_ g)) n c4]) (HT.o _ _ _ _).1.whole rfl ?_;exact ⟨⟨_,_,_,rfl,q_ (HT.o _ _ _ _).2.1⟩,(HT.o _ _ _ _).2.2⟩
theorem Train20_t (X:NP) (K:Nat) (A:OA) (n c:Nat) (key v:Int) (w:World) (ha:SlT w X K folT A n c) (hK:K<=9000000) (hX:∀ k,X k->k<w) :
  Calls prog 43 #[.agg #[.slice A n c],i_ key,i_ v] w fun e w'=>RSq X (K+1) e w'/\Below w w w':=by
 refine (train20_x (fun k=>X k∨k=w+1) K A n c key v w (ha.kept (Kp.refl _ _) (fun k hk h h2=>by rcases h2 with h2 | h2;exact h h2;omega) (l_)) hK (fun k hk=>by rcases hk with hk | hk;(have:=hX k hk;omega);omega) (.inr rfl)).mono ?_;rintro e w' ⟨⟨A',n',c',rfl,h⟩,hb⟩;exact ⟨⟨A',n',c',rfl,q_ (h.o.kept (Kp.refl _ _) (fun k _ h h2=>h (.inl h2)) (l_))⟩,hb⟩
def lenV:Value->Nat
 | .slice _ n _=>n
 | _=>0
theorem Chain_t (X:NP) (K:Nat) (A:OA) (n c:Nat) (v s:Int) (l:List In) (SA:OA) (sn sc:Nat) (st cnt:Int) (w:World) (hl:Sl w w 5 In.cells A n l) (hn:n<=9000000000000) (hs:SlT w X K folT SA sn sc) (hK:K<=900000000) (hX:∀ k,X k->k<w) :
  Calls prog 45 #[.agg #[.slice A n c,i_ v,i_ s],.agg #[.slice SA sn sc],i_ st,i_ cnt] w fun e w'=>RSl X 16 [.num] e w'/\Below w w w':=by
 obtain ⟨i0,Am,An,Ao,Ap⟩:=info_parts infoInt;obtain ⟨W,hW,A2,Al,B0,B1⟩:=co_ w [.slice A n c,i_ v,i_ s] 26 [.slice SA sn sc] 99;have KC:=h_ (∀ w',Below W W w'->(w'.cell? (a_ w)=some (.slice A n c)/\w'.cell? (f_ w 1)=some (i_ v)/\w'.cell? (f_ w 2)=some (i_ s))/\w'.cell? (a_ (w+1))=some (.slice SA sn sc)/\Sl w' w' 5 In.cells A n l/\SlT w' X K folT SA sn sc/\Below w w w') (fun w' hb =>
  ⟨⟨(B0.below hb).2.1 0 _ rfl,(B0.below hb).2.1 1 _ rfl,(B0.below hb).2.1 2 _ rfl⟩,(B1.below hb).2.1 0 _ rfl,hl.up (A2.trans (hb.mono A2.size)),hs.up (Kp.of_below (A2.trans (hb.mono A2.size))) (l_),A2.trans (hb.mono A2.size)⟩)
 have A1:=h_ (∀ k,X k->k<W) (fun k hk=>by have:=hX k hk;omega);clear hl hs hX B0 B1 A2 Al;go_enter func45,ntmps45;go_upto_region 1 with fail;rw [←hW];clear hW;go_upto_region 2 with fail;go_wp2_with fail;go_loopw [9,10,11] (fun o a k wr=>∃ (A9:OA) (n9 c9:Nat) (A0:Int) (ok:Bool),o=.slice A9 n9 c9/\a=i_ A0/\k=.bool ok/\n9<=16/\Hid (OwT wr W 3 [.num] X 16 A9 n9 c9)/\Hid (Below W W wr)) (fun o _ _ _=>16 - lenV o)
 case atStart=>exact ⟨none,0,0,st,true,rfl,rfl,rfl,o_,q_ (OwT.nil _ _ _ _ _ _),q_ (b_)⟩
 obtain ⟨A9,n9,c9,A0,ok,rfl,rfl,rfl,A3,hO,hB⟩:=hrel;have K0:=q_ (KC.o wr hB.o);obtain ⟨⟨c0,c1,c2⟩,d0,_⟩:=K0.o;cases ok
 case false =>
  go_wp2_with fail;go_ret;exact ⟨⟨_,_,_,rfl,q_ (hO.o.slT A1.o A3)⟩,K0.o.2.2.2.2⟩
 case true =>
 by_cases h1:(n9:Int)<cnt
 case neg =>
  go_wp2_with fail;go_ret;exact ⟨⟨_,_,_,rfl,q_ (hO.o.slT A1.o A3)⟩,K0.o.2.2.2.2⟩
 case pos =>
 by_cases h2:(n9:Int)<16
 case neg =>
  go_wp2_with fail;go_ret;exact ⟨⟨_,_,_,rfl,q_ (hO.o.slT A1.o A3)⟩,K0.o.2.2.2.2⟩
 case pos =>
 go_wp2_with fail;refine (Beginning_any A n c v s A0 l wr K0.o.2.2.1 hn).mono ?_;rintro e w1 ⟨⟨b1,rfl⟩,Aa⟩;have A4:=q_ (hB.o.trans (Aa.mono hB.o.size));have A7:=q_ (hO.o.below Aa);clear Aa c0 c1 c2 d0 hO K0;have K1:=q_ (KC.o w1 A4.o);obtain ⟨⟨c0,c1,c2⟩,d0,_⟩:=K1.o;cases b1
 case false =>
  go_wp2_with fail;go_ret;exact ⟨⟨_,_,_,rfl,q_ (A7.o.slT A1.o A3)⟩,K1.o.2.2.2.2⟩
 case true =>
 go_wp2_with fail;refine (Asks_any A n c v s A0 l w1 K1.o.2.2.1 hn).mono ?_;rintro e w2 ⟨⟨b2,rfl,_⟩,Ab⟩;have A5:=q_ (A4.o.trans (Ab.mono A4.o.size));have A8:=q_ (A7.o.below Ab);clear Ab c0 c1 c2 d0 A7 K1;have K2:=q_ (KC.o w2 A5.o);obtain ⟨⟨c0,c1,c2⟩,d0,_⟩:=K2.o;cases b2
 case true =>
  go_wp2_with fail;go_ret;exact ⟨⟨_,_,_,rfl,q_ (A8.o.slT A1.o A3)⟩,K2.o.2.2.2.2⟩
 case false =>
 have Aq:(W:Nat)<=w2:=A5.o.size;have Ad:Below w2 w2 (w2.alloc (.cells #[i_ A0] 3)):=(b_).alloc (l_) _;have Ai:=h_ (SlT (w2.alloc (.cells #[i_ A0] 3)) (Wi X (Value.slice A9 n9 c9).ownBlock) 16 [.num] (some (a_ w2)) 1 1) (SlT.lit1 (e:=[.num]) (VTs.cons (.num _) VTs.nil) _ (fun h=>by
  rcases h with h | h
  ·have:=A1.o _ h;omega
  obtain ⟨xs,ho,_⟩:=A8.o;have:=(an_ ho h).2;omega) o_)
 have Ae:=q_ (A8.o.below Ad);have Ak:=h_ (∀ k,X k->k<(w2.alloc (.cells #[i_ A0] 3)).heap.size) (fun k hk=>by have:=A1.o k hk;simp;omega);have Af:=h_ ((W:Nat)<=(w2.alloc (.cells #[i_ A0] 3)).heap.size) (by simp;omega);have Ah:=q_ (A5.o.trans (Ad.mono Aq));clear Ad;go_upto_region 5 with (at_builtin;refine aq_ rfl _ _ 30 rfl W 3 i0 _ 8 [.num] X 16 underlying30 Am An Ao Ap rfl d_ A9 n9 c9 v_ Ae.o (some (a_ w2)) 1 1 v_ Ai.o Ak.o m_ o_ Af.o ?_;intro A6 c6 w6 o6 g6 l6;have O6:=q_ o6;have B6:=q_ (Ah.o.grown g6 Af.o (fun k hk=>by obtain ⟨xs,ho,_⟩:=Ae.o;exact (an_ ho hk).1));clear o6 g6 l6);clear c0 c1 c2 d0;have K6:=q_ (KC.o w6 B6.o);obtain ⟨⟨c0,c1,c2⟩,d0,_⟩:=K6.o;go_wp2_with fail;refine (Guess20_t X K SA sn sc A0 w6 K6.o.2.2.2.1 hK).mono ?_;rintro e w7 ⟨⟨q,b,rfl⟩,Ac⟩;have Ag:=q_ (B6.o.trans (Ac.mono B6.o.size));have Aj:=q_ (O6.o.below Ac);clear Ac c0 c1 c2 d0;go_wp2_with fail;go_roundw
 case rel=>exact ⟨A6,n9+1,c6,q,b,rfl,rfl,rfl,o_,Aj,Ag⟩
 case measure=>simp [lenV];omega
theorem Rd.set {d:Nat} {w w':World} (h:Rd d w w') {p:Addr} (hd:d<p.block) (hp:w<=p.block) (u:Value):Rd d w (w'.setCell p u):=⟨h.dice.set hd u,h.kp.setCell (.inr hp) u⟩
theorem Rd.start {d:Nat} {w w':World} (hD:Dice w d) (hb:Below w w w'):Rd d w w':=⟨hD.below hb,.of_below hb⟩
theorem Fr.row_out {X Y X':NP} {w0 w:World} {L:List LV} {C:Nat->VL} {i j b:Nat} {K:Nat->Nat} {ts e:List CT} {ow:Nat->Option TypeId} {et:TypeId} (h:Fr X (fun _=>False) w0 L Y C w) (hp:L[i]?=some ⟨b,K,ts,ow⟩) (hj:ts[j]?=some (.sl e)) (ho:ow j=some et) (hX':∀ k,X' k->Y k/\(k<w0∨∃ q ∈ L,q.b=k)) :
  ∃ A n c,(C b)[j]?=some (.slice A n c)/\SlT w X' (K j) e A n c:=by
 obtain ⟨e',A,n,c,h1,h2,h3,h4,h5⟩:=h.row _ (Fr.mem hp) j _ et hj ho;injection h1 with h1;subst h1;refine ⟨A,n,c,h2,?_⟩;have A0:=h4.any h3;obtain ⟨xs,A1,hx⟩:=h4;refine ⟨A0.le,A0.cap,A0.max,A0.nul,fun ad hA=>?_⟩;subst hA;have A2:=(own_src A1).2 ad rfl;rcases A1.2 with ⟨h',_⟩ | ⟨g,cap,cur,h',hbg,hg,_⟩
 ·cases h'
 injection h' with q1 _ q3;injection q1 with q1;subst q1 q3;obtain ⟨A7,A4,A6⟩:=h5 g rfl;have A5:g<w:=by
  rcases Nat.lt_or_ge g w with q | q
  ·exact q
  rw [Array.getElem?_eq_none q] at hg;cases hg
 refine ⟨g,0,rfl,A5,fun A3=>?_,fun k j=>xs.getD (k*e.length+j) undef,fun k j t hk hj=>?_,fun k j t hk hj=>?_⟩
 ·rcases (hX' g A3).2 with q | ⟨q,hq,hqb⟩
  ·rcases A4 with z | z
   ·omega
   exact z.elim
  exact A6 q hq hqb
 ·obtain ⟨u,hu,_⟩:=hx k j t hk hj;have:=A2 _ u hu;rw [Addr.add_lit] at this;show _=some (xs.getD (k*e.length+j) undef)
  rw [this,List.getD_eq_getElem?_getD,hu];rfl
 obtain ⟨u,hu,hv⟩:=hx k j t hk hj;show VT w X' (K _) t (xs.getD (k*e.length+j) undef)
 rw [List.getD_eq_getElem?_getD,hu];exact hv.less (fun q _ hq=>.inl (hX' q hq).1)
def RCode (X:NP) (e:Ending) (w:World):Prop:=∃ (A:OA) (n c:Nat) (v s:Int),e=.returned (.agg #[.slice A n c,i_ v,i_ s])/\Hid (SlT w X 2048 aw_ A n c)
theorem Code_m (d:Nat) (X:NP) (w:World) (hD:Dice w d) (hX:∀ k,X k->k<w) (hXd:X d) :
  Calls prog 36 #[.pointer (some (a_ d))] w fun e w'=>RCode X e w'/\Rd d w w':=by
 obtain ⟨W,hW,A4,Af,B0⟩:=af_ w [.slice none 0 0,i_ 0,i_ 0] 26;have HD:=q_ (hD.below A4);have HR:=q_ (Rd.start hD A4);have HB:=q_ B0;have A5:=hD.lt;have A6:=h_ (∀ k,(fun k=>X k∨k=w) k->k<W) (fun k hk=>by rcases hk with hk | hk;have:=hX k hk;omega;omega);have Ad:=q_ hXd;have Ai:(w:Nat)<W:=by omega
 clear hD A4 Af hX hXd B0;go_enter func36,ntmps36;go_upto_region 1 with fail;rw [←hW];clear hW;go_wp2_with fail;refine (program_m d (fun k=>X k∨k=w) W HD.o A6.o (.inl Ad.o)).mono ?_;rintro e w1 ⟨⟨A,rfl,hP⟩,A1⟩;have Aa:=q_ (HR.o.trans A1);have A7:=q_ (HB.o.kp A1.kp (fun h=>by have h:w=d:=h;omega));have Ag:(W:Nat)<=w1:=A1.kp.size;clear A1;go_wp2_with fail;refine (Lower_t (fun k=>X k∨k=w) 3 d_ A 3 3 w1 hP.o d_ d_ (fun k hk=>by have:=A6.o k hk;omega)).mono ?_;rintro e w2 ⟨⟨LA,ln,lc,v,s,ev,rfl,hL⟩,A3⟩;have Ab:=q_ (Aa.o.below A3);have A8:=q_ (A7.o.below A3);have Aj:(W:Nat)<=w2:=Nat.le_trans Ag A3.size;obtain ⟨V,hV,A2,Ae,V0⟩:=af_ w2 [.slice LA ln lc,i_ v,i_ s] 26;have Ac:=q_ (Ab.o.below A2);have A0:=q_ (A8.o.below A2);have A9:=q_ (hL.o.up (Kp.of_below A2) (l_));have v0:=V0.2.1 0 _ rfl;have v1:=V0.2.1 1 _ rfl;have v2:=V0.2.1 2 _ rfl;have Ah:(w:Nat)<V:=by omega
 clear A3 hL A2 Ae V0;go_upto_region 2 with fail;rw [←hV];clear hV;have r0:=A0.o.2.1 0 _ rfl;have r1:=A0.o.2.1 1 _ rfl;have r2:=A0.o.2.1 2 _ rfl;have rf:=A0.o.2.2;go_wp2_with fail;refine retC results36 (by rfl) underlying26 rfl k_ (cs:=[_,_,_]) (((A0.o.set 0 _).set 1 _).set 2 _).whole rfl ?_;refine ⟨⟨_,_,_,_,_,rfl,q_ (((A9.o.up (((Kp.refl _ V).setCell (p:=(a_ w)) (.inl (.inr rfl)) _).trans (((Kp.refl _ _).setCell (p:=(f_ w 1)) (.inl (.inr rfl)) _).trans ((Kp.refl _ _).setCell (p:=(f_ w 2)) (.inl (.inr rfl)) _))) (l_))).kept (Kp.refl _ _) (fun k _ h h2=>h (.inl h2)) (l_))⟩,?_⟩;exact ((Ac.o.set (p:=(a_ w)) A5 (l_) _).set (p:=(f_ w 1)) A5 (l_) _).set (p:=(f_ w 2)) A5 (l_) _
def owI:Nat->Option TypeId:=fun j=>if j=0 then some 2 else none
def owN:Nat->Option TypeId:=fun j=>if j=0 then some 3 else none
theorem infoI64:(prog.info? 2).map (fun i=>(i.zero,i.size,i.bytes))=some (some (i_ 0),1,8):=by kernel_rfl
def RNums (X:NP) (K:Nat) (e:Ending) (w:World):Prop:=∃ (A:OA) (n c:Nat),e=.returned (.agg #[.slice A n c])/\Hid (SlT w X K [.num] A n c)
theorem Fs.grow {d b i N:Nat} {X Y:NP} {w w1 w2:World} {L:List LV} {C:Nat->VL} {et:TypeId} {A A':OA} {n c c':Nat} {ow:Nat->Option TypeId} (h:Fs d X w L Y C w1) (hp:L[i]?=some ⟨b,fun _=>N,[.sl [.num]],ow⟩) (ho:ow 0=some et) (hC:(C b)[0]?=some (.slice A n c))
  (hO:OwT w2 0 et [.num] Y N A' (n+1) c') (hn:n+1<=N) (hg:w1.grownBy w2 (Value.slice A n c).ownBlock) (hloc:∀ g,(Value.slice A' (n+1) c').ownBlock=some g->(Value.slice A n c).ownBlock=some g∨g=w1) :
  ∃ Y',Fs d X w L Y' (upd C b ((C b).set 0 (.slice A' (n+1) c'))) (w2.setCell (a_ b) (.slice A' (n+1) c'))/\Up w1 Y (w2.setCell (a_ b) (.slice A' (n+1) c')) Y':=by
 obtain ⟨w0,h1,h2,h3⟩:=h;obtain ⟨Y',f,u⟩:=h3.append hp (j:=0) rfl ho hC hO hn hg hloc;exact ⟨Y',⟨w0,h1,h2,f⟩,u⟩
theorem World_m (d:Nat) (X:NP) (w:World) (hD:Dice w d) (hX:∀ k,X k->k<w) (hXd:X d) :
  Calls prog 37 #[.pointer (some (a_ d))] w fun e w'=>RNums X 10 e w'/\Rd d w w':=by
 obtain ⟨i0,Ah,Ai,Aj,Ak⟩:=info_parts infoI64;obtain ⟨W0,Y0,C0,As,AH,U0,F0,c0⟩:=Fr.start1 hX 10 [.sl [.num]] [.slice none 0 0] 29 (vts1 (cl_ _ _ _ _));obtain ⟨Y,F,U⟩:=F0.add (fun _=>10) [.sl [.num]] owI [.slice none 0 0] 29 rfl (fun j t hj=>by
  match j,hj with
  | 0,hj=>injection hj with hj;subst hj;exact ⟨_,rfl,.inr ⟨_,_,rfl,rfl,rfl⟩⟩)
 obtain ⟨W,hW⟩:=ex_ ((w.alloc (.cells #[.slice none 0 0] 29)).alloc (.cells #[.slice none 0 0] 29));rw [As] at F;rw [show ((w.alloc (.cells [Value.slice none 0 0].toArray 29)).alloc (.cells [Value.slice none 0 0].toArray 29))=W from hW.symm,show (w.alloc (.cells [Value.slice none 0 0].toArray 29)).heap.size=w+1 from by simp] at F;obtain ⟨C,hC⟩:=ex_ (upd C0 (w+1) [.slice none 0 0]);rw [←hC] at F;have Au:(C (w+1))[0]?=some (.slice none 0 0):=by rw [hC,upd_same];rfl
 have HF:=q_ (F.fs hD);have Ag:=q_ hXd;have AB:=q_ hX;have AC:=hD.lt;have Am:=q_ (HF.o.dice);clear hD hX hXd As AH U0 F0 c0 F U hC;go_enter func37,ntmps37;go_upto_region 2 with fail;rw [←hW];clear hW;go_wp2_with fail;refine (bo_ d 6 W Am.o d_ d_).mono ?_;rintro e w1 ⟨q0,AE,rfl,Ax,_⟩;obtain ⟨Av,_⟩:=HF.o.pick Ag.o Ax;have Az:=q_ Av;have Ay:=q_ Au;clear Av Ax HF Am Au;go_wp2_with fail;go_loopw [4] (fun i wr=>∃ (Y':NP) (C':Nat->VL) (A:OA) (n c:Nat),n<=q0/\i=i_ ((q0:Int) - (n:Int))/\(C' (w+1))[0]?=some (.slice A n c)/\Hid (Fs d X w [⟨w+1,fun _=>10,[.sl [.num]],owI⟩,⟨w,fun _=>10,[.sl [.num]],noOw⟩] Y' C' wr)) (fun i _=>(intOf i).toNat)
 case atStart=>exact ⟨Y,C,none,0,0,o_,by simp,Ay.o,Az⟩
 obtain ⟨Y',C',A,n,c,AI,rfl,hc,A8⟩:=hrel;have HC:=q_ hc;by_cases hk:n<q0
 ·have AD:(0:Int)<(q0:Int) - (n:Int):=by omega
  obtain ⟨w0,A3,A4,f⟩:=A8.o;have hd:=A8.o.dice;have c0:=f.cell (i:=0) rfl hc;have AG:=f.blt (i:=0) rfl;have Ao:=h_ (∀ w',wr.drew.grownBy w' (some d)->w'.cell? (a_ (w+1))=some (.slice A n c)) (fun w' hg=>((gcell hg).1 _ _ (by show _<(wr:Nat);exact AG) (fun e=>by injection e with e;omega)).trans c0);have Al:=q_ (hd.below (Below.drew (b_)));have An:=q_ (A8.o.call (Below.drew (b_)));clear hc f hd A3 A4 A8;go_upto_region 5 with fail;have Ap:wr.drew.cell? (a_ (w+1))=some (.slice A n c):=c0;clear c0;refine ar_ (S:=fun _:World=>True) rfl trivial (fun _=>?_);go_simp;refine aa_ 0 11 ?_;refine aa_ 2 13 ?_;refine wpAnyH_ready (rs:=[1,3]) k_ t_ (AllReadyH.cons rfl (fun K hK=>?_) (AllReadyH.cons rfl (fun K hK=>?_) AllReadyH.nil))
  ·go_simp;refine hK.out _ _ trivial (fun _=>?_);refine bb_ 3 fun K hK=>?_
   go_simp;go_at_call 26;refine (bo_ d 9 wr.drew Al.o d_ d_).mono ?_;rintro e w3 ⟨r,hr,rfl,Aa,A9⟩;have Af:=q_ (Ao.o w3 Aa.grown);have c3:=Af.o;obtain ⟨Ad,_⟩:=An.o.pick Ag.o Aa;have A7:=q_ Ad;clear Ad Aa A9 Ap;refine hK.out _ _ trivial (fun _=>?_);refine aa_ 4 15 ?_;refine ba_ 5 k_ rfl (fun K hK=>?_);go_simp;have A5:Below w3 w3 (w3.alloc (.cells #[i_ (IntKind.i64.wrap ((r:Int) - 3))] 2)):=(b_).alloc (l_) _;have A0:=q_ (A7.o.call A5);have Ac:=h_ (SlT (w3.alloc (.cells #[i_ (IntKind.i64.wrap ((r:Int) - 3))] 2)) (Wi Y' (Value.slice A n c).ownBlock) 10 [.num] (some (a_ w3)) 1 1) (SlT.lit1 (e:=[.num]) (VTs.cons (.num _) VTs.nil) _ (fun h=>by
    obtain ⟨w0,_,_,f⟩:=A7.o
    rcases h with h | h
    ·have:=f.lt _ h;omega
    obtain ⟨_,A2,n2,c2,_,h2,_,h4,h5⟩:=f.row _ (Fr.mem (i:=0) rfl) 0 (.sl [.num]) 2 rfl rfl
    have h2:(C' (w+1))[0]?=some (.slice A2 n2 c2):=h2
    rw [HC.o] at h2
    injection h2 with h2
    injection h2 with q1 q2 q3
    subst q1 q2 q3
    have:=f.lt _ (h5 _ h).1;omega) o_)
   have c5:(w3.alloc (.cells #[i_ (IntKind.i64.wrap ((r:Int) - 3))] 2)).cell? (a_ (w+1))=some (.slice A n c):=by obtain ⟨w0,_,_,f⟩:=A0.o;exact f.cell (i:=0) rfl HC.o
   clear A5;refine hK.out _ _ trivial (fun _=>?_);refine bb_ 6 fun K hK=>?_
   obtain ⟨w0,A3,A4,f5⟩:=A0.o;obtain ⟨A2,n2,c2,_,h2,Aw,hO,hY⟩:=f5.own (i:=0) (j:=0) (e:=[.num]) rfl rfl (show owI 0=some 2 from rfl);rw [HC.o] at h2;injection h2 with h2;injection h2 with q1 q2 q3;subst q1 q2 q3;have A1:=q_ f5.lt;refine bu_ rfl (.tmp 12) (.tmp 16) 27 rfl 0 2 i0 _ 8 [.num] Y' 10 underlying27 Ah Ai Aj Ak rfl d_ A n c v_ hO (some (a_ w3)) 1 1 v_ Ac.o A1.o m_ o_ (Nat.zero_le _) ?_;intro A6 c6 w6 o6 g6 l6;have O6:=q_ o6;have G6:=q_ g6;have L6:=q_ l6;have Aq:w6.cell? (a_ (w+1))=some (.slice A n c):=(f5.cv_ (i:=0) rfl (j:=0) rfl (show owI 0=some 2 from rfl) HC.o g6).2.1 0 _ HC.o;have Ar:=(f5.cv_ (i:=0) rfl (j:=0) rfl (show owI 0=some 2 from rfl) HC.o g6).2.2;clear A3 A4 f5 hO hY o6 g6 l6;refine hK.out _ _ trivial (fun _=>?_);refine aa_ 7 18 ?_;refine ba_ 8 k_ rfl (fun K hK=>?_);go_simp;refine hK.out _ _ trivial (fun _=>?_);try simp only [Act.put,sA,s0,s1]
   refine wpAnyH_done k_ ?_ _;go_wp2_with fail;obtain ⟨Y9,Ae,_⟩:=A0.o.grow (i:=0) rfl (show owI 0=some 2 from rfl) HC.o O6.o o_ G6.o L6.o;have Ab:=q_ Ae;go_roundw
   case rel=>exact ⟨Y9,_,A6,n+1,c6,o_,by go_num,by rw [upd_same,gs_,if_pos rfl,if_pos (e_ HC.o).1],Ab⟩
   case measure=>simp [intOf];omega
  go_simp;go_at_call 26;refine (bo_ d 9 wr.drew Al.o d_ d_).mono ?_;rintro e w3 ⟨r,hr,rfl,Aa,A9⟩;have Af:=q_ (Ao.o w3 Aa.grown);have c3:=Af.o;obtain ⟨Ad,_⟩:=An.o.pick Ag.o Aa;have A7:=q_ Ad;clear Ad Aa A9 Ap;refine hK.out _ _ trivial (fun _=>?_);refine aa_ 4 15 ?_;refine wpAnyH_ready (rs:=[1,5]) k_ t_ (AllReadyH.cons rfl (fun K hK=>?_) (AllReadyH.cons rfl (fun K hK=>?_) AllReadyH.nil))
  ·go_simp;refine hK.out _ _ trivial (fun _=>?_);refine bb_ 5 fun K hK=>?_
   go_simp;have A5:Below w3 w3 (w3.alloc (.cells #[i_ (IntKind.i64.wrap ((r:Int) - 3))] 2)):=(b_).alloc (l_) _;have A0:=q_ (A7.o.call A5);have Ac:=h_ (SlT (w3.alloc (.cells #[i_ (IntKind.i64.wrap ((r:Int) - 3))] 2)) (Wi Y' (Value.slice A n c).ownBlock) 10 [.num] (some (a_ w3)) 1 1) (SlT.lit1 (e:=[.num]) (VTs.cons (.num _) VTs.nil) _ (fun h=>by
    obtain ⟨w0,_,_,f⟩:=A7.o
    rcases h with h | h
    ·have:=f.lt _ h;omega
    obtain ⟨_,A2,n2,c2,_,h2,_,h4,h5⟩:=f.row _ (Fr.mem (i:=0) rfl) 0 (.sl [.num]) 2 rfl rfl
    have h2:(C' (w+1))[0]?=some (.slice A2 n2 c2):=h2
    rw [HC.o] at h2
    injection h2 with h2
    injection h2 with q1 q2 q3
    subst q1 q2 q3
    have:=f.lt _ (h5 _ h).1;omega) o_)
   have c5:(w3.alloc (.cells #[i_ (IntKind.i64.wrap ((r:Int) - 3))] 2)).cell? (a_ (w+1))=some (.slice A n c):=by obtain ⟨w0,_,_,f⟩:=A0.o;exact f.cell (i:=0) rfl HC.o
   clear A5;refine hK.out _ _ trivial (fun _=>?_);refine bb_ 6 fun K hK=>?_
   obtain ⟨w0,A3,A4,f5⟩:=A0.o;obtain ⟨A2,n2,c2,_,h2,Aw,hO,hY⟩:=f5.own (i:=0) (j:=0) (e:=[.num]) rfl rfl (show owI 0=some 2 from rfl);rw [HC.o] at h2;injection h2 with h2;injection h2 with q1 q2 q3;subst q1 q2 q3;have A1:=q_ f5.lt;refine bu_ rfl (.tmp 12) (.tmp 16) 27 rfl 0 2 i0 _ 8 [.num] Y' 10 underlying27 Ah Ai Aj Ak rfl d_ A n c v_ hO (some (a_ w3)) 1 1 v_ Ac.o A1.o m_ o_ (Nat.zero_le _) ?_;intro A6 c6 w6 o6 g6 l6;have O6:=q_ o6;have G6:=q_ g6;have L6:=q_ l6;have Aq:w6.cell? (a_ (w+1))=some (.slice A n c):=(f5.cv_ (i:=0) rfl (j:=0) rfl (show owI 0=some 2 from rfl) HC.o g6).2.1 0 _ HC.o;have Ar:=(f5.cv_ (i:=0) rfl (j:=0) rfl (show owI 0=some 2 from rfl) HC.o g6).2.2;clear A3 A4 f5 hO hY o6 g6 l6;refine hK.out _ _ trivial (fun _=>?_);refine aa_ 7 18 ?_;refine ba_ 8 k_ rfl (fun K hK=>?_);go_simp;refine hK.out _ _ trivial (fun _=>?_);try simp only [Act.put,sA,s0,s1]
   refine wpAnyH_done k_ ?_ _;go_wp2_with fail;obtain ⟨Y9,Ae,_⟩:=A0.o.grow (i:=0) rfl (show owI 0=some 2 from rfl) HC.o O6.o o_ G6.o L6.o;have Ab:=q_ Ae;go_roundw
   case rel=>exact ⟨Y9,_,A6,n+1,c6,o_,by go_num,by rw [upd_same,gs_,if_pos rfl,if_pos (e_ HC.o).1],Ab⟩
   case measure=>simp [intOf];omega
  go_simp;have A5:Below w3 w3 (w3.alloc (.cells #[i_ (IntKind.i64.wrap ((r:Int) - 3))] 2)):=(b_).alloc (l_) _;have A0:=q_ (A7.o.call A5);have Ac:=h_ (SlT (w3.alloc (.cells #[i_ (IntKind.i64.wrap ((r:Int) - 3))] 2)) (Wi Y' (Value.slice A n c).ownBlock) 10 [.num] (some (a_ w3)) 1 1) (SlT.lit1 (e:=[.num]) (VTs.cons (.num _) VTs.nil) _ (fun h=>by
   obtain ⟨w0,_,_,f⟩:=A7.o
   rcases h with h | h
   ·have:=f.lt _ h;omega
   obtain ⟨_,A2,n2,c2,_,h2,_,h4,h5⟩:=f.row _ (Fr.mem (i:=0) rfl) 0 (.sl [.num]) 2 rfl rfl
   have h2:(C' (w+1))[0]?=some (.slice A2 n2 c2):=h2
   rw [HC.o] at h2
   injection h2 with h2
   injection h2 with q1 q2 q3
   subst q1 q2 q3
   have:=f.lt _ (h5 _ h).1;omega) o_)
  have c5:(w3.alloc (.cells #[i_ (IntKind.i64.wrap ((r:Int) - 3))] 2)).cell? (a_ (w+1))=some (.slice A n c):=by obtain ⟨w0,_,_,f⟩:=A0.o;exact f.cell (i:=0) rfl HC.o
  clear A5;refine hK.out _ _ trivial (fun _=>?_);refine bb_ 1 fun K hK=>?_
  go_simp;refine hK.out _ _ trivial (fun _=>?_);refine bb_ 6 fun K hK=>?_
  obtain ⟨w0,A3,A4,f5⟩:=A0.o;obtain ⟨A2,n2,c2,_,h2,Aw,hO,hY⟩:=f5.own (i:=0) (j:=0) (e:=[.num]) rfl rfl (show owI 0=some 2 from rfl);rw [HC.o] at h2;injection h2 with h2;injection h2 with q1 q2 q3;subst q1 q2 q3;have A1:=q_ f5.lt;refine bu_ rfl (.tmp 12) (.tmp 16) 27 rfl 0 2 i0 _ 8 [.num] Y' 10 underlying27 Ah Ai Aj Ak rfl d_ A n c v_ hO (some (a_ w3)) 1 1 v_ Ac.o A1.o m_ o_ (Nat.zero_le _) ?_;intro A6 c6 w6 o6 g6 l6;have O6:=q_ o6;have G6:=q_ g6;have L6:=q_ l6;have Aq:w6.cell? (a_ (w+1))=some (.slice A n c):=(f5.cv_ (i:=0) rfl (j:=0) rfl (show owI 0=some 2 from rfl) HC.o g6).2.1 0 _ HC.o;have Ar:=(f5.cv_ (i:=0) rfl (j:=0) rfl (show owI 0=some 2 from rfl) HC.o g6).2.2;clear A3 A4 f5 hO hY o6 g6 l6;refine hK.out _ _ trivial (fun _=>?_);refine aa_ 7 18 ?_;refine ba_ 8 k_ rfl (fun K hK=>?_);go_simp;refine hK.out _ _ trivial (fun _=>?_);try simp only [Act.put,sA,s0,s1]
  refine wpAnyH_done k_ ?_ _;go_wp2_with fail;obtain ⟨Y9,Ae,_⟩:=A0.o.grow (i:=0) rfl (show owI 0=some 2 from rfl) HC.o O6.o o_ G6.o L6.o;have Ab:=q_ Ae;go_roundw
  case rel=>exact ⟨Y9,_,A6,n+1,c6,o_,by go_num,by rw [upd_same,gs_,if_pos rfl,if_pos (e_ HC.o).1],Ab⟩
  case measure=>simp [intOf];omega
 have AD:¬(0:Int)<(q0:Int) - (n:Int):=by omega
 obtain ⟨w0,A3,A4,f⟩:=A8.o;have c0:=f.cell (i:=0) rfl hc;have r0:=f.box (i:=1) rfl;have AF:=r0;obtain ⟨_,_,_,z0,_,_⟩:=f.slc (i:=1) rfl (j:=0) rfl rfl;have zf:=f.fz (i:=1) rfl;obtain ⟨A2,n2,c2,h2,hs⟩:=f.row_out (i:=0) rfl (j:=0) (e:=[.num]) rfl (show owI 0=some 2 from rfl) (X':=fun q=>X q∨q=w) (fun q hq=>by
  rcases hq with hq | hq
  ·exact ⟨f.sub q hq,.inl (by rw [A3.1];exact AB.o q hq)⟩
  subst hq;exact ⟨(f.blk _ (Fr.mem (i:=1) rfl)).1,.inr ⟨_,Fr.mem (i:=1) rfl,rfl⟩⟩)
 rw [hc] at h2;injection h2 with h2;injection h2 with q1 q2 q3;subst q1 q2 q3;have AA:=q_ hs;have HE:=q_ A8.o.end_;have HB:=q_ r0;clear hs A3 A4 f r0 AF;go_wp2_with fail;refine retC results37 (by rfl) underlying29 rfl k_ (cs:=[.slice A n c]) ?_ rfl ?_
 ·have hl:0<(C' w).length:=by
   obtain ⟨_,_,_,f⟩:=A8.o;rw [f.len (i:=1) rfl];decide
  intro j u hj;have h3:=(HB.o.set 0 (.slice A n c)).whole;refine h3 j u ?_
  match j,hj with
  | 0,hj=>rw [gs_,if_pos rfl,if_pos hl];exact hj
 exact ⟨⟨A,n,c,rfl,q_ ((AA.o.up ((Kp.refl _ wr).setCell (p:=(a_ w)) (.inl (.inr rfl)) _) (l_)).kept (Kp.refl _ _) (fun q _ h h2=>h (.inl h2)) (l_))⟩,HE.o.set AC (l_) _⟩
end Go.Proofs.YtfolidlmgfhkiaaGreat
