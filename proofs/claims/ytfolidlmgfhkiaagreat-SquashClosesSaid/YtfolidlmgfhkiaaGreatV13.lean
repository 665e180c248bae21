/- Lemmas on functions of the program, under the conditions that each states. -/
import Derived.Test.YtfolidlmgfhkiaaGreatV04
set_option linter.unusedVariables false
set_option linter.unusedSimpArgs false
set_option maxRecDepth 100000
set_option maxHeartbeats 8000000
namespace Go.Proofs.YtfolidlmgfhkiaaGreat
open Go.RowKit Go.Proofs.Tryz
def folT:List CT:=[.num,.num,.num]
theorem infoFo:(prog.info? 157).map (fun i=>(i.zero,i.size,i.bytes))=some (some (.agg #[i_ 0,i_ 0,i_ 0]),3,24):=by kernel_rfl
theorem vts_fol {X:NP} {w:World} {K:Nat} (a b c:Int):VTs w X K folT [i_ a,i_ b,i_ c]:=VTs.cons (.num _) (VTs.cons (.num _) (VTs.cons (.num _) VTs.nil))
theorem SlT.fol_at {X:NP} {w:World} {K n c k:Nat} {A:OA} (h:SlT w X K folT A n c) (hk:k<n):∃ g o,A=some (f_ g o)/\g<w/\∃ a b d:Int,∀ w',Below w w w' →
  (w'.cell? ⟨g,o+k*3,none⟩=some (i_ a)/\w'.cell? ⟨g,o+k*3+1,none⟩=some (i_ b)/\w'.cell? ⟨g,o+k*3+2,none⟩=some (i_ d)):=by
 obtain ⟨g,o,hA,hg,vs,hv,hm⟩:=h.at0 hk;obtain ⟨a,r1,rfl,ha,h1⟩:=hv.head;obtain ⟨b,r2,rfl,hb,h2⟩:=h1.head;obtain ⟨d,r3,rfl,hd,h3⟩:=h2.head;obtain ⟨a,rfl⟩:=ha.int;obtain ⟨b,rfl⟩:=hb.int;obtain ⟨d,rfl⟩:=hd.int;exact ⟨g,o,hA,hg,a,b,d,fun w' hw=>⟨hm w' hw 0 _ rfl,hm w' hw 1 _ rfl,hm w' hw 2 _ rfl⟩⟩
def RAt (n:Nat) (e:Ending):Prop:=∃ (i:Nat) (b:Bool),e=.returned (.tuple #[i_ i,.bool b])/\i<=n/\Hid (b=true->i<n)
theorem at20_t (X:NP) (K:Nat) (A:OA) (n c:Nat) (m:Int) (w:World) (h:SlT w X K folT A n c) (hK:K<=900000000) :
  Calls prog 81 #[.agg #[.slice A n c],i_ m] w fun e w'=>RAt n e/\Below w w w':=by
 have A7:=h.le;obtain ⟨W,hW,A1,A6,B0⟩:=af_ w [.slice A n c] 99;have H:=q_ (h.up (Kp.of_below A1) (l_));have A3:=q_ B0;have HW:=q_ A1;have x0:=B0.2.1 0 _ rfl;have A8:(w:Nat)<W:=by omega
 clear h B0 A1;go_enter func81,ntmps81;go_upto_region 1 with fail;rw [<-hW];clear hW;go_upto_region 2 with fail;clear x0;go_loopw [11] (fun i wr=>∃ k:Nat,k<=n/\i=i_ k/\Below W W wr) (fun i _=>n - (intOf i).toNat)
 case atStart=>exact ⟨0,Nat.zero_le _,rfl,b_⟩
 obtain ⟨k,hk,rfl,hb⟩:=hrel;have q0:=(A3.o.below hb).2.1 0 _ rfl;have A2:Below w w wr:=HW.o.trans (hb.mono HW.o.size);have A0:=q_ A2;have HB:=q_ hb;have A5:=hb.size;by_cases hlt:k<n
 ·have A4:(k:Int)<(n:Int):=by omega
  obtain ⟨g,o,rfl,hg,a,b,d,hx⟩:=H.o.fol_at hlt;obtain ⟨c0,c1,c2⟩:=hx wr hb;clear hx hb A2;by_cases hxm:a<m
  ·have g1:decide (m<=a)=false:=by simp;omega
   have g2:¬m<=a:=by omega
   go_wp2;go_roundw
   case rel=>exact ⟨k+1,o_,zb_,HB.o.alloc A5 _⟩
   case measure=>exact me_
  have g2:m<=a:=by omega
  go_wp2;go_quiet (fail);go_wp2;go_ret2;exact ⟨⟨k,_,rfl,o_,q_ (fun _=>hlt)⟩,below_drewN (A0.o.alloc A0.o.size _) _⟩
 obtain rfl:k=n:=by omega
 clear hb A2;go_wp2;go_ret2;exact ⟨⟨k,false,rfl,l_,q_ x_⟩,A0.o⟩
def RGu (e:Ending):Prop:=∃ (i:Int) (b:Bool),e=.returned (.tuple #[i_ i,.bool b])
theorem Guess20_t (X:NP) (K:Nat) (A:OA) (n c:Nat) (m:Int) (w:World) (h:SlT w X K folT A n c) (hK:K<=900000000) :
  Calls prog 84 #[.agg #[.slice A n c],i_ m] w fun e w'=>RGu e/\Below w w w':=by
 have A5:=h.le;obtain ⟨W,hW,A0,A4,B0⟩:=af_ w [.slice A n c] 99;have H:=q_ (h.up (Kp.of_below A0) (l_));have A2:=q_ B0;have HW:=q_ A0;have x0:=B0.2.1 0 _ rfl;have A6:(w:Nat)<W:=by omega
 clear h B0 A0;go_enter func84,ntmps84;go_upto_region 1 with fail;rw [<-hW];clear hW;go_wp2_with fail;refine (at20_t X K A n c m W H.o hK).mono ?_;rintro e w' ⟨⟨i,b,rfl,hi,hb⟩,hB⟩;have HB:=q_ hB;have q0:=(A2.o.below hB).2.1 0 _ rfl;have A1:=q_ (HW.o.trans (hB.mono HW.o.size));have Hi:=q_ hb;clear hB hb x0;cases b
 case false =>
  go_wp2;go_ret2;exact ⟨⟨_,_,rfl⟩,A1.o⟩
 have hin:i<n:=Hi.o.o rfl;have A3:(i:Int)<(n:Int):=by omega
 obtain ⟨g,o,rfl,hg,a,b,d,hx⟩:=H.o.fol_at hin;obtain ⟨c0,c1,c2⟩:=hx w' HB.o;clear hx;go_wp2;try go_quiet (fail)
 try go_wp2
 go_ret2;exact ⟨⟨_,_,rfl⟩,(bel A1.o)⟩
def RSq (X:NP) (K:Nat) (e:Ending) (w:World):Prop:=∃ (A:OA) (n c:Nat),e=.returned (.agg #[.slice A n c])/\Hid (SlT w X K folT A n c)
theorem isz1S:(prog.info? 99).map (·.size)=some 1:=by kernel_rfl
theorem train20_x (X:NP) (K:Nat) (A:OA) (n c:Nat) (key v:Int) (w:World) (ha:SlT w X K folT A n c) (hK:K<=9000000) (hX:∀ k,X k->k<w+2) (hr:X (w+1)) :
  Calls prog 43 #[.agg #[.slice A n c],i_ key,i_ v] w fun e w'=>RSq X (K+1) e w'/\Below w w w':=by
 obtain ⟨i0,A2,Ac,A5,A0⟩:=info_parts infoFo;obtain ⟨W,hW,A8,Ak,B0,B1⟩:=cb_ w [.slice A n c] 99 [.slice none 0 0] 99;have KB:=q_ (fun w' (hb:Below W W w')=>B1.below hb);have Av:=ha.le;have x0:=B0.2.1 0 _ rfl;have KA:=q_ (fun w' (hb:Below W W w')=>B0.below hb);have Ai:=q_ (ha.up (Kp.of_below A8) (Nat.le_refl K));have HA:=h_ (SlT W (Wi X (Value.slice none 0 0).ownBlock) (K+1) folT A n c) ((ha.up (Kp.of_below A8) (Nat.le_refl K)).kept (Kp.refl _ _) (fun k _ h h2=>by rcases h2 with h2 | h2;exact h h2;cases h2) o_);have HW:=q_ A8;have Ao:(w:Nat)+1<W:=by omega
 have Ad:=q_ hr;have A1:=h_ (∀ k,X k->k<W) (fun k hk=>by have:=hX k hk;omega);clear ha hX B0 B1 A8 Ak;go_enter func43,ntmps43;go_upto_region 1 with fail;rw [<-hW];clear hW;go_upto_region 2 with (at_builtin;refine ao_ rfl _ _ 97 rfl W 157 i0 _ 24 folT X (K+1) underlying97 A2 Ac A5 A0 rfl d_ none 0 0 zc_ (OwT.nil _ _ _ _ _ _) A n c v_ HA.o A1.o m_ o_ (l_) ?_;intro A4 c4 w4 o4 g4 l4;rw [Nat.zero_add] at o4 l4 ⊢;have b4:Below W W w4:=aj_ g4 (l_) (fun k hk=>by cases hk);have z4:=b4.size;have O4:=q_ o4;clear o4 l4 g4);clear x0;have x0:=(KA.o w4 b4).2.1 0 _ rfl;have B4:=q_ b4;clear b4;go_wp2_with fail;refine (at20_t X K A n c key w4 (Ai.o.up (Kp.of_below B4.o) (l_)) o_).mono ?_;rintro e w5 ⟨⟨k,b,rfl,hk,hb⟩,Ag⟩;have B5:=q_ (B4.o.trans (Ag.mono z4));have z5:=B5.o.size;have O5:=q_ (O4.o.below Ag);have Hb:=q_ hb;clear Ag x0 hb;cases b
 case false =>
  have Ap:n<=c4:=(O5.o.slT A1.o (by omega:n<=K+1)).cap;have H5:=q_ (O5.o.slT A1.o (by omega:n<=K+1));have hd:Below w5 w5 w5.drew:=Below.drew (b_);have HU:=h_ (∀ a b c,SlT (w5.drew.alloc (.cells #[i_ a,i_ b,i_ c] 157)) X (K+1) folT (some (a_ w5)) 1 1) (fun a b c=>SlT.lit1 (w:=w5.drew) (e:=folT) (vts_fol a b c) _ (fun h=>by have:=A1.o _ h;have:(w5.drew:Nat)=w5:=rfl;omega) o_);have A3:=h_ (∀ o,Below w5 w5 (w5.drew.alloc o)) (fun o=>hd.alloc (l_) o);have Ax:∀ w',(Instr.slice 97 (.slice A4 n c4) none (some (i_ (k:Int))) (some (i_ (k:Int)))).run prog w'=.ok (.slice A4 k k) w':=el_ underlying97 A2 o_;have Ay:∀ w',(Instr.slice 97 (.slice A4 n c4) (some (i_ (k:Int))) none none).run prog w'=.ok (.slice (cutA A4 c4 k 3) (n - k) (c4 - k)) w':=fun w'=>by rw [es_ underlying97 A2 o_,A5]
  clear hd;go_upto_region 4 with fail;by_cases hlt:k<n
  ·have Aa:k<=n:=by omega
   go_region_law (first
    | (refine bo_ rfl (.tmp 29) (.tmp 32) 97 rfl 157 i0 _ 24 folT X (K+1) underlying97 A2 Ac A5 A0 rfl d_ (some (a_ w5)) 1 1 v_ (HU.o _ _ _) (cutA A4 c4 k 3) (n - k) (c4 - k) zt_ ((H5.o.up (Kp.of_below (A3.o _)) (l_)).drop Aa) o_ o_ (fun q A0=>by have:=A1.o q A0;first | (simp;omega) | (simp <;> omega)) m_ o_ ?_;intro A6 c6 w6 o6 b6;have b6:Below w5 w5 w6:=(A3.o _).trans (b6.mono (A3.o _).size);have Aj:=q_ (o6.slT (K:=K+1) (fun q A0=>by have:=A1.o q A0;first | (simp;omega) | (simp <;> omega)) o_);clear o6)
    | (refine bo_ rfl (.tmp 25) (.tmp 33) 97 rfl 157 i0 _ 24 folT X (K+1) underlying97 A2 Ac A5 A0 rfl d_ A4 k k v_ ((H5.o.up (Kp.of_below b6) (l_)).take Aa k (l_) o_) A6 (1+(n - k)) c6 v_ Aj.o o_ o_ (fun q A0=>by have:=A1.o q A0;have:=b6.size;omega) m_ o_ ?_;intro A7 c7 w7 o7 b7;have b7:Below w5 w5 w7:=b6.trans (b7.mono (show (w5:Nat)<=_ from b6.size));have O7:=q_ (o7.slT (K:=K+1) (fun q A0=>by have:=A1.o q A0;have:=b6.size;omega) o_);clear o7))
   all_goals
    have HR:=q_ (KB.o w7 (B5.o.trans (b7.mono z5)));have r0:=HR.o.2.1 0 _ rfl;have rf:=HR.o.2.2 0;have rl:=HR.o.1;have Ae:Below w w w7:=(HW.o.trans (B5.o.mono HW.o.size)).trans (b7.mono xh_);go_wp2;refine retC results43 za_ underlying99 rfl isz1S (cs:=[.slice A7 (k+(1+(n - k))) c7]) (HR.o.set 0 _).whole rfl ?_;exact u1_
  obtain rfl:k=n:=by omega
  have Aa:k<=k:=Nat.le_refl k;have hz:k - k=0:=by omega
  go_region_law (first
   | (refine step_append_zero rfl (.tmp 29) (.tmp 32) 97 rfl 157 i0 underlying97 A2 (some (a_ w5)) 1 1 (l_) v_ (cutA A4 c4 k 3) (c4 - k) zt_ ?_)
   | (refine bo_ rfl (.tmp 25) (.tmp 33) 97 rfl 157 i0 _ 24 folT X (K+1) underlying97 A2 Ac A5 A0 rfl d_ A4 k k v_ ((H5.o.up (Kp.of_below (A3.o _)) (l_)).take Aa k (l_) o_) (some (a_ w5)) 1 1 v_ (HU.o _ _ _) o_ o_ (fun q A0=>by have:=A1.o q A0;first | (simp;omega) | (simp <;> omega)) m_ o_ ?_;intro A7 c7 w7 o7 b7;have b7:Below w5 w5 w7:=(A3.o _).trans (b7.mono (show (w5:Nat)<=_ from (A3.o _).size));have O7:=q_ (o7.slT (K:=K+1) (fun q A0=>by have:=A1.o q A0;have:=b7.size;simp <;> omega) o_);clear o7))
  all_goals
   have HR:=q_ (KB.o w7 (B5.o.trans (b7.mono z5)));have r0:=HR.o.2.1 0 _ rfl;have rf:=HR.o.2.2 0;have rl:=HR.o.1;have Ae:Below w w w7:=(HW.o.trans (B5.o.mono HW.o.size)).trans (b7.mono xh_);go_wp2;refine retC results43 za_ underlying99 rfl isz1S (cs:=[.slice A7 (k+1) c7]) (HR.o.set 0 _).whole rfl ?_;exact u1_
 have Ab:k<n:=Hb.o.o rfl;have Au:(k:Int)<(n:Int):=by omega
 have Am:¬(k:Int)<0:=by omega
 obtain ⟨g,rfl,Aq,Ar,A9⟩:=O5.o.addr o_;obtain ⟨g',o',Af,_,a,b,d,hx⟩:=(O5.o.slT A1.o (by omega:n<=K+1)).fol_at Ab;injection Af with Af;injection Af with h1 h2;subst h1 h2;obtain ⟨c0,c1,c2⟩:=hx w5 (b_);rw [Nat.zero_add] at c0 c1 c2;have f0:=A9 (k*3);have f1:=A9 (k*3+1);have f2:=A9 (k*3+2);have Ah:w+1≠g:=by omega
 have HR:=q_ (KB.o w5 B5.o);have r0:=HR.o.2.1 0 _ rfl;have rf:=HR.o.2.2 0;have Al:=h_ (Below w w w5) (HW.o.trans (B5.o.mono HW.o.size));have As:¬g=w5:=by omega
 have Aw:(w:Nat)+1<w5:=by omega
 have An:=h_ (∀ q,X q->q<W) A1.o;have HT:=h_ (∀ (x y z:Int) (o:Obj),Bx (((((w5.setCell ⟨g,k*3,none⟩ (i_ x)).setCell ⟨g,k*3+1,none⟩ (i_ y)).setCell ⟨g,k*3+2,none⟩ (i_ z)).setCell (a_ (w+1)) (.slice (some (a_ g)) n c4)).alloc o) (w+1) [.slice (some (a_ g)) n c4]/\SlT (((((w5.setCell ⟨g,k*3,none⟩ (i_ x)).setCell ⟨g,k*3+1,none⟩ (i_ y)).setCell ⟨g,k*3+2,none⟩ (i_ z)).setCell (a_ (w+1)) (.slice (some (a_ g)) n c4)).alloc o) X (K+1) folT (some (a_ g)) n c4/\Below w w (((((w5.setCell ⟨g,k*3,none⟩ (i_ x)).setCell ⟨g,k*3+1,none⟩ (i_ y)).setCell ⟨g,k*3+2,none⟩ (i_ z)).setCell (a_ (w+1)) (.slice (some (a_ g)) n c4)).alloc o)) (fun x y z o=>by
  have s0:=O5.o.set (k:=k) (j:=0) Ab rfl (.num x) ⟨g,k*3,none⟩ rfl
  have s1:=s0.set (k:=k) (j:=1) Ab rfl (.num y) ⟨g,k*3+1,none⟩ rfl
  have s2:=s1.set (k:=k) (j:=2) Ab rfl (.num z) ⟨g,k*3+2,none⟩ rfl
  have s3:=s2.slT A1.o (by omega:n<=K+1)
  have bx:=(((HR.o.far (p:=⟨g,k*3,none⟩) (Ne.symm Ah) (i_ x)).far (p:=⟨g,k*3+1,none⟩) (Ne.symm Ah) (i_ y)).far (p:=⟨g,k*3+2,none⟩) (Ne.symm Ah) (i_ z)).set 0 (.slice (some (a_ g)) n c4)
  have hB:=(((Al.o.setCell (p:=⟨g,k*3,none⟩) z7_ (i_ x)).setCell (p:=⟨g,k*3+1,none⟩) z7_ (i_ y)).setCell (p:=⟨g,k*3+2,none⟩) z7_ (i_ z)).setCell (p:=(a_ (w+1))) w4_ (.slice (some (a_ g)) n c4)
  refine ⟨bx.kp (X:=fun _=>False) (.of_below ((b_).alloc (l_) o)) (fun h=>h),(s3.up ((Kp.refl X _).setCell (p:=(a_ (w+1))) (.inl Ad.o) _) (l_)).up (.of_below ((b_).alloc (l_) o)) (l_),hB.alloc hB.size o⟩)
 clear hx A9;go_wp2;all_goals
  refine retC results43 za_ underlying99 rfl isz1S (cs:=[.slice (some (a_ g)) n c4]) (HT.o _ _ _ _).1.whole rfl ?_;exact ⟨⟨_,_,_,rfl,q_ (HT.o _ _ _ _).2.1⟩,(HT.o _ _ _ _).2.2⟩
theorem Train20_t (X:NP) (K:Nat) (A:OA) (n c:Nat) (key v:Int) (w:World) (ha:SlT w X K folT A n c) (hK:K<=9000000) (hX:∀ k,X k->k<w) :
  Calls prog 43 #[.agg #[.slice A n c],i_ key,i_ v] w fun e w'=>RSq X (K+1) e w'/\Below w w w':=by
 refine (train20_x (fun k=>X k\/k=w+1) K A n c key v w (ha.kept (Kp.refl _ _) (fun k hk h h2=>by rcases h2 with h2 | h2;exact h h2;omega) (l_)) hK (fun k hk=>by rcases hk with hk | hk;(have:=hX k hk;omega);omega) (.inr rfl)).mono ?_;rintro e w' ⟨⟨A',n',c',rfl,h⟩,hb⟩;exact ⟨⟨A',n',c',rfl,q_ (h.o.kept (Kp.refl _ _) (fun k _ h h2=>h (.inl h2)) (l_))⟩,hb⟩
end Go.Proofs.YtfolidlmgfhkiaaGreat
