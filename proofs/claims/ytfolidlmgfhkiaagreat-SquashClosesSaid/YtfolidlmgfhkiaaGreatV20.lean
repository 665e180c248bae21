/- Lemmas on functions of the program, under the conditions that each states. -/
import Derived.Test.YtfolidlmgfhkiaaGreatV19
set_option linter.unusedVariables false
set_option linter.unusedSimpArgs false
set_option maxRecDepth 100000
set_option maxHeartbeats 4000000
namespace Go.Proofs.YtfolidlmgfhkiaaGreat
open Go.RowKit Go.Proofs.Tryz
theorem fault_m {X Z Y:NP} {w0:World} {LL:List LV} {b K L:Nat} {l:List In} {pc:Int} {C:Nat->VL} (w:World) (h:OneS X Z w0 LL b K L l pc Y C w) (hK:K<=1000000000) (hL:L<=10000) (n:Int) :
  Calls prog 175 #[.pointer (some (a_ b)),i_ n] w fun e w'=>e=.returned (.tuple #[])/\Ms X Z w0 LL b K (L+5) l pc Y C w w' JT:=by
 have HS:=q_ h;clear h;go_enter func175,ntmps175;go_wp2_with fail;refine (throw_m w HS.o hK hL ⟨false,n⟩).mono ?_;rintro e W1 ⟨rfl,h1⟩;have H1:=q_ h1;clear h1;go_wp2;refine end0 za_ rfl ?_;exact ⟨rfl,H1.o⟩
def ROb (e:Ending):Prop:=∃ (f:Int) (ok:Bool),e=.returned (.tuple #[i_ f,.bool ok])
def RVb (e:Ending):Prop:=∃ (f k:Int) (ok:Bool),e=.returned (.tuple #[i_ f,i_ k,.bool ok])
theorem results_tmp3 {P:Program} {fn:Func} {t u s:Tmp} (h:fn.results=#[.tmp t,.tmp u,.tmp s]) (tmps:Array Value) (w:World) :
  (results fn tmps).run P w=.ok (.tuple #[tmps.getD t undef,tmps.getD u undef,tmps.getD s undef]) w:=by
 simp [results,h]
theorem variable_m {X Z Y:NP} {w0:World} {LL:List LV} {b K L:Nat} {l:List In} {pc:Int} {C:Nat->VL} (w:World) (h:OneS X Z w0 LL b K L l pc Y C w) (hK:K<=1000000000) (hL:L<=9999) (n:Int) :
  Calls prog 177 #[.pointer (some (a_ b)),i_ n] w fun e w'=>RVb e/\Ms X Z w0 LL b K (L+6) l pc Y C w w' JT:=by
 have HS:=q_ h;clear h;go_enter func177,ntmps177;go_wp2_with fail;refine (frame_m w HS.o hK o_).mono ?_;rintro e W1 ⟨⟨f,fn,rfl⟩,Y1,C1,h1,p1⟩;have H1:=q_ h1;have P1:=q_ ((Pr.refl b JT w Y C).trans p1 (fun j hj=>by rcases hj with hj | hj <;> (constructor <;> omega)));obtain ⟨bk,A0,_⟩:=h1.fr.tru (i:=0) rfl (j:=81) rfl rfl;clear h1 p1;cases bk
 case true =>
  go_wp2;refine bodyPost_ret (results_tmp3 za_ _ _) rfl ?_;exact ⟨⟨_,_,_,rfl⟩,P1.o.ms (H1.o.raise o_)⟩
 go_wp2_with (go_at_call 175;refine (fault_m W1 H1.o hK o_ (-1)).mono ?_;rintro e W2 ⟨rfl,h2⟩;have H2:=q_ h2;clear h2 A0);all_goals first
  | (refine bodyPost_ret (results_tmp3 za_ _ _) rfl ?_
     obtain ⟨Y2,C2,h2,p2⟩:=H2.o
     exact ⟨⟨_,_,_,rfl⟩,(P1.o.trans p2 (fun j hj=>hj)).ms h2⟩)
  | (refine bodyPost_ret (results_tmp3 za_ _ _) rfl ?_
     exact ⟨⟨_,_,_,rfl⟩,P1.o.ms (H1.o.raise o_)⟩)
theorem object_m {X Z Y:NP} {w0:World} {LL:List LV} {b K L:Nat} {l:List In} {pc:Int} {C:Nat->VL} (w:World) (h:OneS X Z w0 LL b K L l pc Y C w) (hK:K<=1000000000) (hL:L<=9999) (v:Val) (fd:Int) :
  Calls prog 178 #[.pointer (some (a_ b)),.agg #[.bool v.ref,i_ v.n],i_ fd] w fun e w'=>ROb e/\Ms X Z w0 LL b K (L+5) l pc Y C w w' JT:=by
 obtain ⟨V,hV,A1,A6,W0⟩:=af_ w [.bool v.ref,i_ v.n] 38;have H0:=q_ (h.call A1);have V0:=h_ (Lc V Y w [.bool v.ref,i_ v.n]) (⟨W0,fun hy=>Nat.lt_irrefl _ (h.fr.lt _ hy)⟩);have P0:=q_ ((Pr.refl b JT w Y C).below A1);have A9:=h.fr.blt (i:=0) rfl;obtain ⟨vr,vn⟩:=v;have v0:=W0.2.1 0 _ rfl;have v1:=W0.2.1 1 _ rfl;have Aa:(w:Nat)<V:=by omega
 have A8:b<V:=by omega
 clear h A1 A6 W0;go_enter func178,ntmps178;go_upto_region 1 with fail;rw [<-hV];clear hV;cases vr
 case false =>
  go_wp2_with (go_at_call 175;refine (fault_m V H0.o hK o_ (-2)).mono ?_;rintro e W2 ⟨rfl,h2⟩;have H2:=q_ h2;clear h2);exact uq_
 by_cases hz:vn=0
 ·subst hz;go_wp2_with (go_at_call 175;refine (fault_m V H0.o hK o_ (-1)).mono ?_;rintro e W2 ⟨rfl,h2⟩;have H2:=q_ h2;clear h2);exact uq_
 obtain ⟨HA,hn,hc,A7,hH,_⟩:=H0.o.fr.slc (i:=0) rfl (j:=36) (e:=objT) rfl rfl;have HH:=h_ (SlT V Y K objT HA hn hc) hH;have KH:=h_ (∀ w',Below V V w'->SlT w' Y K objT HA hn hc) (fun w' hb=>HH.o.go (.of_below hb) (l_));have A3:=h_ (Below V V V.drew) (Below.drew (b_));have A0:=h_ (Below V V (V.drew.alloc (.cells #[i_ 0,.slice none 0 0] 90))) ((Below.drew (b_)).alloc (l_) _);have HZ:=h_ (Bx (V.drew.alloc (.cells #[i_ 0,.slice none 0 0] 90)) V [i_ 0,.slice none 0 0]) (Bx.new V.drew [i_ 0,.slice none 0 0] 90);clear hH;go_upto_region 7 with fail;go_cut [8,9] (fun p ok wx=>∃ (q:Nat) (oi:Int) (oA:OA) (on oc:Nat) (ob:Bool),p=.pointer (some (a_ q))/\ok=.bool ob/\V<=q/\Hid (Bx wx q [i_ oi,.slice oA on oc])/\Hid (Below V V wx))
 case first =>
  go_region_law (first
   | (go_simp;go_at_call 133;refine (Get_t Y K HA hn hc vn V.drew (KH.o _ A3.o) o_).mono ?_;rintro e S ⟨⟨oi,oA,on,oc,ob,rfl⟩,hS⟩;have BS:=h_ (Below V V S) (A3.o.trans hS);clear hS)
   | (go_simp;go_at_call 133;refine (Get_t Y K HA hn hc vn (V.drew.alloc (.cells #[.int .i64 0,.slice none 0 0] 90)) (KH.o _ A0.o) o_).mono ?_;rintro e S ⟨⟨oi,oA,on,oc,ob,rfl⟩,hS⟩;have BS:=h_ (Below V V S) (A0.o.trans (hS.mono A0.o.size));have BZ:=q_ (HZ.o.below hS);have z0:=BZ.o.2.1 0 _ rfl;have z1:=BZ.o.2.1 1 _ rfl;have zf:=BZ.o.2.2;clear hS))
  all_goals
   go_wp2_with fail;go_meet;first
    | exact ⟨_,oi,oA,on,oc,ob,rfl,rfl,BS.o.size,q_ (Bx.new S [.int .i64 oi,.slice oA on oc] _),q_ (BS.o.alloc BS.o.size _)⟩
    | exact ⟨V,oi,oA,on,oc,ob,rfl,rfl,l_,q_ ((BZ.o.set 0 _).set 1 _),q_ ((BS.o.setCell (l_) _).setCell (l_) _)⟩
 obtain ⟨q,oi,oA,on,oc,ob,rfl,rfl,hq,hB,A2⟩:=hcut;have H3:=q_ (H0.o.call A2.o);have P3:=q_ (P0.o.below A2.o);have V3:=V0.o.up (Up.of_below A2.o);have y0:=V3.cell (j:=0) rfl;have y1:=V3.cell (j:=1) rfl;have b1:=hB.o.2.1 1 _ rfl;obtain ⟨bk,Ab,A4⟩:=H3.o.fr.tru (i:=0) rfl (j:=81) rfl rfl;have A5:=q_ A4;have fb:=H3.o.fr.fz (i:=0) rfl;clear A4 v0 v1 A7 V3;cases ob
 case false =>
  go_wp2;refine bodyPost_ret (results_tmp2 za_ _ _ _) rfl ?_;obtain ⟨Y4,C4,h4,u4,q4,j4⟩:=H3.o.set81 (bk:=bk) A5.o true (fun _=>rfl);exact ⟨⟨_,_,rfl⟩,((P3.o.trans ⟨u4,q4,j4⟩ (fun j hj=>by rcases hj with hj | hj <;> omega)).ms (h4.raise o_))⟩
 by_cases hf:(on:Int)<=fd
 ·go_wp2_with (go_at_call 175;refine (fault_m wc H3.o hK o_ (-1)).mono ?_;rintro e W2 ⟨rfl,h2⟩;have H2:=q_ h2;clear h2);refine bodyPost_ret (results_tmp2 za_ _ _ _) rfl ?_;obtain ⟨Y2,C2,h2,p2⟩:=H2.o;exact ⟨⟨_,_,rfl⟩,(P3.o.trans p2 (fun j hj=>hj)).ms h2⟩
 go_wp2_with fail;refine bodyPost_ret (results_tmp2 za_ _ _ _) rfl ?_;exact ⟨⟨_,_,rfl⟩,P3.o.ms (H3.o.raise o_)⟩
end Go.Proofs.YtfolidlmgfhkiaaGreat
