/- Lemmas on functions of the program, under the conditions that each states. -/
import Derived.Test.YtfolidlmgfhkiaaGreatV07
set_option linter.unusedVariables false
set_option linter.unusedSimpArgs false
set_option maxRecDepth 100000
set_option maxHeartbeats 4000000
namespace Go.Proofs.YtfolidlmgfhkiaaGreat
open Go.RowKit Go.Proofs.Tryz
def Good (l:List In):Prop:=(∀ (i:Nat) (x:In),l[i]?=some x->OkI l i x)/\l.length<=2048
def RVal (l:List In) (s:Int) (e:Ending):Prop:=∃ b,e=.returned (.bool b)/\(b=true->Good l/\s<=2048)
theorem rval_no (l:List In) (s:Int):RVal l s (.returned (.bool false)):=⟨false,rfl,fun h=>by cases h⟩
def RValV (l:List In) (v s:Int) (e:Ending):Prop:=∃ b,e=.returned (.bool b)/\(b=true->(Good l/\s<=2048)/\0<=v/\v<=64)
theorem rvalv_no (l:List In) (v s:Int):RValV l v s (.returned (.bool false)):=⟨false,rfl,fun h=>by cases h⟩
theorem ValidV_any (A:OA) (n c:Nat) (v s:Int) (l:List In) (w:World) (hs:Sl w w 5 In.cells A n l) (hn:n<=9000000000000) :
  Calls prog 72 #[.agg #[.slice A n c,i_ v,i_ s]] w fun e w'=>RValV l v s e/\Below w w w':=by
 have HL:=q_ hs.len;by_cases hr:1<=n/\n<=2048
 ·obtain ⟨m,rfl⟩:∃ m,n=m+1:=⟨n - 1,o_⟩;obtain ⟨ab,ao,rfl,A8,A5⟩:=hs.at_ o_;obtain ⟨y,hy⟩:∃ y,l[0]?=some y:=⟨_,ge_ xo_⟩;obtain ⟨z,hz⟩:∃ z,l[m]?=some z:=⟨_,ge_ xo_⟩;obtain ⟨W,hW,A0,A7,B0⟩:=af_ w [.slice (some (f_ ab ao)) (m+1) c,i_ v,i_ s] 26;have HS:=q_ (hs.up A0);have KC:=h_ (∀ w',Below W W w'->(w'.cell? (a_ w)=some (.slice (some (f_ ab ao)) (m+1) c)/\w'.cell? (f_ w 1)=some (i_ v)/\w'.cell? (f_ w 2)=some (i_ s))/\(w'.cell? (f_ ab ao)=some (i_ y.op)/\w'.cell? ⟨ab,ao+m*5,none⟩=some (i_ z.op))/\Below w w w') (fun w' hb =>
   ⟨⟨(B0.below hb).2.1 0 _ rfl,(B0.below hb).2.1 1 _ rfl,(B0.below hb).2.1 2 _ rfl⟩,⟨(belc (A0.trans (hb.mono A0.size)) A8).trans (by have:=A5 0 y hy 0 _ rfl;simpa using this),(belc (A0.trans (hb.mono A0.size)) A8).trans (A5 m z hz 0 _ rfl)⟩,A0.trans (hb.mono A0.size)⟩)
  have KX:=h_ (∀ w',Below W W w'->∀ (k:Nat) (x:In),l[k]?=some x->(w'.cell? ⟨ab,ao+k*5,none⟩=some (i_ x.op)/\w'.cell? ⟨ab,ao+k*5+1,none⟩=some (i_ x.a)/\w'.cell? ⟨ab,ao+k*5+2,none⟩=some (i_ x.b)/\w'.cell? ⟨ab,ao+k*5+3,none⟩=some (i_ x.c)/\w'.cell? ⟨ab,ao+k*5+4,none⟩=some (i_ x.n))) (fun w' hb k x hx =>
   have h:=fun j u (hu:x.cells[j]?=some u)=>(belc (A0.trans (hb.mono A0.size)) A8).trans (A5 k x hx j u hu)
   ⟨h 0 _ rfl,h 1 _ rfl,h 2 _ rfl,h 3 _ rfl,h 4 _ rfl⟩)
  have As:IntKind.i64.wrap (((m+1:Nat):Int) - 1)=(m:Int):=by rw [IntKind.wrap_i64];omega
  have Ao:(m:Int)<((m+1:Nat):Int):=by omega
  have Ap:¬((m+1:Nat):Int)<1:=by omega
  have Aq:¬(2048:Int)<((m+1:Nat):Int):=by omega
  have HW:=q_ A0;have Am:(w:Nat)<W:=by omega
  obtain ⟨⟨c0,c1,c2⟩,⟨c3,c4⟩,_⟩:=KC.o W (b_);clear hs A5 hy hz B0 A0 A7;go_enter func72,ntmps72;go_upto_region 1 with fail;rw [<-hW];clear hW;go_wp2_with (refine (shapes_any _).mono ?_;rintro e Y ⟨⟨g,rfl,hg⟩,hY⟩;have HY:=q_ hY;obtain ⟨⟨c0,c1,c2⟩,_,_⟩:=KC.o Y hY;clear hY);all_goals first
   | (go_ret;exact ⟨rvalv_no l v s,HW.o⟩)
   | skip
  all_goals
   clear c0 c1 c2 c3 c4;have Aj:=HY.o.size;have HG:=q_ hg.o;go_loopw [57,5] (fun i mk wr=>∃ (k:Nat) (q:Int),k<=m+1/\i=i_ k/\mk=i_ q/\Hid (0<=q/\q<=k)/\Hid (∀ (i:Nat) (x:In),i<k->l[i]?=some x->OkI l i x)/\Below Y Y wr) (fun i _ _=>m+1 - (intOf i).toNat)
   case atStart=>exact ⟨0,0,o_,rfl,rfl,q_ o_,q_ (fun i x h=>absurd h o_),b_⟩
   obtain ⟨k,q,hk,rfl,rfl,Ab,Af,hb⟩:=hrel;have Ar:IntKind.i64.wrap (q+1)=q+1:=by have:=Ab.o;rw [IntKind.wrap_i64];omega
   have A3:Below W W wr:=HY.o.trans (hb.mono Aj);obtain ⟨⟨c0,c1,c2⟩,_,A1⟩:=KC.o wr A3;by_cases hlt:k<m+1
   ·have Aa:(k:Int)<((m+1:Nat):Int):=by omega
    obtain ⟨x,hx⟩:∃ x,l[k]?=some x:=⟨_,ge_ z8_⟩;obtain ⟨x0,x1,x2,x3,x4⟩:=KX.o wr A3 k x hx;have HX:=q_ hx;have HB:=q_ hb;have A6:=q_ A1;have Au:=A3.size;have A9:(w:Nat)<wr:=by omega
    have An:ab<wr:=by have:=A1.size;omega
    obtain ⟨V,hV,A2,Ad,V0⟩:=af_ wr [i_ x.op,i_ x.a,i_ x.b,i_ x.c,i_ x.n] 202;have HV:=q_ A2;have Al:=q_ Ad;have Ai:=q_ (HS.o.up (A3.trans (A2.mono A3.size)));have Ah:=q_ (HG.o.up (hb.trans (A2.mono hb.size)));have KV:=h_ (∀ w',Below V V w'->(w'.cell? (a_ wr)=some (i_ x.op)/\w'.cell? (f_ wr 4)=some (i_ x.n))/\Below Y Y w'/\Below w w w') (fun w' hv =>
     ⟨⟨(V0.below hv).2.1 0 _ rfl,(V0.below hv).2.1 4 _ rfl⟩,HB.o.trans ((A2.mono HB.o.size).trans (hv.mono (by have:=HB.o.size;omega))),A6.o.trans ((A2.mono A6.o.size).trans (hv.mono (by have:=A6.o.size;omega)))⟩)
    clear hx hb A3 A1 A2 Ad V0;have v0:V.cell? (a_ w)=some (.slice (some (f_ ab ao)) (m+1) c):=(belc HV.o A9).trans c0;have v1:V.cell? (f_ w 1)=some (i_ v):=(belc HV.o A9).trans c1;have v2:V.cell? (f_ w 2)=some (i_ s):=(belc HV.o A9).trans c2;go_upto_region 12 with fail;rw [<-hV];clear hV c0 c1 c2 x0 x1 x2 x3 x4;go_wp2_with fail;refine (fits_any (some (f_ ab ao)) (m+1) c v s k l x g V Ai.o o_ HX.o Ah.o).mono ?_;rintro e Z ⟨⟨b,rfl,A4⟩,hZ⟩;obtain ⟨⟨z0,z4⟩,Ae,A1⟩:=KV.o Z hZ;have Ag:=q_ Ae;have Ac:=q_ A1;have HF:=q_ A4;clear hZ Ae A1 A4 v0 v1 v2;cases b with
    | false =>
     go_wp2;go_ret;exact ⟨rvalv_no l v s,Ac.o⟩
    | true =>
     have HP:=h_ (∀ (i:Nat) (x:In),i<k+1->l[i]?=some x->OkI l i x) (fun i y hi hy=>by
      by_cases hik:i=k
      ·subst hik;rw [HX.o] at hy;injection hy with hy;subst hy;exact HF.o rfl
      exact Af.o i y o_ hy)
     go_wp2;all_goals first
      | (go_ret;exact ⟨rvalv_no l v s,Ac.o⟩)
      | (go_roundw
         case rel=>exact ⟨k+1,_,o_,zb_,rfl,q_ (by have:=Ab.o;omega),HP,Ag.o⟩
         case measure=>exact me_)
   obtain rfl:k=m+1:=by omega
   have Aa:¬((m+1:Nat):Int)<((m+1:Nat):Int):=by omega
   have HP:=h_ (Good l) (⟨fun i x hx=>Af.o i x z5_ hx,xo_⟩);go_wp2;go_ret;exact ⟨⟨_,rfl,fun hh=>⟨⟨HP.o,by have:=Ab.o;simp at hh;omega⟩,o_,o_⟩⟩,A1⟩
 have Ak:n<1\/2048<n:=by omega
 obtain ⟨W,hW,A0,A7,B0⟩:=af_ w [.slice A n c,i_ v,i_ s] 26;have c0:=B0.2.1 0 _ rfl;have HW:=q_ A0;clear hs hr B0 A7 A0;go_enter func72,ntmps72;go_upto_region 1 with fail;rw [<-hW];clear hW;rcases Ak with h | h
 ·have h1:(n:Int)<1:=by omega
  go_wp2;go_ret;exact ⟨rvalv_no l v s,HW.o⟩
 have h1:¬(n:Int)<1:=by omega
 have h2:(2048:Int)<(n:Int):=by omega
 go_wp2;go_ret;exact ⟨rvalv_no l v s,HW.o⟩
theorem Valid_any (A:OA) (n c:Nat) (v s:Int) (l:List In) (w:World) (hs:Sl w w 5 In.cells A n l) (hn:n<=9000000000000) :
  Calls prog 72 #[.agg #[.slice A n c,i_ v,i_ s]] w fun e w'=>RVal l s e/\Below w w w':=by
 refine (ValidV_any A n c v s l w hs hn).mono ?_;rintro e w' ⟨⟨b,rfl,h⟩,hb⟩;exact ⟨⟨b,rfl,fun hh=>(h hh).1⟩,hb⟩
end Go.Proofs.YtfolidlmgfhkiaaGreat
