/- Lemmas on functions of the program, under the conditions that each states. -/
import Derived.Test.YtfolidlmgfhkiaaGreatY05
import Derived.Test.YtfolidlmgfhkiaaGreatY10
set_option linter.unusedVariables false
set_option linter.unusedSimpArgs false
set_option maxRecDepth 100000
set_option maxHeartbeats 8000000
namespace Go.Proofs.YtfolidlmgfhkiaaGreat
open Go.RowKit Go.Proofs.Tryz
theorem fits_any (A:OA) (n c:Nat) (v s:Int) (i:Nat) (l:List In) (x:In) (g:Nat) (w:World) (hs:Sl w w 5 In.cells A n l) (hn:n<=2048) (hx:l[i]?=some x) (hsh:Sl w w 4 shCells (some (a_ g)) 22 shTab) :
  Calls prog 121 #[.agg #[.slice A n c,i_ v,i_ s],i_ i,.slice (some (a_ g)) 22 22] w fun e w'=>RFits l i x e/\Below w w w':=by
 by_cases ho:0<=x.op/\x.op<=21
 ·obtain ⟨k,hk⟩:∃ k:Nat,x.op=k:=⟨x.op.toNat,o_⟩;by_cases h13:k=13
  ·exact fits_13 A n c v s i l x g k w hs hn hx hsh hk o_ h13
  by_cases h10:k=10
  ·exact fits_10 A n c v s i l x g k w hs hn hx hsh hk o_ h10
  exact fits_O A n c v s i l x g k w hs hn hx hsh hk o_ ⟨h13,h10⟩
 have HL:=q_ hs.len;have hin:i<n:=by have:=(e_ hx).1;rw [HL.o] at this;exact this
 have A5:(i:Int)<(n:Int):=by omega
 obtain ⟨ab,ao,rfl,A2,A1⟩:=hs.at_ o_;obtain ⟨W,hW,A0,A4,B0⟩:=ag_ w [.slice (some (f_ ab ao)) n c,i_ v,i_ s] 26;have x0:W.cell? ⟨ab,ao+i*5,none⟩=some (i_ x.op):=(belc A0 A2).trans (A1 i x hx 0 _ rfl);have x1:W.cell? ⟨ab,ao+i*5+1,none⟩=some (i_ x.a):=(belc A0 A2).trans (A1 i x hx 1 _ rfl);have x2:W.cell? ⟨ab,ao+i*5+2,none⟩=some (i_ x.b):=(belc A0 A2).trans (A1 i x hx 2 _ rfl);have x3:W.cell? ⟨ab,ao+i*5+3,none⟩=some (i_ x.c):=(belc A0 A2).trans (A1 i x hx 3 _ rfl);have x4:W.cell? ⟨ab,ao+i*5+4,none⟩=some (i_ x.n):=(belc A0 A2).trans (A1 i x hx 4 _ rfl);have d0:=B0.2.1 0 _ rfl;have A3:=q_ A0;have A6:=A0.size;have o1:x.op<0\/21<x.op:=by omega
 clear ho hs A1 hx B0 A0 A4;go_enter func121,ntmps121;go_upto_region 1 with fail;rw [<-hW];clear hW;rcases o1 with o1 | o1
 ·go_wp2;go_ret;exact ⟨rfits_no l i x,(bel A3.o)⟩
 have o2:¬x.op<0:=by omega
 go_wp2;go_ret;exact ⟨rfits_no l i x,(bel A3.o)⟩
end Go.Proofs.YtfolidlmgfhkiaaGreat
