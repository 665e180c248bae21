/- Lemmas on functions of the program, under the conditions that each states. -/
import Derived.Test.YtfolidlmgfhkiaaGreatY04
set_option linter.unusedVariables false
set_option linter.unusedSimpArgs false
set_option maxRecDepth 100000
set_option maxHeartbeats 8000000
namespace Go.Proofs.YtfolidlmgfhkiaaGreat.Dl
open Go.RowKit Go.Proofs.Tryz
theorem same_any (A:OA) (n c:Nat) (A':OA) (c':Nat) (ts:List Pr) (w:World) (hs:Sl w w 3 Pr.cells A n ts) (hs':Sl w w 3 Pr.cells A' n ts) (hn:n<=1000000) :
  Calls prog 28 #[.agg #[.slice A n c],.agg #[.slice A' n c']] w fun e w'=>e=.returned (.bool true)/\Below w w w':=by
 have HN:=q_ hs.len;obtain ⟨W,hW⟩:=ex_ ((w.alloc (.cells #[.slice A n c] 73)).alloc (.cells #[.slice A' n c'] 73));have A5:Below w w W:=by rw [hW];exact (bel (b_))
 have A6:(W:Nat)=w+2:=by rw [hW];simp
 have q0:W.cell? (a_ w)=some (.slice A n c):=zs_;have q1:W.cell? (a_ (w+1))=some (.slice A' n c'):=zn_;have A7:=q_ q0;have A8:=q_ q1;have HZ:=q_ A6;have HB:=q_ A5;clear A6 q0 q1 A5;go_enter func28,ntmps28;go_wp2_with fail;rw [<-hW];have HW:=q_ hW;clear hW;go_loopw [5] (fun i wr=>∃ k:Nat,k<=n/\i=i_ k/\Below W W wr) (fun i _=>n - (intOf i).toNat)
 case atStart=>exact ⟨0,Nat.zero_le _,rfl,b_⟩
 obtain ⟨k,hk,rfl,hb⟩:=hrel;have r0:=(hb.cell (p:=(a_ w)) (by simp [HZ.o])).trans A7.o;have r1:=(hb.cell (p:=(a_ (w+1))) (by simp [HZ.o])).trans A8.o;have A1:Below w w wr:=HB.o.trans (hb.mono (by rw [HZ.o];omega));by_cases hlt:k<n
 ·obtain ⟨ab,ao,rfl,A4,A3⟩:=hs.at_ o_;obtain ⟨bb,bo,rfl,A2,A0⟩:=hs'.at_ o_;obtain ⟨t,ht⟩:∃ t,ts[k]?=some t:=⟨_,ge_ (by rw [HN.o];exact hlt)⟩;have c0:wr.cell? ⟨ab,ao+k*3,none⟩=some (i_ t.a):=(A1.cell (p:=(f_ ab _)) A4).trans (A3 k t ht 0 _ rfl);have c1:wr.cell? ⟨ab,ao+k*3+1,none⟩=some (i_ t.b):=(A1.cell (p:=(f_ ab _)) A4).trans (A3 k t ht 1 _ rfl);have c2:wr.cell? ⟨ab,ao+k*3+2,none⟩=some (i_ t.cnt):=(A1.cell (p:=(f_ ab _)) A4).trans (A3 k t ht 2 _ rfl);have d0:wr.cell? ⟨bb,bo+k*3,none⟩=some (i_ t.a):=(A1.cell (p:=(f_ bb _)) A2).trans (A0 k t ht 0 _ rfl);have d1:wr.cell? ⟨bb,bo+k*3+1,none⟩=some (i_ t.b):=(A1.cell (p:=(f_ bb _)) A2).trans (A0 k t ht 1 _ rfl);have d2:wr.cell? ⟨bb,bo+k*3+2,none⟩=some (i_ t.cnt):=(A1.cell (p:=(f_ bb _)) A2).trans (A0 k t ht 2 _ rfl);clear A3 A0 ht;go_wp2;go_quiet (fail);go_wp2;go_roundw
  case rel=>exact ⟨k+1,o_,za_,below_drewN hb _⟩
  case measure=>exact me_
 go_wp2;go_ret;exact ⟨rfl,A1⟩
end Go.Proofs.YtfolidlmgfhkiaaGreat.Dl
