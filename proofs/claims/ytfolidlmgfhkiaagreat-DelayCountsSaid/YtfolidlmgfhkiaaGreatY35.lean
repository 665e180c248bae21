/- Lemmas on functions of the program, under the conditions that each states. -/
import Derived.Test.YtfolidlmgfhkiaaGreatY13
import Derived.Test.YtfolidlmgfhkiaaGreatY34
set_option linter.unusedVariables false
set_option linter.unusedSimpArgs false
set_option maxRecDepth 100000
set_option maxHeartbeats 4000000
namespace Go.Proofs.YtfolidlmgfhkiaaGreat.Dl
open Go.RowKit
structure Dn (w0:World) (d bx bq:Nat) (vs:VL) (l:List Tk) (A:OA) (n c:Nat) (ts:List Pr) (QA:OA) (qc:Nat) (w:World):Prop where
 dice:Dice w d
 w0d:w0<=d
 dq:d<bq
 qx:bq<bx
 x:Bx w bx vs
 x15:vs[15]?=some (.slice A n c)
 cap:n<=c
 n16:n<=16
 tk:Sl w w 48 Tk.cells A n l
 tkA:0<n->∀ ad,A=some ad->ad.block≠d/\ad.block≠bq
 q:Bx w bq [.slice QA ts.length qc]
 pr:Sl w w 3 Pr.cells QA ts.length ts
 prA:∀ ad,QA=some ad->ad.block≠d/\ad.block≠bq
 good:Good ts
 le:ts.length<=256
 bel:Below w0 w0 w
section
variable {w0 w w1:World} {d bx bq n c qc:Nat} {vs:VL} {l:List Tk} {A QA:OA} {ts:List Pr}
theorem Dn.kp (h:Dn w0 d bx bq vs l A n c ts QA qc w) (hk:Kp (fun q=>q=d) w w1) (hD:Dice w1 d):Dn w0 d bx bq vs l A n c ts QA qc w1 :=
 ⟨hD,h.w0d,h.dq,h.qx,h.x.kp hk (fun e=>by have e:bx=d:=e;have:=h.dq;have:=h.qx;omega),h.x15,h.cap,h.n16,sl_kp h.tk hk (fun hn ad ha=>(h.tkA hn ad ha).1),h.tkA,h.q.kp hk (fun e=>by have e:bq=d:=e;have:=h.dq;omega),sl_kp h.pr hk (fun _ ad ha=>(h.prA ad ha).1),h.prA,h.good,h.le,
   h.bel.trans (hk.below h.bel.size (fun q hq e=>by have e:q=d:=e;have:=h.w0d;omega))⟩
theorem Dn.pick (h:Dn w0 d bx bq vs l A n c ts QA qc w) (ht:ct_ w d w1):Dn w0 d bx bq vs l A n c ts QA qc w1 :=
 h.kp ((Kp.refl _ w).grown ht.grown (fun q hq=>by injection hq with hq;exact .inl hq.symm)) ht.dice
theorem Dn.below (h:Dn w0 d bx bq vs l A n c ts QA qc w) (hb:Below w w w1):Dn w0 d bx bq vs l A n c ts QA qc w1:=h.kp (.of_below hb) (h.dice.below hb)
theorem Dn.put (h:Dn w0 d bx bq vs l A n c ts QA qc w) (hb:Below w w w1) {A':OA} {n' c':Nat} {ts':List Pr} (hs:Sl w1 w1 3 Pr.cells A' n' ts') (hA:∀ ad,A'=some ad->w<=ad.block\/QA=some ad) (hg:Good ts') (hl:ts'.length<=256) :
  Dn w0 d bx bq vs l A n c ts' A' c' (w1.setCell (a_ bq) (.slice A' n' c')):=by
 have h1:=h.below hb;have A3:bq<w:=h.q.1;have A2:n'=ts'.length:=hs.len.symm;subst A2;have hk:Kp (fun q=>q=bq) w1 (w1.setCell (a_ bq) (.slice A' ts'.length c')):=(Kp.refl (fun q=>q=bq) w1).setCell (p:=(a_ bq)) (.inl rfl) _;have A1:=h.dq;have A4:=h.qx;have A0:∀ ad,A'=some ad->ad.block≠d/\ad.block≠bq:=fun ad ha=>by
  rcases hA ad ha with h2 | h2
  ·exact ⟨o_,o_⟩
  exact h.prA ad h2
 exact ⟨h1.dice.set (p:=(a_ bq)) A1 _,h.w0d,h.dq,h.qx,h1.x.far (p:=(a_ bq)) (fun e=>by have e:bq=bx:=e;omega) _,h.x15,h.cap,h.n16,sl_kp h1.tk hk (fun hn ad ha=>(h.tkA hn ad ha).2),h.tkA,h1.q.set 0 _,sl_kp hs hk (fun _ ad ha e=>(A0 ad ha).2 e),A0,hg,hl,h1.bel.setCell (p:=(a_ bq)) (by show _<=bq;have:=h.w0d;omega) _⟩
theorem Dn.start (h:Dn w0 d bx bq vs l A n c ts QA qc w) {k:Nat} (hk:k<n):∃ g o t,A=some (f_ g o)/\l[k]?=some t/\w.cell? ⟨g,o+k*48,none⟩=some (i_ t.start):=by
 obtain ⟨g,o,e,_,hc⟩:=h.tk.at_ o_;obtain ⟨t,ht⟩:∃ t,l[k]?=some t:=⟨_,ge_ (by rw [h.tk.len];exact hk)⟩;refine ⟨g,o,t,e,ht,?_⟩;have:=hc k t ht 0 _ t.c0
 simpa using this
end
def mb (k:Nat):Int:=29 / 2 ^ k
theorem mb_next {k:Nat} (h:k<8):mb k<=2*mb (k+1)+1:=by
 have:∀ k<8,mb k<=2*mb (k+1)+1:=by decide
 exact this k h
end Go.Proofs.YtfolidlmgfhkiaaGreat.Dl
