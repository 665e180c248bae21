/- Lemmas: each says what a function of the program leaves, under the conditions that it states. -/
import Derived.Test.YtfolidlmgfhkiaaGreatZ07
import Derived.Test.YtfolidlmgfhkiaaGreatZ05
set_option linter.unusedVariables false
set_option linter.unusedSimpArgs false
set_option maxRecDepth 100000
set_option maxHeartbeats 4000000
namespace Go.Proofs.YtfolidlmgfhkiaaGreat
open Go.RowKit
structure SlP (w:World) (X:NP) (K:Nat) (p:VL->Prop) (e:List CT) (A:OA) (n c:Nat):Prop where
 sl:SlT w X K e A n c
 ok:∀ k,k<n->∃ g o vs,A=some (f_ g o)/\VTs w X K e vs/\(∀ j u,vs[j]?=some u->w.cell? ⟨g,o+(k*e.length+j),none⟩=some u)/\p vs
section
variable {X Y Y':NP} {w w':World} {K K' n c k:Nat} {p:VL->Prop} {e:List CT} {A:OA} {v:Value}
theorem VT.dj_ (h:VT w X K (.lst p e) v):∃ A n c,v=.slice A n c/\SlP w X K p e A n c:=by
 cases h with
 | lnil=>exact ⟨none,0,0,rfl,⟨Nat.zero_le _,l_,o_,fun _=>⟨rfl,rfl⟩,fun _ h=>by cases h⟩,fun k hk=>o_⟩
 | lst _ _ g o n c f hg hX hn hc hm hf ht hp =>
  refine ⟨_,n,c,rfl,⟨hn,hc,hm,x_,(fun ad h=>by injection h with h;exact ⟨g,o,h.symm,hg,hX,f,hf,ht⟩)⟩,fun k hk=>⟨g,o,_,rfl,⟨by simp,fun j t hj=>⟨f k j,?_,ht k j t hk hj⟩⟩,fun j u hu=>?_,hp k hk⟩⟩
  ·have:j<e.length:=(e_ hj).1;simp [this]
  have hj:j<e.length:=by have:=(e_ hu).1;simpa using this
  simp [hj] at hu;subst hu;exact hf k j _ hk (ge_ hj)
theorem SlP.vt (h:SlP w X K p e A n c):VT w X K (.lst p e) (.slice A n c):=by
 cases A with
 | none=>obtain ⟨rfl,rfl⟩:=h.sl.nul rfl;exact .lnil p e
 | some ad =>
  obtain ⟨g,o,rfl,hg,hX,_⟩:=h.sl.at_ _ rfl;obtain ⟨l,hl,hR⟩:=list_choose (n:=n) (R:=fun k vs=>VTs w X K e vs/\(∀ j u,vs[j]?=some u->w.cell? ⟨g,o+(k*e.length+j),none⟩=some u)/\p vs) (fun k hk=>by
   obtain ⟨g',o',vs,hA,h1,h2,h3⟩:=h.ok k hk
   injection hA with hA
   injection hA with q1 q2
   subst q1 q2
   exact ⟨vs,h1,h2,h3⟩)
  refine .lst p e g o n c (fun k j=>((l[k]?).getD [])[j]?.getD undef) hg hX h.sl.le h.sl.cap h.sl.max (fun k j t hk hj=>?_) (fun k j t hk hj=>?_) (fun k hk=>?_)
  ·obtain ⟨h1,h2,h3⟩:=hR k _ (ge_ (by omega:k<l.length));obtain ⟨u,hu,_⟩:=h1.2 j t hj;rw [ge_ (by omega:k<l.length),Option.getD_some,hu];exact h2 j u hu
  ·obtain ⟨h1,h2,h3⟩:=hR k _ (ge_ (by omega:k<l.length));obtain ⟨u,hu,hv⟩:=h1.2 j t hj;rw [ge_ (by omega:k<l.length),Option.getD_some,hu];exact hv
  obtain ⟨h1,h2,h3⟩:=hR k _ (ge_ (by omega:k<l.length));rw [ge_ (by omega:k<l.length),Option.getD_some];have:(List.range e.length).map (fun j=>(l[k]'o_)[j]?.getD undef)=l[k]'o_:=by
   apply List.ext_getElem?;intro j;by_cases hj:j<e.length
   ·have A0:j<(l[k]'o_).length:=by rw [h1.1];exact hj
    rw [List.getElem?_map,List.getElem?_range hj,Option.map_some,ge_ A0,Option.getD_some]
   rw [List.getElem?_eq_none (by simp;omega),List.getElem?_eq_none (by rw [h1.1];omega)]
  rw [this];exact h3
theorem SlP.go (h:SlP w Y K p e A n c) (u:Up w Y w' Y') (hK:K<=K'):SlP w' Y' K' p e A n c:=by
 obtain ⟨A',n',c',e',h'⟩:=(h.vt.go u hK).dj_;injection e' with e1 e2 e3;subst e1 e2 e3;exact h'
theorem SlP.below (h:SlP w Y K p e A n c) (hb:Below w w w'):SlP w' Y K p e A n c:=h.go (.of_below hb) (l_)
theorem SlP.nil (w:World) (X:NP) (K:Nat) (p:VL->Prop) (e:List CT):SlP w X K p e none 0 0:=⟨⟨Nat.zero_le _,l_,o_,fun _=>⟨rfl,rfl⟩,fun _ h=>by cases h⟩,fun k hk=>o_⟩
theorem SlP.el (h:SlP w X K p e A n c) (hk:k<n):∃ g o vs,A=some (f_ g o)/\g<w/\¬X g/\VTs w X K e vs/\p vs/\∀ j u,vs[j]?=some u->w.cell? ⟨g,o+k*e.length+j,none⟩=some u:=by
 obtain ⟨g,o,vs,rfl,h1,h2,h3⟩:=h.ok k hk;obtain ⟨g',o',hA,hg,hX,_⟩:=h.sl.at_ _ rfl;injection hA with q1 q2;subst q1 q2;exact ⟨g,o,vs,rfl,hg,hX,h1,h3,fun j u hu=>by rw [Nat.add_assoc];exact h2 j u hu⟩
theorem SlP.weak {p':VL->Prop} {e':List CT} (h:SlP w X K p e A n c) (hl:e'.length=e.length) (hp:∀ vs,VTs w X K e vs->p vs->VTs w X K e' vs/\p' vs):SlP w X K p' e' A n c:=by
 have A1:∀ k,k<n->∃ g o vs,A=some (f_ g o)/\VTs w X K e' vs/\(∀ j u,vs[j]?=some u->w.cell? ⟨g,o+(k*e'.length+j),none⟩=some u)/\p' vs:=fun k hk=>by
  obtain ⟨g,o,vs,hA,h1,h2,h3⟩:=h.ok k hk;exact ⟨g,o,vs,hA,(hp vs h1 h3).1,by rw [hl];exact h2,(hp vs h1 h3).2⟩
 refine ⟨⟨h.sl.le,h.sl.cap,h.sl.max,h.sl.nul,fun ad hA=>?_⟩,A1⟩;obtain ⟨g,o,rfl,hg,hX,f,hf,ht⟩:=h.sl.at_ ad hA;refine ⟨g,o,rfl,hg,hX,f,fun k j t hk hj=>?_,fun k j t hk hj=>?_⟩
 ·rw [hl];have:j<e.length:=by rw [←hl];exact (e_ hj).1
  exact hf k j _ hk (ge_ this)
 have A2:j<e.length:=by rw [←hl];exact (e_ hj).1
 obtain ⟨g',o',vs,A0,h1,h2,h3⟩:=A1 k hk;rw [hA] at A0;injection A0 with A0;injection A0 with q1 q2;subst q1 q2;obtain ⟨u,hu,hv⟩:=h1.2 j t hj;have h4:=h2 j u hu;rw [hl,hf k j _ hk (ge_ A2)] at h4;injection h4 with h4;rw [h4];exact hv
theorem SlP.ee_ {base:Nat} {et:TypeId} {xs:VL} (ho:w.ownsRow base et e.length (.slice A n c) n xs) (hb:∀ k,X k->k<base) (hn:n<=K)
  (hx:∀ k,k<n->∃ vs,VTs w X K e vs/\(∀ j u,vs[j]?=some u->xs[k*e.length+j]?=some u)/\p vs):SlP w X K p e A n c:=by
 refine ⟨SlT.ee_ ho hb hn (fun k j t hk hj=>?_),fun k hk=>?_⟩
 ·obtain ⟨vs,h1,h2,h3⟩:=hx k hk;obtain ⟨u,hu,hv⟩:=h1.2 j t hj;exact ⟨u,h2 j u hu,hv⟩
 obtain ⟨vs,h1,h2,h3⟩:=hx k hk;rcases ho.2 with ⟨h',h''⟩ | ⟨g,cap,cur,h',_⟩
 ·exfalso;injection h' with q1 q2 q3;omega
 injection h' with q1 q2 q3;subst q1;have A0:=(own_src ho).2 _ rfl;refine ⟨g,0,vs,rfl,h1,fun j u hu=>?_,h3⟩;have:=A0 _ u (h2 j u hu)
 rwa [Addr.add_lit] at this
end
/- The shapes of programs. -/
def noP:VL->Prop:=fun _=>False
def pE (vs:VL):Prop:=∃ (kd n:Int) (s:ByteArray) (op:Int) (A:OA) (m c:Nat),vs=[i_ kd,i_ n,.string s,i_ op,.slice A m c]/\(kd=4->1<=m)/\(kd=5->2<=m)/\s.size<=100
def ay_:Nat->List CT
 | 0=>[.num,.num,.txt,.num,.lst noP []]
 | d+1=>[.num,.num,.txt,.num,.lst pE (ay_ d)]
def nameF : ByteArray := "f".toByteArray
def nameG : ByteArray := "g".toByteArray
def pS (vs:VL):Prop:=∃ (kd:Int) (s f:ByteArray) (n op:Int) (A B C:OA) (m c m1 c1 m2 c2:Nat),vs=[i_ kd,.string s,.string f,i_ n,i_ op,.slice A m c,.slice B m1 c1,.slice C m2 c2]/\(kd=5->2<=m)/\(kd=6->1<=m)/\(kd=3->f=nameF∨f=nameG)/\s.size<=100/\f.size<=100
abbrev dE:Nat:=4
def al_:Nat->List CT
 | 0=>[.num,.txt,.txt,.num,.num,.lst pE (ay_ dE),.lst noP [],.lst noP []]
 | d+1=>[.num,.txt,.txt,.num,.num,.lst pE (ay_ dE),.lst pS (al_ d),.lst pS (al_ d)]
def strP (v:Value):Prop:=∃ s:ByteArray,v=.string s/\s.size<=100
def cy_ (d:Nat):List CT:=[.sat strP,.sl [.sat strP],.lst pS (al_ d)]
section
variable {X:NP} {w:World} {K:Nat}
theorem dz_ (d:Nat):(ay_ d).length=5:=by cases d <;> rfl
theorem bz_ (d:Nat):(al_ d).length=8:=by cases d <;> rfl
theorem VTs.expr {d:Nat} {vs:VL} (h:VTs w X K (ay_ (d+1)) vs):∃ (kd n:Int) (s:ByteArray) (op:Int) (A:OA) (m c:Nat),vs=[i_ kd,i_ n,.string s,i_ op,.slice A m c]/\SlP w X K pE (ay_ d) A m c:=by
 obtain ⟨a,r1,rfl,ha,h1⟩:=h.head;obtain ⟨b,r2,rfl,hb,h2⟩:=h1.head;obtain ⟨s,r3,rfl,hs,h3⟩:=h2.head;obtain ⟨o,r4,rfl,ho,h4⟩:=h3.head;obtain ⟨l,r5,rfl,hl,h5⟩:=h4.head;obtain ⟨kd,rfl⟩:=ha.int;obtain ⟨n,rfl⟩:=hb.int;obtain ⟨s,rfl⟩:=hs.str;obtain ⟨op,rfl⟩:=ho.int;obtain ⟨A,m,c,rfl,hp⟩:=hl.dj_;rw [h5.end];exact ⟨kd,n,s,op,A,m,c,rfl,hp⟩
theorem VTs.expr0 {vs:VL} (h:VTs w X K (ay_ 0) vs):∃ (kd n:Int) (s:ByteArray) (op:Int) (A:OA) (c:Nat),vs=[i_ kd,i_ n,.string s,i_ op,.slice A 0 c]:=by
 obtain ⟨a,r1,rfl,ha,h1⟩:=h.head;obtain ⟨b,r2,rfl,hb,h2⟩:=h1.head;obtain ⟨s,r3,rfl,hs,h3⟩:=h2.head;obtain ⟨o,r4,rfl,ho,h4⟩:=h3.head;obtain ⟨l,r5,rfl,hl,h5⟩:=h4.head;obtain ⟨kd,rfl⟩:=ha.int;obtain ⟨n,rfl⟩:=hb.int;obtain ⟨s,rfl⟩:=hs.str;obtain ⟨op,rfl⟩:=ho.int;obtain ⟨A,m,c,rfl,hp⟩:=hl.dj_;have hm:m=0:=by
  rcases Nat.eq_zero_or_pos m with h | h
  ·exact h
  obtain ⟨_,_,_,_,_,_,h3⟩:=hp.ok 0 h;exact h3.elim
 subst hm;rw [h5.end];exact ⟨kd,n,s,op,A,c,rfl⟩
theorem exprT_up (d:Nat):∀ vs,VTs w X K (ay_ d) vs->pE vs->VTs w X K (ay_ (d+1)) vs/\pE vs:=by
 induction d with
 | zero =>
  intro vs h hp;refine ⟨?_,hp⟩;obtain ⟨a,r1,rfl,ha,h1⟩:=h.head;obtain ⟨b,r2,rfl,hb,h2⟩:=h1.head;obtain ⟨s,r3,rfl,hs,h3⟩:=h2.head;obtain ⟨o,r4,rfl,ho,h4⟩:=h3.head;obtain ⟨l,r5,rfl,hl,h5⟩:=h4.head;rw [h5.end];obtain ⟨A,m,c,rfl,hs⟩:=hl.dj_;have hm:m=0:=by
   rcases Nat.eq_zero_or_pos m with h | h
   ·exact h
   obtain ⟨_,_,_,_,_,_,h3⟩:=hs.ok 0 h;exact h3.elim
  subst hm;exact VTs.cons ha (VTs.cons hb (VTs.cons ‹_› (VTs.cons ho (VTs.cons (SlP.vt ⟨⟨Nat.zero_le _,Nat.zero_le _,hs.sl.max,hs.sl.nul,fun ad hA=>by
   obtain ⟨g,o,e,hg,hX,f,_⟩:=hs.sl.at_ ad hA
   exact ⟨g,o,e,hg,hX,f,fun k j t hk=>o_,fun k j t hk=>o_⟩⟩,fun k hk=>o_⟩) VTs.nil))))
 | succ d ih =>
  intro vs h hp;refine ⟨?_,hp⟩;obtain ⟨a,r1,rfl,ha,h1⟩:=h.head;obtain ⟨b,r2,rfl,hb,h2⟩:=h1.head;obtain ⟨s,r3,rfl,hs,h3⟩:=h2.head;obtain ⟨o,r4,rfl,ho,h4⟩:=h3.head;obtain ⟨l,r5,rfl,hl,h5⟩:=h4.head;rw [h5.end];obtain ⟨A,m,c,rfl,A0⟩:=hl.dj_;exact VTs.cons ha (VTs.cons hb (VTs.cons hs (VTs.cons ho (VTs.cons (A0.weak (by rw [dz_,dz_]) ih).vt VTs.nil))))
theorem exprT_le {d d':Nat} (h:d<=d') {vs:VL} (hv:VTs w X K (ay_ d) vs) (hp:pE vs):VTs w X K (ay_ d') vs:=by
 induction h with
 | refl=>exact hv
 | step _ ih=>exact (exprT_up _ vs ih hp).1
theorem VTs.stmt {d:Nat} {vs:VL} (h:VTs w X K (al_ (d+1)) vs):∃ (kd:Int) (s f:ByteArray) (n op:Int) (A B C:OA) (m c m1 c1 m2 c2:Nat),vs=[i_ kd,.string s,.string f,i_ n,i_ op,.slice A m c,.slice B m1 c1,.slice C m2 c2]/\SlP w X K pE (ay_ dE) A m c/\SlP w X K pS (al_ d) B m1 c1/\SlP w X K pS (al_ d) C m2 c2:=by
 obtain ⟨a,r1,rfl,ha,h1⟩:=h.head;obtain ⟨s,r2,rfl,hs,h2⟩:=h1.head;obtain ⟨f,r3,rfl,hf,h3⟩:=h2.head;obtain ⟨n,r4,rfl,hn,h4⟩:=h3.head;obtain ⟨o,r5,rfl,ho,h5⟩:=h4.head;obtain ⟨l,r6,rfl,hl,h6⟩:=h5.head;obtain ⟨x,r7,rfl,hx,h7⟩:=h6.head;obtain ⟨y,r8,rfl,hy,h8⟩:=h7.head;obtain ⟨kd,rfl⟩:=ha.int;obtain ⟨s,rfl⟩:=hs.str;obtain ⟨f,rfl⟩:=hf.str;obtain ⟨n,rfl⟩:=hn.int;obtain ⟨op,rfl⟩:=ho.int;obtain ⟨A,m,c,rfl,hp⟩:=hl.dj_;obtain ⟨B,m1,c1,rfl,A0⟩:=hx.dj_;obtain ⟨C,m2,c2,rfl,A1⟩:=hy.dj_;rw [h8.end];exact ⟨kd,s,f,n,op,A,B,C,m,c,m1,c1,m2,c2,rfl,hp,A0,A1⟩
theorem SlP.none_of {e:List CT} {A:OA} {n c:Nat} (h:SlP w X K noP e A n c):n=0:=by
 rcases Nat.eq_zero_or_pos n with h1 | h1
 ·exact h1
 obtain ⟨_,_,_,_,_,_,h3⟩:=h.ok 0 h1;exact h3.elim
theorem SlP.empty {p p':VL->Prop} {e e':List CT} {A:OA} {c:Nat} (h:SlP w X K p e A 0 c):SlP w X K p' e' A 0 c :=
 ⟨⟨Nat.zero_le _,Nat.zero_le _,h.sl.max,h.sl.nul,fun ad hA=>by
   obtain ⟨g,o,e,hg,hX,f,_⟩:=h.sl.at_ ad hA
   exact ⟨g,o,e,hg,hX,f,fun k j t hk=>o_,fun k j t hk=>o_⟩⟩,fun k hk=>o_⟩
theorem VTs.stmt0 {vs:VL} (h:VTs w X K (al_ 0) vs):∃ (kd:Int) (s f:ByteArray) (n op:Int) (A B C:OA) (m c c1 c2:Nat),vs=[i_ kd,.string s,.string f,i_ n,i_ op,.slice A m c,.slice B 0 c1,.slice C 0 c2]/\SlP w X K pE (ay_ dE) A m c/\SlP w X K noP [] B 0 c1/\SlP w X K noP [] C 0 c2:=by
 obtain ⟨a,r1,rfl,ha,h1⟩:=h.head;obtain ⟨s,r2,rfl,hs,h2⟩:=h1.head;obtain ⟨f,r3,rfl,hf,h3⟩:=h2.head;obtain ⟨n,r4,rfl,hn,h4⟩:=h3.head;obtain ⟨o,r5,rfl,ho,h5⟩:=h4.head;obtain ⟨l,r6,rfl,hl,h6⟩:=h5.head;obtain ⟨x,r7,rfl,hx,h7⟩:=h6.head;obtain ⟨y,r8,rfl,hy,h8⟩:=h7.head;obtain ⟨kd,rfl⟩:=ha.int;obtain ⟨s,rfl⟩:=hs.str;obtain ⟨f,rfl⟩:=hf.str;obtain ⟨n,rfl⟩:=hn.int;obtain ⟨op,rfl⟩:=ho.int;obtain ⟨A,m,c,rfl,hp⟩:=hl.dj_;obtain ⟨B,m1,c1,rfl,A0⟩:=hx.dj_;obtain ⟨C,m2,c2,rfl,A1⟩:=hy.dj_;obtain rfl:=A0.none_of;obtain rfl:=A1.none_of;rw [h8.end];exact ⟨kd,s,f,n,op,A,B,C,m,c,c1,c2,rfl,hp,A0,A1⟩
theorem vts_stmt {d:Nat} {kd:Int} {s f:ByteArray} {n op:Int} {A B C:OA} {m c m1 c1 m2 c2:Nat} (h:SlP w X K pE (ay_ dE) A m c) (h1:SlP w X K pS (al_ d) B m1 c1) (h2:SlP w X K pS (al_ d) C m2 c2):VTs w X K (al_ (d+1)) [i_ kd,.string s,.string f,i_ n,i_ op,.slice A m c,.slice B m1 c1,.slice C m2 c2] :=
 VTs.cons (.num _) (VTs.cons (.txt _) (VTs.cons (.txt _) (VTs.cons (.num _) (VTs.cons (.num _) (VTs.cons h.vt (VTs.cons h1.vt (VTs.cons h2.vt VTs.nil)))))))
theorem vts_stmt0 {kd:Int} {s f:ByteArray} {n op:Int} {A B C:OA} {m c c1 c2:Nat} (h:SlP w X K pE (ay_ dE) A m c) (h1:SlP w X K noP [] B 0 c1) (h2:SlP w X K noP [] C 0 c2):VTs w X K (al_ 0) [i_ kd,.string s,.string f,i_ n,i_ op,.slice A m c,.slice B 0 c1,.slice C 0 c2] :=
 VTs.cons (.num _) (VTs.cons (.txt _) (VTs.cons (.txt _) (VTs.cons (.num _) (VTs.cons (.num _) (VTs.cons h.vt (VTs.cons h1.vt (VTs.cons h2.vt VTs.nil)))))))
theorem stmtT_up (d:Nat):∀ vs,VTs w X K (al_ d) vs->pS vs->VTs w X K (al_ (d+1)) vs/\pS vs:=by
 induction d with
 | zero =>
  intro vs h hp;obtain ⟨kd,s,f,n,op,A,B,C,m,c,c1,c2,rfl,h1,h2,h3⟩:=h.stmt0;exact ⟨vts_stmt h1 h2.empty h3.empty,hp⟩
 | succ d ih =>
  intro vs h hp;obtain ⟨kd,s,f,n,op,A,B,C,m,c,m1,c1,m2,c2,rfl,h1,h2,h3⟩:=h.stmt;exact ⟨vts_stmt h1 (h2.weak (by rw [bz_,bz_]) ih) (h3.weak (by rw [bz_,bz_]) ih),hp⟩
theorem stmtT_le {d d':Nat} (h:d<=d') {vs:VL} (hv:VTs w X K (al_ d) vs) (hp:pS vs):VTs w X K (al_ d') vs:=by
 induction h with
 | refl=>exact hv
 | step _ ih=>exact (stmtT_up _ vs ih hp).1
end
def OwP (w:World) (base:Nat) (et:TypeId) (p:VL->Prop) (e:List CT) (X:NP) (K:Nat) (A:OA) (n c:Nat):Prop :=
 ∃ xs,w.ownsRow base et e.length (.slice A n c) n xs/\∀ k,k<n->∃ vs,VTs w (Wi X (Value.slice A n c).ownBlock) K e vs/\(∀ j u,vs[j]?=some u->xs[k*e.length+j]?=some u)/\p vs
section
variable {X Y:NP} {w w':World} {K K' base n m c d:Nat} {et:TypeId} {p:VL->Prop} {e:List CT} {A B:OA}
theorem OwP.nil (w:World) (base:Nat) (et:TypeId) (p:VL->Prop) (e:List CT) (X:NP) (K:Nat):OwP w base et p e X K none 0 0:=⟨[],World.ownsRow_nil _ _ _ _,fun k h=>absurd h o_⟩
theorem OwP.slP (h:OwP w base et p e X K A n c) (hb:∀ k,X k->k<base) (hn:n<=K):SlP w X K p e A n c:=by
 obtain ⟨xs,ho,hx⟩:=h;exact SlP.ee_ ho hb hn (fun k hk=>by obtain ⟨vs,h1,h2,h3⟩:=hx k hk;exact ⟨vs,h1.less (fun k _ h=>.inl h),h2,h3⟩)
theorem OwP.mono {base':Nat} (h:OwP w base et p e X K A n c) (hb:base'<=base):OwP w base' et p e X K A n c:=by
 obtain ⟨xs,ho,hx⟩:=h;exact ⟨xs,own_mono ho hb,hx⟩
theorem own_kp {base sz:Nat} {v:Value} {xs:VL} (ho:w.ownsRow base et sz v n xs) (hk:Kp X w w') (hb:∀ g,v.ownBlock=some g->¬X g):w'.ownsRow base et sz v n xs:=by
 refine ⟨ho.1,?_⟩;rcases ho.2 with h | ⟨g,cap,cur,hv,hg,hr,hr2⟩
 ·exact .inl h
 subst hv;have A0:g<w:=by
  rcases Nat.lt_or_ge g w with h | h
  ·exact h
  rw [Array.getElem?_eq_none h] at hr;cases hr
 exact .inr ⟨g,cap,cur,rfl,hg,(hk.block g A0 (hb g rfl)).trans hr,hr2⟩
theorem OwP.kept (h:OwP w base et p e X K A n c) (hk:Kp X w w') (hb:∀ k,X k->k<base):OwP w' base et p e X K A n c:=by
 obtain ⟨xs,ho,hx⟩:=h;have hne:∀ g,(Value.slice A n c).ownBlock=some g->¬X g:=fun g hg A1=>by have:=(an_ ho hg).1;have:=hb g A1;omega
 refine ⟨xs,own_kp ho hk hne,fun k A0=>?_⟩;obtain ⟨vs,h1,h2,h3⟩:=hx k A0;exact ⟨vs,h1.kept (hk.mono (fun k _ h=>.inl h)) (fun _ _ h=>h) (l_),h2,h3⟩
theorem OwP.below (h:OwP w base et p e X K A n c) (hb:Below w w w'):OwP w' base et p e X K A n c:=by
 obtain ⟨xs,ho,hx⟩:=h;refine ⟨xs,own_below ho hb,fun k A0=>?_⟩;obtain ⟨vs,h1,h2,h3⟩:=hx k A0;exact ⟨vs,h1.kept (Kp.of_below hb) (fun _ _ h=>h) (l_),h2,h3⟩
theorem SlP.news (h:SlP w X K p e A n c):∃ news:VL,news.length=n*e.length/\(A=none->n=0)/\(∀ ad,A=some ad->∀ (j:Nat) (u:Value),news[j]?=some u->w.cell? (ad.add j)=some u)/\(∀ u ∈ news,u.oneCell'=true) ∧
  ∀ k,k<n->∃ vs,VTs w X K e vs/\(∀ j u,vs[j]?=some u->news[k*e.length+j]?=some u)/\p vs:=by
 obtain ⟨news,n1,n2,n3,n4,n5⟩:=h.sl.news;refine ⟨news,n1,n2,n3,n4,fun k hk=>?_⟩;obtain ⟨g,o,vs,rfl,h1,h2,h3⟩:=h.ok k hk;refine ⟨vs,h1,fun j u hu=>?_,h3⟩;have hj:j<e.length:=by rw [←h1.1];exact (e_ hu).1
 obtain ⟨v,hv,_⟩:=n5 k j _ hk (ge_ hj);have h4:=n3 _ rfl _ v hv;rw [Addr.add_lit] at h4;rw [h2 j u hu] at h4;injection h4 with h4;rw [hv,h4]
theorem own_appendP {xs news:VL} {A':OA} {c':Nat} (hxs:w.ownsRow base et e.length (.slice A n c) n xs/\∀ k,k<n->∃ vs,VTs w (Wi X (Value.slice A n c).ownBlock) K e vs/\(∀ j u,vs[j]?=some u->xs[k*e.length+j]?=some u)/\p vs)
  (_hl:news.length=m*e.length) (hn:∀ k,k<m->∃ vs,VTs w (Wi X (Value.slice A n c).ownBlock) K e vs/\(∀ j u,vs[j]?=some u->news[k*e.length+j]?=some u)/\p vs)
  (hX:∀ k,X k->k<w) (ho:w'.ownsRow base et e.length (.slice A' (n+m) c') (n+m) (xs ++ news)) (hg:w.grownBy w' (Value.slice A n c).ownBlock) (hloc:∀ g,(Value.slice A' (n+m) c').ownBlock=some g->(Value.slice A n c).ownBlock=some g∨g=w) :
  OwP w' base et p e X K A' (n+m) c':=by
 have A0:xs.length=n*e.length:=hxs.1.1;have up:∀ {ts:List CT} {us:VL},VTs w (Wi X (Value.slice A n c).ownBlock) K ts us->VTs w' (Wi X (Value.slice A' (n+m) c').ownBlock) K ts us:=fun hv =>
  hv.kept ((Kp.refl _ w).grown hg (fun k hk=>.inl (.inr hk))) (fun k hk A1 hin=>by
   rcases hin with hin | hin
   ·exact A1 (.inl hin)
   rcases hloc k hin with h1 | h1
   ·exact A1 (.inr h1)
   omega) (l_)
 refine ⟨xs ++ news,ho,fun k hk=>?_⟩;by_cases hkn:k<n
 ·obtain ⟨vs,h1,h2,h3⟩:=hxs.2 k hkn;exact ⟨vs,up h1,fun j u hu=>by rw [List.getElem?_append_left (e_ (h2 j u hu)).1];exact h2 j u hu,h3⟩
 obtain ⟨vs,h1,h2,h3⟩:=hn (k - n) o_;refine ⟨vs,up h1,fun j u hu=>?_,h3⟩;have e1:k*e.length=n*e.length+(k - n)*e.length:=by rw [←Nat.add_mul];congr 1;omega
 rw [List.getElem?_append_right (by rw [A0];omega),A0,show k*e.length+j - n*e.length=(k - n)*e.length+j from by omega];exact h2 j u hu
theorem SlP.of_box {b:Nat} {cs:VL} (hB:Bx w b cs) (hX:¬X b) (hn:n<=K) (hm:n<=9223372036854775807) (h:∀ k,k<n->∃ vs,VTs w X K e vs/\(∀ j u,vs[j]?=some u->cs[k*e.length+j]?=some u)/\p vs):SlP w X K p e (some (a_ b)) n n:=by
 have A0:∀ k,k<n->∃ g o vs,(some (a_ b):OA)=some (f_ g o)/\VTs w X K e vs/\(∀ j u,vs[j]?=some u->w.cell? ⟨g,o+(k*e.length+j),none⟩=some u)/\p vs:=fun k hk=>by
  obtain ⟨vs,h1,h2,h3⟩:=h k hk;exact ⟨b,0,vs,rfl,h1,fun j u hu=>by rw [Nat.zero_add];exact hB.2.1 _ u (h2 j u hu),h3⟩
 refine ⟨⟨hn,l_,hm,x_,fun ad hA=>?_⟩,A0⟩;injection hA with hA;subst hA;obtain ⟨l,hl,hR⟩:=list_choose (n:=n) (R:=fun k vs=>VTs w X K e vs/\(∀ j u,vs[j]?=some u->cs[k*e.length+j]?=some u)) (fun k hk=>by obtain ⟨vs,h1,h2,h3⟩:=h k hk;exact ⟨vs,h1,h2⟩);refine ⟨b,0,rfl,hB.1,hX,fun k j=>((l[k]?).getD [])[j]?.getD undef,fun k j t hk hj=>?_,fun k j t hk hj=>?_⟩
 ·obtain ⟨h1,h2⟩:=hR k _ (ge_ (by omega:k<l.length));obtain ⟨u,hu,_⟩:=h1.2 j t hj;dsimp only
  rw [ge_ (by omega:k<l.length),Option.getD_some,hu,Nat.zero_add];exact hB.2.1 _ u (h2 j u hu)
 obtain ⟨h1,h2⟩:=hR k _ (ge_ (by omega:k<l.length));obtain ⟨u,hu,hv⟩:=h1.2 j t hj;dsimp only
 rw [ge_ (by omega:k<l.length),Option.getD_some,hu];exact hv
theorem SlP.one {b:Nat} {cs:VL} (hB:Bx w b cs) (hX:¬X b) (hn:1<=K) (h1:VTs w X K e cs) (h2:p cs):SlP w X K p e (some (a_ b)) 1 1 :=
 SlP.of_box hB hX hn o_ (fun k hk=>by
  obtain rfl:k=0:=by omega
  exact ⟨cs,h1,fun j u hu=>by rw [Nat.zero_mul,Nat.zero_add];exact hu,h2⟩)
theorem SlP.two {b:Nat} {us vs:VL} (hB:Bx w b (us ++ vs)) (hX:¬X b) (hn:2<=K) (h1:VTs w X K e us) (h2:p us) (h3:VTs w X K e vs) (h4:p vs):SlP w X K p e (some (a_ b)) 2 2 :=
 SlP.of_box hB hX hn o_ (fun k hk=>by
  by_cases h0:k=0
  ·subst h0
   exact ⟨us,h1,fun j u hu=>by rw [Nat.zero_mul,Nat.zero_add,List.getElem?_append_left (e_ hu).1];exact hu,h2⟩
  obtain rfl:k=1:=by omega
  exact ⟨vs,h3,fun j u hu=>by rw [Nat.one_mul,List.getElem?_append_right (by rw [h1.1];omega),h1.1,Nat.add_sub_cancel_left];exact hu,h4⟩)
theorem SlP.less (h:SlP w X K p e A n c) (hXY:∀ k,k<w.heap.size->Y k->X k):SlP w Y K p e A n c:=by
 obtain ⟨A',n',c',e',h'⟩:=(h.vt.less hXY).dj_;injection e' with e1 e2 e3;subst e1 e2 e3;exact h'
theorem SlP.kept (h:SlP w X K p e A n c) (hk:Kp X w w') (hXY:∀ k,k<w.heap.size->¬X k->¬Y k) (hK:K<=K'):SlP w' Y K' p e A n c:=by
 obtain ⟨A',n',c',e',h'⟩:=(h.vt.kept hk hXY hK).dj_;injection e' with e1 e2 e3;subst e1 e2 e3;exact h'
end
section
variable {P:Program} {w:World} {ops:Array Oper} {rest:List Oper} {o:Oper} {a:Act} {Q:Exit->Act->World->Prop} {t et:TypeId} {bytes:Nat} {p:VL->Prop} {e:List CT} {X:NP} {K base n c m d:Nat} {A B:OA}
theorem dv_ (hgd:o.guard=none) (s x:Operand) (ho:o.op=.call { callee:=.builtin .append,args:=#[s,x],argTypes:=#[t,t] }) (E:EI P t et e bytes)
  (hs:a.eval s=.slice A n c) (hown:OwP w base et p e X K A n c) (hx:a.eval x=.slice B m d) (hsrc:SlP w (Wi X (Value.slice A n c).ownBlock) K p e B m d)
  (hX:∀ k,X k->k<w) (h63:n+m<=maxLen) (hbytes:(n+m)*bytes<=140737488355328) (hbase:base<=w)
  (h:∀ A' c' w',OwP w' base et p e X K A' (n+m) c'->w.grownBy w' (Value.slice A n c).ownBlock->(∀ g,(Value.slice A' (n+m) c').ownBlock=some g->(Value.slice A n c).ownBlock=some g∨g=w)->wpList P ops Q rest (a.put o.dst (.slice A' (n+m) c')) w'):wpList P ops Q (o :: rest) a w:=by
 obtain ⟨i,z,hi,hz,A0,A1,A2⟩:=E.hi;obtain ⟨xs,h1,h2⟩:=hown;obtain ⟨news,n1,n2,n3,n4,n5⟩:=hsrc.news;exact cj_ hgd s x t ho base et i z e.length bytes E.ht hi hz A0 A1 A2 E.hsz _ n xs hs h1 B m d news hx n2 n1 n3 n4 h63 hbytes hbase (fun A' c' w' g1 g2 g3=>h A' c' w' (own_appendP ⟨h1,h2⟩ n1 n5 hX g1 g2 g3) g2 g3)
end
def Zm (d b:Nat):NP:=fun k=>k=d∨k=b
structure Mk (d b:Nat) (lp:Nat) (w:World):Prop where
 dice:Dice w d
 ne:d<b
 lt:b<w
 c0:w.cell? (a_ b)=some (pt d)
 c1:∃ left,w.cell? (f_ b 1)=some (i_ left)
 c2:w.cell? (f_ b 2)=some (i_ lp)
 c3:∃ fn,w.cell? (f_ b 3)=some (i_ fn)
 fz:∀ j,w.frozen? (f_ b j)=false
section
variable {d b lp:Nat} {w w' w2:World}
theorem Mk.below (h:Mk d b lp w) (hb:Below w w w'):Mk d b lp w':=by
 obtain ⟨l,h1⟩:=h.c1;obtain ⟨f,h3⟩:=h.c3;exact ⟨h.dice.below hb,h.ne,lt_ h.lt hb.size,(belc hb h.lt).trans h.c0,⟨l,(belc hb h.lt).trans h1⟩,(belc hb h.lt).trans h.c2,⟨f,(belc hb h.lt).trans h3⟩,fun j=>(belf hb h.lt).trans (h.fz j)⟩
theorem Mk.thrown (h:Mk d b lp w) (ht:cx_ w d w'):Mk d b lp w':=by
 have hne:b≠d:=by have:=h.ne;omega
 obtain ⟨l,h1⟩:=h.c1;obtain ⟨f,h3⟩:=h.c3;exact ⟨ht.dice,h.ne,lt_ h.lt ht.size,(ht.cell h.lt hne).trans h.c0,⟨l,(ht.cell h.lt hne).trans h1⟩,(ht.cell h.lt hne).trans h.c2,⟨f,(ht.cell h.lt hne).trans h3⟩,fun j=>(ht.frozen h.lt hne).trans (h.fz j)⟩
theorem cx_.kp (ht:cx_ w d w') (b:Nat):Kp (Zm d b) w w':=(Kp.refl _ w).grown ht.grown (fun k hk=>by injection hk with hk;exact .inl (.inl hk.symm))
theorem Mk.set1 (h:Mk d b lp w) (x:Int):Mk d b lp (w.setCell (f_ b 1) (i_ x)):=by
 obtain ⟨l,h1⟩:=h.c1;obtain ⟨f,h3⟩:=h.c3;have hs:∀ j,j≠1->(w.setCell (f_ b 1) (i_ x)).cell? (f_ b j)=w.cell? (f_ b j):=fun j hj=>be_ _ _ _ _ (by intro e;injection e with e1 e2;omega)
 refine ⟨?_,h.ne,by simpa [World.setCell] using h.lt,(hs 0 o_).trans h.c0,⟨x,World.cell?_setCell_same _ _ _ h1⟩,(hs 2 o_).trans h.c2,⟨f,(hs 3 o_).trans h3⟩,fun j=>(World.frozen?_setCell ..).trans (h.fz j)⟩;exact h.dice.set (p:=(f_ b 1)) h.ne _
theorem Mk.set2 (h:Mk d b lp w) (x:Nat):Mk d b x (w.setCell (f_ b 2) (i_ x)):=by
 obtain ⟨l,h1⟩:=h.c1;obtain ⟨f,h3⟩:=h.c3;have hs:∀ j,j≠2->(w.setCell (f_ b 2) (i_ x)).cell? (f_ b j)=w.cell? (f_ b j):=fun j hj=>be_ _ _ _ _ (by intro e;injection e with e1 e2;omega)
 refine ⟨?_,h.ne,by simpa [World.setCell] using h.lt,(hs 0 o_).trans h.c0,⟨l,(hs 1 o_).trans h1⟩,World.cell?_setCell_same _ _ _ h.c2,⟨f,(hs 3 o_).trans h3⟩,fun j=>(World.frozen?_setCell ..).trans (h.fz j)⟩;exact h.dice.set (p:=(f_ b 2)) h.ne _
theorem Mk.set3 (h:Mk d b lp w) (x:Int):Mk d b lp (w.setCell (f_ b 3) (i_ x)):=by
 obtain ⟨l,h1⟩:=h.c1;obtain ⟨f,h3⟩:=h.c3;have hs:∀ j,j≠3->(w.setCell (f_ b 3) (i_ x)).cell? (f_ b j)=w.cell? (f_ b j):=fun j hj=>be_ _ _ _ _ (by intro e;injection e with e1 e2;omega)
 refine ⟨?_,h.ne,by simpa [World.setCell] using h.lt,(hs 0 o_).trans h.c0,⟨l,(hs 1 o_).trans h1⟩,(hs 2 o_).trans h.c2,⟨x,World.cell?_setCell_same _ _ _ h3⟩,fun j=>(World.frozen?_setCell ..).trans (h.fz j)⟩;exact h.dice.set (p:=(f_ b 3)) h.ne _
theorem Kp.setm {X:NP} (h:Kp (Zm d b) w w') (j:Nat) (v:Value):Kp (Zm d b) w (w'.setCell (f_ b j) v):=h.setCell (p:=(f_ b j)) (.inl (.inr rfl)) v
theorem Mk.nz (h:Mk d b lp w):¬Zm d b w:=fun e=>by
 have:=h.dice.lt;have:=h.lt;rcases e with e | e <;> omega
theorem Mk.zlt (h:Mk d b lp w):∀ k,Zm d b k->k<w:=fun k hk=>by
 have:=h.dice.lt;have:=h.lt;rcases hk with rfl | rfl <;> assumption
end
structure Md (d b lp:Nat) (w w':World):Prop where
 ok:Mk d b lp w'
 kp:Kp (Zm d b) w w'
section
variable {d b lp:Nat} {w w' w2:World}
theorem Md.trans (h:Md d b lp w w') (h2:Md d b lp w' w2):Md d b lp w w2:=⟨h2.ok,h.kp.trans h2.kp⟩
theorem Md.below (h:Md d b lp w w') (hb:Below w' w' w2):Md d b lp w w2:=⟨h.ok.below hb,h.kp.bc_ hb⟩
theorem Md.set1 (h:Md d b lp w w') (x:Int):Md d b lp w (w'.setCell (f_ b 1) (i_ x)):=⟨h.ok.set1 x,h.kp.setCell (p:=(f_ b 1)) (.inl (.inr rfl)) _⟩
theorem Md.new (h:Md d b lp w w') {p:Addr} (hp:w<=p.block) (hb:b<p.block) (u:Value):Md d b lp w (w'.setCell p u):=by
 have hd:=h.ok.ne;have hs:∀ j,(w'.setCell p u).cell? (f_ b j)=w'.cell? (f_ b j):=fun j=>be_ _ _ _ _ (by intro e;rw [e] at hb;exact Nat.lt_irrefl _ hb)
 obtain ⟨l,h1⟩:=h.ok.c1;obtain ⟨f,h3⟩:=h.ok.c3;exact ⟨⟨h.ok.dice.set o_ u,hd,by simpa [World.setCell] using h.ok.lt,(hs 0).trans h.ok.c0,⟨l,(hs 1).trans h1⟩,(hs 2).trans h.ok.c2,⟨f,(hs 3).trans h3⟩,fun j=>(World.frozen?_setCell ..).trans (h.ok.fz j)⟩,h.kp.setCell (.inr hp) u⟩
end
def exL (kd n:Int) (s:ByteArray) (op:Int) (A:OA) (m c:Nat):VL:=[i_ kd,i_ n,.string s,i_ op,.slice A m c]
def stL (kd:Int) (s f:ByteArray) (n op:Int) (A:OA) (m c:Nat) (B:OA) (m1 c1:Nat) (C:OA) (m2 c2:Nat):VL:=[i_ kd,.string s,.string f,i_ n,i_ op,.slice A m c,.slice B m1 c1,.slice C m2 c2]
def RE (X:NP) (d:Nat) (e:Ending) (w:World):Prop:=∃ (kd n:Int) (s:ByteArray) (op:Int) (A:OA) (m c:Nat),e=.returned (.agg #[i_ kd,i_ n,.string s,i_ op,.slice A m c])/\Hid (VTs w X 20 (ay_ d) (exL kd n s op A m c)/\pE (exL kd n s op A m c))
def RS (X:NP) (d:Nat) (e:Ending) (w:World):Prop:=∃ (kd:Int) (s f:ByteArray) (n op:Int) (A:OA) (m c:Nat) (B:OA) (m1 c1:Nat) (C:OA) (m2 c2:Nat),e=.returned (.agg #[i_ kd,.string s,.string f,i_ n,i_ op,.slice A m c,.slice B m1 c1,.slice C m2 c2])/\Hid (VTs w X 20 (al_ d) (stL kd s f n op A m c B m1 c1 C m2 c2)/\pS (stL kd s f n op A m c B m1 c1 C m2 c2))
section
variable {X:NP} {w w':World} {d d':Nat}
theorem vts_ex0 (kd n:Int) (s:ByteArray) (op:Int):VTs w X 20 (ay_ 0) (exL kd n s op none 0 0):=VTs.cons (.num _) (VTs.cons (.num _) (VTs.cons (.txt _) (VTs.cons (.num _) (VTs.cons (SlP.nil _ _ _ _ _).vt VTs.nil))))
theorem vts_ex {kd n:Int} {s:ByteArray} {op:Int} {A:OA} {m c:Nat} (h:SlP w X 20 pE (ay_ d) A m c):VTs w X 20 (ay_ (d+1)) (exL kd n s op A m c):=VTs.cons (.num _) (VTs.cons (.num _) (VTs.cons (.txt _) (VTs.cons (.num _) (VTs.cons h.vt VTs.nil))))
theorem pE_ex {kd n:Int} {s:ByteArray} {op:Int} {A:OA} {m c:Nat} (h4:kd=4->1<=m) (h5:kd=5->2<=m) (hs:s.size<=100):pE (exL kd n s op A m c):=⟨kd,n,s,op,A,m,c,rfl,h4,h5,hs⟩
theorem pS_st {kd:Int} {s f:ByteArray} {n op:Int} {A B C:OA} {m c m1 c1 m2 c2:Nat} (h5:kd=5->2<=m) (h6:kd=6->1<=m) (h3:kd=3->f=nameF∨f=nameG) (hs:s.size<=100) (hf:f.size<=100):pS (stL kd s f n op A m c B m1 c1 C m2 c2):=⟨kd,s,f,n,op,A,B,C,m,c,m1,c1,m2,c2,rfl,h5,h6,h3,hs,hf⟩
theorem vts_st {kd:Int} {s f:ByteArray} {n op:Int} {A B C:OA} {m c m1 c1 m2 c2:Nat} (h:SlP w X 20 pE (ay_ dE) A m c) (h1:SlP w X 20 pS (al_ d) B m1 c1) (h2:SlP w X 20 pS (al_ d) C m2 c2):VTs w X 20 (al_ (d+1)) (stL kd s f n op A m c B m1 c1 C m2 c2):=vts_stmt h h1 h2
theorem eb_ {kd:Int} {s f:ByteArray} {n op:Int} {A:OA} {m c:Nat} (h:SlP w X 20 pE (ay_ dE) A m c):VTs w X 20 (al_ 0) (stL kd s f n op A m c none 0 0 none 0 0):=vts_stmt0 h (SlP.nil _ _ _ _ _) (SlP.nil _ _ _ _ _)
end
end Go.Proofs.YtfolidlmgfhkiaaGreat
