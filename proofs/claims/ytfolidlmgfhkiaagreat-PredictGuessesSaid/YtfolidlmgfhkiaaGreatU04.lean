/- Lemmas on functions of the program, under the conditions that each states. -/
import Derived.Test.YtfolidlmgfhkiaaGreatU03
import Derived.MapKept
import Derived.Carry
set_option linter.unusedVariables false
set_option linter.unusedSimpArgs false
set_option maxRecDepth 100000
set_option maxHeartbeats 4000000
namespace Go.Proofs.YtfolidlmgfhkiaaGreat
open Go.RowKit
structure SlP (w:World) (X:NP) (K:Nat) (p:VL->Prop) (e:List CT) (A:OA) (n c:Nat):Prop where
 sl:SlT w X K e A n c
 ok:∀ k,k<n->∃ g o vs,A=some (f_ g o)/\VTs w X K e vs/\(∀ j u,vs[j]?=some u->w.cell? ⟨g,o+(k*e.length+j),none⟩=some u)/\p vs
section
variable {X Y Y':NP} {w w':World} {K K' n c k:Nat} {p:VL->Prop} {e:List CT} {A:OA} {v:Value}
theorem VT.dm_ (h:VT w X K (.lst p e) v):∃ A n c,v=.slice A n c/\SlP w X K p e A n c:=by
 cases h with
 | lnil=>exact ⟨none,0,0,rfl,⟨Nat.zero_le _,l_,o_,fun _=>⟨rfl,rfl⟩,fun _ h=>by cases h⟩,fun k hk=>o_⟩
 | lst _ _ g o n c f hg hX hn hc hm hf ht hp =>
  refine ⟨_,n,c,rfl,⟨hn,hc,hm,x_,(fun ad h=>by injection h with h;exact ⟨g,o,h.symm,hg,hX,f,hf,ht⟩)⟩,fun k hk=>⟨g,o,_,rfl,⟨zm_,fun j t hj=>⟨f k j,?_,ht k j t hk hj⟩⟩,fun j u hu=>?_,hp k hk⟩⟩
  ·have:j<e.length:=(e_ hj).1;simp [this]
  have hj:j<e.length:=by have:=(e_ hu).1;simpa using this
  simp [hj] at hu;subst hu;exact hf k j _ hk (ge_ hj)
theorem SlP.vt (h:SlP w X K p e A n c):VT w X K (.lst p e) (.slice A n c):=by
 cases A with
 | none=>obtain ⟨rfl,rfl⟩:=h.sl.nul rfl;exact .lnil p e
 | some ad =>
  obtain ⟨g,o,rfl,hg,hX,_⟩:=h.sl.at_ _ rfl;obtain ⟨l,hl,hR⟩:=list_choose (n:=n) (R:=fun k vs=>VTs w X K e vs/\(∀ j u,vs[j]?=some u->w.cell? ⟨g,o+(k*e.length+j),none⟩=some u)/\p vs) (fun k hk=>by
   obtain ⟨g',o',vs,hA,h1,h2,h3⟩:=h.ok k hk
   injection hA with hA
   injection hA with q1 q2
   subst q1 q2
   exact ⟨vs,h1,h2,h3⟩)
  refine .lst p e g o n c (fun k j=>((l[k]?).getD [])[j]?.getD undef) hg hX h.sl.le h.sl.cap h.sl.max (fun k j t hk hj=>?_) (fun k j t hk hj=>?_) (fun k hk=>?_)
  ·obtain ⟨h1,h2,h3⟩:=hR k _ (ge_ (by omega:k<l.length));obtain ⟨u,hu,_⟩:=h1.2 j t hj;rw [ge_ (by omega:k<l.length),Option.getD_some,hu];exact h2 j u hu
  ·obtain ⟨h1,h2,h3⟩:=hR k _ (ge_ (by omega:k<l.length));obtain ⟨u,hu,hv⟩:=h1.2 j t hj;rw [ge_ (by omega:k<l.length),Option.getD_some,hu];exact hv
  obtain ⟨h1,h2,h3⟩:=hR k _ (ge_ (by omega:k<l.length));rw [ge_ (by omega:k<l.length),Option.getD_some];have:(List.range e.length).map (fun j=>(l[k]'o_)[j]?.getD undef)=l[k]'o_:=by
   apply List.ext_getElem?;intro j;by_cases hj:j<e.length
   ·have A0:j<(l[k]'o_).length:=by rw [h1.1];exact hj
    rw [List.getElem?_map,List.getElem?_range hj,Option.map_some,ge_ A0,Option.getD_some]
   rw [List.getElem?_eq_none za_,List.getElem?_eq_none (by rw [h1.1];omega)]
  rw [this];exact h3
theorem SlP.go (h:SlP w Y K p e A n c) (u:Up w Y w' Y') (hK:K<=K'):SlP w' Y' K' p e A n c:=by
 obtain ⟨A',n',c',e',h'⟩:=(h.vt.go u hK).dm_;exact uh_
theorem SlP.below (h:SlP w Y K p e A n c) (hb:Below w w w'):SlP w' Y K p e A n c:=h.go (.of_below hb) (l_)
theorem SlP.nil (w:World) (X:NP) (K:Nat) (p:VL->Prop) (e:List CT):SlP w X K p e none 0 0:=⟨⟨Nat.zero_le _,l_,o_,fun _=>⟨rfl,rfl⟩,fun _ h=>by cases h⟩,fun k hk=>o_⟩
theorem SlP.el (h:SlP w X K p e A n c) (hk:k<n):∃ g o vs,A=some (f_ g o)/\g<w/\¬X g/\VTs w X K e vs/\p vs/\∀ j u,vs[j]?=some u->w.cell? ⟨g,o+k*e.length+j,none⟩=some u:=by
 obtain ⟨g,o,vs,rfl,h1,h2,h3⟩:=h.ok k hk;obtain ⟨g',o',hA,hg,hX,_⟩:=h.sl.at_ _ rfl;injection hA with q1 q2;subst q1 q2;exact ⟨g,o,vs,rfl,hg,hX,h1,h3,fun j u hu=>by rw [Nat.add_assoc];exact h2 j u hu⟩
theorem SlP.weak {p':VL->Prop} {e':List CT} (h:SlP w X K p e A n c) (hl:e'.length=e.length) (hp:∀ vs,VTs w X K e vs->p vs->VTs w X K e' vs/\p' vs):SlP w X K p' e' A n c:=by
 have A1:∀ k,k<n->∃ g o vs,A=some (f_ g o)/\VTs w X K e' vs/\(∀ j u,vs[j]?=some u->w.cell? ⟨g,o+(k*e'.length+j),none⟩=some u)/\p' vs:=fun k hk=>by
  obtain ⟨g,o,vs,hA,h1,h2,h3⟩:=h.ok k hk;exact ⟨g,o,vs,hA,(hp vs h1 h3).1,by rw [hl];exact h2,(hp vs h1 h3).2⟩
 refine ⟨⟨h.sl.le,h.sl.cap,h.sl.max,h.sl.nul,fun ad hA=>?_⟩,A1⟩;obtain ⟨g,o,rfl,hg,hX,f,hf,ht⟩:=h.sl.at_ ad hA;refine ⟨g,o,rfl,hg,hX,f,fun k j t hk hj=>?_,fun k j t hk hj=>?_⟩
 ·rw [hl];have:j<e.length:=by rw [<-hl];exact (e_ hj).1
  exact hf k j _ hk (ge_ this)
 have A2:j<e.length:=by rw [<-hl];exact (e_ hj).1
 obtain ⟨g',o',vs,A0,h1,h2,h3⟩:=A1 k hk;rw [hA] at A0;injection A0 with A0;injection A0 with q1 q2;subst q1 q2;obtain ⟨u,hu,hv⟩:=h1.2 j t hj;have h4:=h2 j u hu;rw [hl,hf k j _ hk (ge_ A2)] at h4;injection h4 with h4;rw [h4];exact hv
theorem SlP.cs_ {base:Nat} {et:TypeId} {xs:VL} (ho:w.ownsRow base et e.length (.slice A n c) n xs) (hb:∀ k,X k->k<base) (hn:n<=K)
  (hx:∀ k,k<n->∃ vs,VTs w X K e vs/\(∀ j u,vs[j]?=some u->xs[k*e.length+j]?=some u)/\p vs):SlP w X K p e A n c:=by
 refine ⟨SlT.cs_ ho hb hn (fun k j t hk hj=>?_),fun k hk=>?_⟩
 ·obtain ⟨vs,h1,h2,h3⟩:=hx k hk;obtain ⟨u,hu,hv⟩:=h1.2 j t hj;exact ⟨u,h2 j u hu,hv⟩
 obtain ⟨vs,h1,h2,h3⟩:=hx k hk;rcases ho.2 with ⟨h',h''⟩ | ⟨g,cap,cur,h',_⟩
 ·exfalso;injection h' with q1 q2 q3;omega
 injection h' with q1 q2 q3;subst q1;have A0:=(own_src ho).2 _ rfl;refine ⟨g,0,vs,rfl,h1,fun j u hu=>?_,h3⟩;have:=A0 _ u (h2 j u hu)
 rwa [Addr.add_lit] at this
end
/- The shapes of programs. -/
def noP:VL->Prop:=fun _=>False
def pE (vs:VL):Prop:=∃ (kd n:Int) (s:ByteArray) (op:Int) (A:OA) (m c:Nat),vs=[i_ kd,i_ n,.string s,i_ op,.slice A m c]/\(kd=4->1<=m)/\(kd=5->2<=m)/\s.size<=100
def be_:Nat->List CT
 | 0=>[.num,.num,.txt,.num,.lst noP []]
 | d+1=>[.num,.num,.txt,.num,.lst pE (be_ d)]
def nameF : ByteArray := "f".toByteArray
def nameG : ByteArray := "g".toByteArray
def pS (vs:VL):Prop:=∃ (kd:Int) (s f:ByteArray) (n op:Int) (A B C:OA) (m c m1 c1 m2 c2:Nat),vs=[i_ kd,.string s,.string f,i_ n,i_ op,.slice A m c,.slice B m1 c1,.slice C m2 c2]/\(kd=5->2<=m)/\(kd=6->1<=m)/\(kd=3->f=nameF\/f=nameG)/\s.size<=100/\f.size<=100
abbrev dE:Nat:=4
def ag_:Nat->List CT
 | 0=>[.num,.txt,.txt,.num,.num,.lst pE (be_ dE),.lst noP [],.lst noP []]
 | d+1=>[.num,.txt,.txt,.num,.num,.lst pE (be_ dE),.lst pS (ag_ d),.lst pS (ag_ d)]
def strP (v:Value):Prop:=∃ s:ByteArray,v=.string s/\s.size<=100
def dc_ (d:Nat):List CT:=[.sat strP,.sl [.sat strP],.lst pS (ag_ d)]
section
variable {X:NP} {w:World} {K:Nat}
theorem ee_ (d:Nat):(be_ d).length=5:=by cases d <;> rfl
theorem ca_ (d:Nat):(ag_ d).length=8:=by cases d <;> rfl
theorem VTs.expr {d:Nat} {vs:VL} (h:VTs w X K (be_ (d+1)) vs):∃ (kd n:Int) (s:ByteArray) (op:Int) (A:OA) (m c:Nat),vs=[i_ kd,i_ n,.string s,i_ op,.slice A m c]/\SlP w X K pE (be_ d) A m c:=by
 obtain ⟨a,r1,rfl,ha,h1⟩:=h.head;obtain ⟨b,r2,rfl,hb,h2⟩:=h1.head;obtain ⟨s,r3,rfl,hs,h3⟩:=h2.head;obtain ⟨o,r4,rfl,ho,h4⟩:=h3.head;obtain ⟨l,r5,rfl,hl,h5⟩:=h4.head;obtain ⟨kd,rfl⟩:=ha.int;obtain ⟨n,rfl⟩:=hb.int;obtain ⟨s,rfl⟩:=hs.str;obtain ⟨op,rfl⟩:=ho.int;obtain ⟨A,m,c,rfl,hp⟩:=hl.dm_;rw [h5.end];exact ⟨kd,n,s,op,A,m,c,rfl,hp⟩
theorem VTs.expr0 {vs:VL} (h:VTs w X K (be_ 0) vs):∃ (kd n:Int) (s:ByteArray) (op:Int) (A:OA) (c:Nat),vs=[i_ kd,i_ n,.string s,i_ op,.slice A 0 c]:=by
 obtain ⟨a,r1,rfl,ha,h1⟩:=h.head;obtain ⟨b,r2,rfl,hb,h2⟩:=h1.head;obtain ⟨s,r3,rfl,hs,h3⟩:=h2.head;obtain ⟨o,r4,rfl,ho,h4⟩:=h3.head;obtain ⟨l,r5,rfl,hl,h5⟩:=h4.head;obtain ⟨kd,rfl⟩:=ha.int;obtain ⟨n,rfl⟩:=hb.int;obtain ⟨s,rfl⟩:=hs.str;obtain ⟨op,rfl⟩:=ho.int;obtain ⟨A,m,c,rfl,hp⟩:=hl.dm_;have hm:m=0:=by
  rcases Nat.eq_zero_or_pos m with h | h
  ·exact h
  obtain ⟨_,_,_,_,_,_,h3⟩:=hp.ok 0 h;exact h3.elim
 subst hm;rw [h5.end];exact ⟨kd,n,s,op,A,c,rfl⟩
theorem exprT_up (d:Nat):∀ vs,VTs w X K (be_ d) vs->pE vs->VTs w X K (be_ (d+1)) vs/\pE vs:=by
 induction d with
 | zero =>
  intro vs h hp;refine ⟨?_,hp⟩;obtain ⟨a,r1,rfl,ha,h1⟩:=h.head;obtain ⟨b,r2,rfl,hb,h2⟩:=h1.head;obtain ⟨s,r3,rfl,hs,h3⟩:=h2.head;obtain ⟨o,r4,rfl,ho,h4⟩:=h3.head;obtain ⟨l,r5,rfl,hl,h5⟩:=h4.head;rw [h5.end];obtain ⟨A,m,c,rfl,hs⟩:=hl.dm_;have hm:m=0:=by
   rcases Nat.eq_zero_or_pos m with h | h
   ·exact h
   obtain ⟨_,_,_,_,_,_,h3⟩:=hs.ok 0 h;exact h3.elim
  subst hm;exact VTs.cons ha (VTs.cons hb (VTs.cons ‹_› (VTs.cons ho (VTs.cons (SlP.vt ⟨⟨Nat.zero_le _,Nat.zero_le _,hs.sl.max,hs.sl.nul,fun ad hA=>by
   obtain ⟨g,o,e,hg,hX,f,_⟩:=hs.sl.at_ ad hA
   exact ⟨g,o,e,hg,hX,f,fun k j t hk=>o_,fun k j t hk=>o_⟩⟩,fun k hk=>o_⟩) VTs.nil))))
 | succ d ih =>
  intro vs h hp;refine ⟨?_,hp⟩;obtain ⟨a,r1,rfl,ha,h1⟩:=h.head;obtain ⟨b,r2,rfl,hb,h2⟩:=h1.head;obtain ⟨s,r3,rfl,hs,h3⟩:=h2.head;obtain ⟨o,r4,rfl,ho,h4⟩:=h3.head;obtain ⟨l,r5,rfl,hl,h5⟩:=h4.head;rw [h5.end];obtain ⟨A,m,c,rfl,A0⟩:=hl.dm_;exact VTs.cons ha (VTs.cons hb (VTs.cons hs (VTs.cons ho (VTs.cons (A0.weak (by rw [ee_,ee_]) ih).vt VTs.nil))))
theorem exprT_le {d d':Nat} (h:d<=d') {vs:VL} (hv:VTs w X K (be_ d) vs) (hp:pE vs):VTs w X K (be_ d') vs:=by
 induction h with
 | refl=>exact hv
 | step _ ih=>exact (exprT_up _ vs ih hp).1
theorem VTs.stmt {d:Nat} {vs:VL} (h:VTs w X K (ag_ (d+1)) vs):∃ (kd:Int) (s f:ByteArray) (n op:Int) (A B C:OA) (m c m1 c1 m2 c2:Nat),vs=[i_ kd,.string s,.string f,i_ n,i_ op,.slice A m c,.slice B m1 c1,.slice C m2 c2]/\SlP w X K pE (be_ dE) A m c/\SlP w X K pS (ag_ d) B m1 c1/\SlP w X K pS (ag_ d) C m2 c2:=by
 obtain ⟨a,r1,rfl,ha,h1⟩:=h.head;obtain ⟨s,r2,rfl,hs,h2⟩:=h1.head;obtain ⟨f,r3,rfl,hf,h3⟩:=h2.head;obtain ⟨n,r4,rfl,hn,h4⟩:=h3.head;obtain ⟨o,r5,rfl,ho,h5⟩:=h4.head;obtain ⟨l,r6,rfl,hl,h6⟩:=h5.head;obtain ⟨x,r7,rfl,hx,h7⟩:=h6.head;obtain ⟨y,r8,rfl,hy,h8⟩:=h7.head;obtain ⟨kd,rfl⟩:=ha.int;obtain ⟨s,rfl⟩:=hs.str;obtain ⟨f,rfl⟩:=hf.str;obtain ⟨n,rfl⟩:=hn.int;obtain ⟨op,rfl⟩:=ho.int;obtain ⟨A,m,c,rfl,hp⟩:=hl.dm_;obtain ⟨B,m1,c1,rfl,A0⟩:=hx.dm_;obtain ⟨C,m2,c2,rfl,A1⟩:=hy.dm_;rw [h8.end];exact ⟨kd,s,f,n,op,A,B,C,m,c,m1,c1,m2,c2,rfl,hp,A0,A1⟩
theorem SlP.none_of {e:List CT} {A:OA} {n c:Nat} (h:SlP w X K noP e A n c):n=0:=by
 rcases Nat.eq_zero_or_pos n with h1 | h1
 ·exact h1
 obtain ⟨_,_,_,_,_,_,h3⟩:=h.ok 0 h1;exact h3.elim
theorem SlP.empty {p p':VL->Prop} {e e':List CT} {A:OA} {c:Nat} (h:SlP w X K p e A 0 c):SlP w X K p' e' A 0 c :=
 ⟨⟨Nat.zero_le _,Nat.zero_le _,h.sl.max,h.sl.nul,fun ad hA=>by
   obtain ⟨g,o,e,hg,hX,f,_⟩:=h.sl.at_ ad hA
   exact ⟨g,o,e,hg,hX,f,fun k j t hk=>o_,fun k j t hk=>o_⟩⟩,fun k hk=>o_⟩
theorem VTs.stmt0 {vs:VL} (h:VTs w X K (ag_ 0) vs):∃ (kd:Int) (s f:ByteArray) (n op:Int) (A B C:OA) (m c c1 c2:Nat),vs=[i_ kd,.string s,.string f,i_ n,i_ op,.slice A m c,.slice B 0 c1,.slice C 0 c2]/\SlP w X K pE (be_ dE) A m c/\SlP w X K noP [] B 0 c1/\SlP w X K noP [] C 0 c2:=by
 obtain ⟨a,r1,rfl,ha,h1⟩:=h.head;obtain ⟨s,r2,rfl,hs,h2⟩:=h1.head;obtain ⟨f,r3,rfl,hf,h3⟩:=h2.head;obtain ⟨n,r4,rfl,hn,h4⟩:=h3.head;obtain ⟨o,r5,rfl,ho,h5⟩:=h4.head;obtain ⟨l,r6,rfl,hl,h6⟩:=h5.head;obtain ⟨x,r7,rfl,hx,h7⟩:=h6.head;obtain ⟨y,r8,rfl,hy,h8⟩:=h7.head;obtain ⟨kd,rfl⟩:=ha.int;obtain ⟨s,rfl⟩:=hs.str;obtain ⟨f,rfl⟩:=hf.str;obtain ⟨n,rfl⟩:=hn.int;obtain ⟨op,rfl⟩:=ho.int;obtain ⟨A,m,c,rfl,hp⟩:=hl.dm_;obtain ⟨B,m1,c1,rfl,A0⟩:=hx.dm_;obtain ⟨C,m2,c2,rfl,A1⟩:=hy.dm_;obtain rfl:=A0.none_of;obtain rfl:=A1.none_of;rw [h8.end];exact ⟨kd,s,f,n,op,A,B,C,m,c,c1,c2,rfl,hp,A0,A1⟩
theorem vts_stmt {d:Nat} {kd:Int} {s f:ByteArray} {n op:Int} {A B C:OA} {m c m1 c1 m2 c2:Nat} (h:SlP w X K pE (be_ dE) A m c) (h1:SlP w X K pS (ag_ d) B m1 c1) (h2:SlP w X K pS (ag_ d) C m2 c2):VTs w X K (ag_ (d+1)) [i_ kd,.string s,.string f,i_ n,i_ op,.slice A m c,.slice B m1 c1,.slice C m2 c2] :=
 VTs.cons (.num _) (VTs.cons (.txt _) (VTs.cons (.txt _) (VTs.cons (.num _) (VTs.cons (.num _) (VTs.cons h.vt (VTs.cons h1.vt (VTs.cons h2.vt VTs.nil)))))))
theorem vts_stmt0 {kd:Int} {s f:ByteArray} {n op:Int} {A B C:OA} {m c c1 c2:Nat} (h:SlP w X K pE (be_ dE) A m c) (h1:SlP w X K noP [] B 0 c1) (h2:SlP w X K noP [] C 0 c2):VTs w X K (ag_ 0) [i_ kd,.string s,.string f,i_ n,i_ op,.slice A m c,.slice B 0 c1,.slice C 0 c2] :=
 VTs.cons (.num _) (VTs.cons (.txt _) (VTs.cons (.txt _) (VTs.cons (.num _) (VTs.cons (.num _) (VTs.cons h.vt (VTs.cons h1.vt (VTs.cons h2.vt VTs.nil)))))))
theorem stmtT_up (d:Nat):∀ vs,VTs w X K (ag_ d) vs->pS vs->VTs w X K (ag_ (d+1)) vs/\pS vs:=by
 induction d with
 | zero =>
  intro vs h hp;obtain ⟨kd,s,f,n,op,A,B,C,m,c,c1,c2,rfl,h1,h2,h3⟩:=h.stmt0;exact ⟨vts_stmt h1 h2.empty h3.empty,hp⟩
 | succ d ih =>
  intro vs h hp;obtain ⟨kd,s,f,n,op,A,B,C,m,c,m1,c1,m2,c2,rfl,h1,h2,h3⟩:=h.stmt;exact ⟨vts_stmt h1 (h2.weak (by rw [ca_,ca_]) ih) (h3.weak (by rw [ca_,ca_]) ih),hp⟩
theorem stmtT_le {d d':Nat} (h:d<=d') {vs:VL} (hv:VTs w X K (ag_ d) vs) (hp:pS vs):VTs w X K (ag_ d') vs:=by
 induction h with
 | refl=>exact hv
 | step _ ih=>exact (stmtT_up _ vs ih hp).1
end
theorem Fr.db_ {X Z:NP} {w0 w w':World} {L:List LV} {Y:NP} {C:Nat->VL} {i j b:Nat} {K:Nat->Nat} {ts:List CT} {ow:Nat->Option TypeId} {t:CT} {et:TypeId} {v:Value} (h:Fr X Z w0 L Y C w) (hp:L[i]?=some ⟨b,K,ts,ow⟩) (hj:ts[j]?=some t) (ho:ow j=some et) (hC:(C b)[j]?=some v) (hg:w.grownBy w' v.ownBlock):Bx w' b (C b):=by
 obtain ⟨e,A,n,c,h1,h2,h3,h4,h5⟩:=h.row _ (Fr.mem hp) j t et hj ho;rw [show (C b)[j]?=some (.slice A n c) from h2] at hC;injection hC with hC;subst hC;exact (h.box hp).kp (X:=fun k=>(Value.slice A n c).ownBlock=some k) ((Kp.refl _ w).grown hg (fun g hg=>.inl hg)) (fun he=>(h5 b he).2.2 _ (Fr.mem hp) rfl)
theorem Fr.grown_any {X Z:NP} {w0 w w':World} {L:List LV} {Y:NP} {C:Nat->VL} {i j b:Nat} {K:Nat->Nat} {ts:List CT} {ow:Nat->Option TypeId} {t:CT} {et:TypeId} {v:Value} (h:Fr X Z w0 L Y C w) (hp:L[i]?=some ⟨b,K,ts,ow⟩) (hj:ts[j]?=some t) (ho:ow j=some et) (hC:(C b)[j]?=some v) (hg:w.grownBy w' v.ownBlock) (q:Nat) (p:LV) (hq:L[q]?=some p):Bx w' p.b (C p.b):=by
 obtain ⟨e,A,n,c,h1,h2,h3,h4,h5⟩:=h.row _ (Fr.mem hp) j t et hj ho;rw [show (C b)[j]?=some (.slice A n c) from h2] at hC;injection hC with hC;subst hC;exact (h.blk p (List.mem_of_getElem? hq)).2.2.1.kp (X:=fun k=>(Value.slice A n c).ownBlock=some k) ((Kp.refl _ w).grown hg (fun g hg=>.inl hg)) (fun he=>(h5 p.b he).2.2 _ (List.mem_of_getElem? hq) rfl)
theorem OwT.any {w:World} {base K n c:Nat} {et:TypeId} {e:List CT} {X:NP} {A:OA} (h:OwT w base et e X K A n c) (hn:n<=K):SlT w (fun _=>False) K e A n c :=
 (h.sub (Y':=fun _=>False) (fun _ _ h=>h.elim) (l_)).slT (fun _ h=>h.elim) hn
theorem results0 {P:Program} {fn:Func} (h:fn.results=#[]) (tmps:Array Value) (w:World):(results fn tmps).run P w=.ok (.tuple #[]) w:=by
 unfold results;rw [h];simp
theorem end0 {P:Program} {fn:Func} {R:Ending->World->Prop} {a:Act} {w:World} (hr:fn.results=#[]) (hd:a.defers=[]) (hR:R (.returned (.tuple #[])) w):bodyPost P fn R .normal a w:=bodyPost_end (results0 hr _ _) hd hR
theorem ret0 {P:Program} {fn:Func} {R:Ending->World->Prop} {a:Act} {w:World} (hr:fn.results=#[]) (hd:a.defers=[]) (hR:R (.returned (.tuple #[])) w):bodyPost P fn R .ret a w:=bodyPost_ret (results0 hr _ _) hd hR
end Go.Proofs.YtfolidlmgfhkiaaGreat
namespace Go.Proofs.YtfolidlmgfhkiaaGreat
open Go.RowKit Go.Proofs.Tryz
theorem au_:(prog.info? 65).map (·.size)=some ae_.length:=by kernel_rfl
theorem isz_62:(prog.info? 62).map (·.size)=some cpuT.length:=by kernel_rfl
theorem isz_145:(prog.info? 145).map (·.size)=some effT.length:=by kernel_rfl
theorem dy_:(prog.info? 40).map (·.size)=some comT.length:=by kernel_rfl
theorem ei_cell:EI prog 54 87 ap_ 32:=EI.of (z:=.agg #[i_ 0,i_ 0,.bool false,i_ 0]) underlying54 k_ rfl d_
theorem ei_obj:EI prog 33 90 objT 32:=EI.of (z:=.agg #[i_ 0,.slice none 0 0]) underlying33 k_ rfl d_
theorem by_:EI prog 63 174 bm_ 40:=EI.of (z:=.agg #[i_ 0,i_ 0,i_ 0,.bool false,i_ 0]) underlying63 k_ rfl d_
theorem ei_act:EI prog 36 152 actT 24:=EI.of (z:=.agg #[.bool false,i_ 0,i_ 0]) underlying36 k_ rfl d_
section
variable {X:NP} {w:World} {K:Nat}
theorem ct_ (w:World) (X:NP) (K:Nat) (e:List CT):SlT w X K e none 0 0:=⟨Nat.zero_le _,l_,o_,fun _=>⟨rfl,rfl⟩,fun _ h=>by cases h⟩
theorem vts1 {A:OA} {n c:Nat} {e:List CT} (h:SlT w X K e A n c):VTs w X K [.sl e] [.slice A n c]:=VTs.cons h.vt VTs.nil
theorem vtsval (b:Bool) (n:Int):VTs w X K valT [.bool b,i_ n]:=VTs.cons (.tru _) (VTs.cons (.num _) VTs.nil)
end
end Go.Proofs.YtfolidlmgfhkiaaGreat
namespace Go.Proofs.YtfolidlmgfhkiaaGreat
open Go.RowKit
theorem zero_at {z:Array Value} {n k j:Nat} {u:Value} (hk:k<n) (hu:z[j]?=some u):(Builtin.zeroCells z n).toList[k*z.size+j]?=some u:=by
 obtain ⟨hj,rfl⟩:=Array.getElem?_eq_some_iff.1 hu;have A0:k*z.size+j<n*z.size:=by
  have:(k+1)*z.size<=n*z.size:=Nat.mul_le_mul_right _ hk;rw [Nat.add_mul] at this;omega
 have hm:(k*z.size+j) % z.size=j:=by rw [Nat.mul_comm,Nat.mul_add_mod,Nat.mod_eq_of_lt hj]
 rw [Array.getElem?_toList];unfold Builtin.zeroCells;rw [Array.getElem?_map,Array.getElem?_range,if_pos A0,Option.map_some,hm,getElem!_pos z j hj]
theorem zeros_one {z:Array Value} {n:Nat} (h:∀ u ∈ z.toList,u.oneCell'=true) (hz:0<z.size):∀ u ∈ (Builtin.zeroCells z n).toList,u.oneCell'=true:=fun u hu=>by
 unfold Builtin.zeroCells at hu;rw [Array.toList_map,List.mem_map] at hu;obtain ⟨i,_,rfl⟩:=hu;have hi:i % z.size<z.size:=Nat.mod_lt _ hz;rw [getElem!_pos z _ hi];exact h _ t_
section
variable {P:Program}
theorem run_append_zeros_own (w:World) (base:Nat) (t tn ty e:TypeId) (i:TypeInfo) (z:Value) (size bytes:Nat) (kq kn:IntKind) (ht:P.underlying t=some (.slice e)) (htn:P.underlying tn=some (.int kn)) (hi:P.info? e=some i) (hz:i.zero=some z)
  (hsize:i.size=size) (hby:i.bytes=bytes) (hzs:z.cells.size=size) (hsz:0<size) (h1:∀ u ∈ z.cells.toList,u.oneCell'=true)
  (A:OA) (n c:Nat) (xs:VL) (hown:w.ownsRow base e size (.slice A n c) n xs) (m:Nat)
  (h63:n+m<=maxLen) (hbytes:(n+m)*bytes<=140737488355328) (hbase:base<=w) :
  ∃ A' c' w',(Builtin.append_ #[t,tn] ty #[.slice A n c,.int kq m]).run P w=.ok (.slice A' (n+m) c') w'/\w'.ownsRow base e size (.slice A' (n+m) c') (n+m) (xs ++ (Builtin.zeroCells z.cells m).toList)/\w.grownBy w' (Value.slice A n c).ownBlock ∧
   (∀ g,(Value.slice A' (n+m) c').ownBlock=some g->(Value.slice A n c).ownBlock=some g\/g=w):=by
 subst hsize;subst hby;have A9:n+m<=9223372036854775807:=by simp only [maxLen] at h63;omega
 have hw:IntKind.i64.wrap (m:Int)=m:=by rw [IntKind.wrap_i64];omega
 have A8:¬((m:Int)<0):=by omega
 have Aj:m*i.bytes<=140737488355328:=Nat.le_trans (Nat.mul_le_mul_right _ (Nat.le_add_left m n)) hbytes;have A5:¬(281474976710656<(m:Int)*(i.bytes:Int)):=by
  rw [<-Int.natCast_mul];omega
 have Aa:(Builtin.zeroCells z.cells m).toList.length=m*i.size:=by rw [Array.length_toList,size_zeroCells,hzs]
 have A0:(xs ++ (Builtin.zeroCells z.cells m).toList).length=(n+m)*i.size:=by rw [List.length_append,hown.1,Aa,Nat.add_mul]
 rcases Nat.eq_zero_or_pos m with rfl | hm
 ·have Ah:(Builtin.zeroCells z.cells 0).toList=[]:=List.eq_nil_of_length_eq_zero (by rw [Aa];omega);refine ⟨A,c,w,?_,by rw [Ah,List.append_nil];exact hown,⟨rfl,rfl,rfl,l_,fun _ _ _=>rfl⟩,fun g hg=>.inl hg⟩;have A7:n<=c:=(dp_ hown).1;have Ac:IntKind.i64.wrap 0=0:=rfl;have Ai:¬(281474976710656<(0:Int)*(i.bytes:Int)):=by omega
  cases A with
  | none=>simp [Builtin.append_,run_underlying ht,run_underlying htn,sizeOf,typeInfo,hi,asInt,asIntOf,Ac,A7]
  | some ad=>simp [Builtin.append_,run_underlying ht,run_underlying htn,sizeOf,typeInfo,hi,asInt,asIntOf,Ac,A7,storeCells]
 have grown:∀ (A1:Nat),A1<n+m->∀ (row:Option Nat),
   (w.drew.alloc (.cells (xs.toArray ++ Builtin.zeroCells z.cells m ++ Builtin.zeroCells z.cells (grownCap w (n+m) A1 e - (n+m))) e)).ownsRow base e i.size
    (.slice (some (a_ w)) (n+m) (grownCap w (n+m) A1 e)) (n+m) (xs ++ (Builtin.zeroCells z.cells m).toList) ∧
   w.grownBy (w.drew.alloc (.cells (xs.toArray ++ Builtin.zeroCells z.cells m ++ Builtin.zeroCells z.cells (grownCap w (n+m) A1 e - (n+m))) e)) row:=by
  intro A1 ho row;have Ad:=grownCap_ge w (n+m) A1 e;have A6:grownCap w (n+m) A1 e<=maxLen:=grownCap_le_maxLen w (n+m) A1 e h63;refine ⟨⟨A0,.inr ⟨w,_,_,rfl,hbase,heap_alloc_new w.drew _,Ad,A6,?_,?_⟩⟩,⟨rfl,rfl,rfl,zm_,fun k hk _=>Below.heap_alloc _ _ _ hk⟩⟩
  ·simp only [Array.size_append,List.size_toArray,size_zeroCells,hzs,hown.1,<-Nat.add_mul]
   congr 1
   omega
  simp only [Array.toList_append];rw [<-A0];exact List.take_left
 rcases hown.2 with ⟨hA,rfl⟩ | ⟨g,cap,cur,hA,hbg,hg,A7,A6,hcs,htake⟩
 ·injection hA with q1 q2 q3;subst q1 q3;have hx:xs=[]:=List.eq_nil_of_length_eq_zero (by simpa using hown.1);subst hx;have hr:=Lib.run_append_nil_zeros (P:=P) w t tn ty e i z kq kn ht htn hi hz m hm hsz o_ o_;have A2:=grown 0 o_ (Value.ownBlock (.slice none 0 0));simp only [Nat.zero_add,List.nil_append,Array.empty_append] at A2 ⊢;exact tx_
 injection hA with q1 q2 q3;subst q1 q3;by_cases hroom:n+m<=c
 ·have A3:n*i.size+(Builtin.zeroCells z.cells m).toList.length<=cur.size:=by rw [Aa,hcs,<-Nat.add_mul];exact Nat.mul_le_mul_right _ hroom
  have Ab:=run_storeCells_at P g (n*i.size) e (Builtin.zeroCells z.cells m).toList 0 cur w hg (by simpa using A3) (zeros_one h1 (by rw [hzs];exact hsz));simp only [Nat.add_zero] at Ab;have Af:¬(m*i.size=0):=Nat.mul_ne_zero o_ o_;refine ⟨some (a_ g),c,w.setRow g (cur.toList.take (n*i.size) ++ (Builtin.zeroCells z.cells m).toList ++ cur.toList.drop (n*i.size+(Builtin.zeroCells z.cells m).toList.length)).toArray,?_,⟨A0,.inr ⟨g,c,_,rfl,hbg,setRow_heap w g cur _ e _ hg,hroom,A6,?_,?_⟩⟩,⟨rfl,rfl,rfl,zm_,fun k _ hk=>setRow_other w g k _ (fun e=>hk (by simp [Value.ownBlock,e]))⟩,fun q hq=>.inl hq⟩
  ·have Ae:m≠0:=by omega
   have Ag:i.size≠0:=by omega
   simp [Builtin.append_,run_underlying ht,run_underlying htn,sizeOf,typeInfo,zeroValue,hi,hz,asInt,asIntOf,hw,A8,A5,Af,Ae,Ag,hroom,Addr.add_lit,Ab]
  ·simp only [List.size_toArray,List.length_append,List.length_take,List.length_drop,Array.length_toList];rw [Array.length_toList] at A3;omega
  rw [htake,<-A0];exact List.take_left
 have A4:∀ j u,xs[j]?=some u->w.drew.cell? (((a_ g):Addr).add j)=some u:=hown.cells (g:=g) rfl;have hf:=run_firstCells_some (P:=P) w.drew i.size n (a_ g) n c xs hown.1 A4;have hr:=Lib.run_append_grow_zeros (P:=P) w t tn ty e i z kq kn ht htn hi hz (some (a_ g)) n c xs hf m hm hsz o_ o_ o_ (growslice_fits o_ hbytes);have A2:=grown c o_ (Value.ownBlock (.slice (some (a_ g)) n c));exact tx_
theorem run_append_zeros_t (w:World) (base:Nat) (t tn ty et:TypeId) (i:TypeInfo) (z:Value) (bytes:Nat) (kq kn:IntKind) (e:List CT) (X:NP) (K:Nat) (ht:P.underlying t=some (.slice et)) (htn:P.underlying tn=some (.int kn)) (hi:P.info? et=some i) (hz:i.zero=some z)
  (hsize:i.size=e.length) (hby:i.bytes=bytes) (hzc:z.cells=(e.map CT.zero).toArray) (hzk:e.all CT.zok=true) (hsz:0<e.length)
  (A:OA) (n c:Nat) (hown:OwT w base et e X K A n c) (m:Nat) (hX:∀ k,X k->k<w) (h63:n+m<=maxLen) (hbytes:(n+m)*bytes<=140737488355328) (hbase:base<=w) :
  ∃ A' c' w',(Builtin.append_ #[t,tn] ty #[.slice A n c,.int kq m]).run P w=.ok (.slice A' (n+m) c') w'/\OwT w' base et e X K A' (n+m) c'/\w.grownBy w' (Value.slice A n c).ownBlock ∧
   (∀ g,(Value.slice A' (n+m) c').ownBlock=some g->(Value.slice A n c).ownBlock=some g\/g=w):=by
 obtain ⟨xs,h1,h2⟩:=hown;have A0:z.cells.size=e.length:=by rw [hzc];simp
 obtain ⟨A',c',w',hr,g1,g2,g3⟩:=run_append_zeros_own (P:=P) w base t tn ty et i z e.length bytes kq kn ht htn hi hz hsize hby A0 hsz (fun u hu=>by
  rw [hzc] at hu
  simp only [List.mem_map] at hu
  obtain ⟨t,ht,rfl⟩:=hu
  exact (vt_zero (w:=w) (X:=X) K t (List.all_eq_true.1 hzk t ht)).one) A n c xs h1 m h63 hbytes hbase
 refine ⟨A',c',w',hr,own_append ⟨xs,h1,h2⟩ ⟨h1,h2⟩ (by rw [Array.length_toList,size_zeroCells,A0]) (fun k j s hk hj=>?_) hX g1 g2 g3,g2,g3⟩;have A1:=zero_at (z:=z.cells) (n:=m) (k:=k) (j:=j) (u:=s.zero) hk (by rw [hzc];simp [hj]);rw [A0] at A1;exact ⟨s.zero,A1,vt_zero K s (List.all_eq_true.1 hzk s (List.mem_of_getElem? hj))⟩
variable {w:World} {ops:Array Oper} {rest:List Oper} {o:Oper} {a:Act} {Q:Exit->Act->World->Prop}
theorem run_make_t (w:World) (base:Nat) (t et:TypeId) (i:TypeInfo) (z:Value) (bytes:Nat) (kl kc:IntKind) (e:List CT) (X:NP) (K:Nat) (ht:P.underlying t=some (.slice et)) (hi:P.info? et=some i) (hz:i.zero=some z)
  (hsize:i.size=e.length) (hby:i.bytes=bytes) (hzc:z.cells=(e.map CT.zero).toArray) (hzk:e.all CT.zok=true) (hsz:0<e.length) (m:Nat) (hX:∀ k,X k->k<w) (h63:m<=maxLen) (hbytes:bytes*m<=281474976710656) (hbase:base<=w) :
  ∃ w',(Instr.makeSlice t (.int kl (m:Int)) (.int kc (m:Int))).run P w=.ok (.slice (some (a_ w)) m m) w'/\OwT w' base et e X K (some (a_ w)) m m/\Below w w w':=by
 have A2:z.cells.size=e.length:=by rw [hzc];simp
 obtain ⟨w',hr,g1,g2⟩:=run_make_full (P:=P) w base t et i z e.length ht hi hz hsize kl kc m (by rw [hby];exact hbytes) h63 hbase;refine ⟨w',hr,⟨_,g1,fun k j s hk hj=>?_⟩,ak_ g2 (l_) (fun k hk=>by cases hk)⟩;have A0:j<e.length:=(e_ hj).1;refine ⟨s.zero,?_,vt_zero K s (List.all_eq_true.1 hzk s (List.mem_of_getElem? hj))⟩;have A1:k*e.length+j<m*e.length:=by
  exact ui_
 have hm:(k*e.length+j) % e.length=j:=by rw [Nat.mul_comm,Nat.mul_add_mod,Nat.mod_eq_of_lt A0]
 rw [Array.getElem?_toList];unfold madeCells;simp [A1,hzc,hm,hj]
end
end Go.Proofs.YtfolidlmgfhkiaaGreat
namespace Go.Proofs.YtfolidlmgfhkiaaGreat
open Go.RowKit Go.Proofs.Tryz
theorem broken_t (X:NP) (K:Nat) (vs:VL) (w:World) (ht:VTs w X K ae_ vs) (hX:∀ k,X k->k<w) :
  Calls prog 87 #[.agg vs.toArray] w fun e w'=>(∃ us,e=.returned (.agg us.toArray)/\VTs w' X K ae_ us/\Hid (us[42]?=some (i_ 4)))/\Below w w w':=by
 obtain ⟨Aj,A0⟩:=ht.num (j:=42) rfl;obtain ⟨A8,A1⟩:=ht.num (j:=47) rfl;have Ah:(prog.info? 65).map (·.size)=some vs.length:=by rw [ht.1];kernel_rfl
 obtain ⟨W,hW,A5,Af,B0,B1⟩:=cn_ w vs 65 zl1 65;have HT:=q_ (ht.kept (Y:=fun k=>X k\/(w<=k/\k<w+2)) (Kp.of_below A5) (fun k hk h1 h2=>by rcases h2 with h2 | h2;exact h1 h2;omega) (Nat.le_refl K));have HW:=q_ A5;have A9:=q_ B0;have Aa:=q_ B1;have Ag:=ht.1;have c42:=B0.2.1 42 _ A0;have Ai:=B0.2.1 47 _ A1;have c0:=B0.2.2;clear ht hX B0 B1 A5 Af A0 A1;go_enter func87,ntmps87;go_upto_region 1 with fail;rw [<-hW];clear hW;go_upto_region 3 with fail;obtain ⟨ls,A3⟩:=ex_ ((vs.set 42 (i_ 4)).set 47 (i_ (wrap64 (A8+1))));obtain ⟨U,hU⟩:=ex_ ((W.setCell (f_ w 42) (i_ 4)).setCell (f_ w 47) (i_ (wrap64 (A8+1))));have Ae:=h_ (Bx U w ls) (by rw [hU,A3];exact (A9.o.set 42 _).set 47 _);have A7:=h_ (Bx U (w+1) zl1) (by rw [hU];exact (Aa.o.far z3_ _).far z3_ _);have Ac:=h_ (Kp (fun k=>X k\/(w<=k/\k<w+2)) W U) (by rw [hU];exact ((Kp.refl _ W).setCell (p:=(f_ w 42)) (.inl (.inr ⟨zx_,by show (w:Nat)<w+2;omega⟩)) _).setCell (p:=(f_ w 47)) (.inl (.inr ⟨zx_,by show (w:Nat)<w+2;omega⟩)) _);have Ab:=h_ (Below w w U) (by rw [hU];exact (HW.o.setCell zx_ _).setCell zx_ _);have Ad:=h_ (ls[42]?=some (i_ 4)) (by rw [A3,gs_,if_neg d_,gs_,if_pos rfl,if_pos (by rw [Ag];decide)]);have A4:=h_ (VTs U (fun k=>X k\/(w<=k/\k<w+2)) K ae_ ls) (by rw [A3];exact ((HT.o.up Ac.o (Nat.le_refl K)).set (j:=42) rfl (.num _)).set (j:=47) rfl (.num _));rw [<-hU];have A6:(prog.info? 65).map (·.size)=some ls.length:=by rw [A3];simpa using Ah
 have A2:ls.length=48:=by rw [A4.o.1];rfl
 clear hU A3;go_wp2_with (first
  | (with_reducible refine ac_ rfl 65 (.tmp 1) rfl _ underlying65 rfl v_ Ae.o.whole A6 ?_)
  | (with_reducible refine ab_ rfl 65 (.tmp 2) (.tmp 8) rfl ls y3_ v_ (A7.o.there (by rw [A2];decide)) A6 A4.o.one ?_))
 refine retC results87 zd_ underlying65 rfl A6 (cs:=ls) (A7.o.all ls (by rw [A2];rfl)).whole rfl ?_;exact ⟨⟨ls,rfl,(A4.o.up (ah_ (w+1) ls 0 (Kp.refl _ U) (.inl (.inr ⟨o_,o_⟩))) (Nat.le_refl K)).less (fun k _ h=>.inl h),Ad⟩,(ah_ (w+1) ls 0 (show Kp (fun _=>False) w U from .of_below Ab.o) (.inr o_)).below (l_) (fun _ _ h=>h)⟩
def RWr (e:Ending):Prop:=∃ (x:Cl) (b:Bool),e=.returned (.tuple #[.agg #[i_ x.id,i_ x.field,.bool x.ref,i_ x.n],.bool b])
theorem Wrong_t (X:NP) (K:Nat) (A:OA) (n c:Nat) (L:Nat) (B:OA) (m d:Nat) (w:World) (h:SlT w X K objT A n c) (hK:K<=4398046510976) (hl:SlT w X L ap_ B m d) (hL:L<=4398046510976) :
  Calls prog 180 #[.agg #[.slice A n c],.slice B m d] w fun e w'=>RWr e/\Below w w w':=by
 obtain ⟨W,hW,A2,A9,B0,B1⟩:=cn_ w [.slice A n c] 35 [i_ 0,i_ 0,.bool false,i_ 0] 87;have H:=q_ (h.up (Kp.of_below A2) (l_));have HC:=q_ (hl.up (Kp.of_below A2) (l_));have A8:=q_ B0;have A5:=q_ B1;have HW:=q_ A2;have hm:=hl.le;have Ae:(w:Nat)<W:=by omega
 clear h hl B0 B1 A2 A9;go_enter func180,ntmps180;go_upto_region 1 with fail;rw [<-hW];clear hW;go_upto_region 2 with fail;go_loopw [12] (fun i wr=>∃ k:Nat,k<=m/\i=i_ k/\Below W W wr) (fun i _=>m - (intOf i).toNat)
 case atStart=>exact ⟨0,o_,rfl,b_⟩
 obtain ⟨k,hk,rfl,hb⟩:=hrel;have Aa:=hb.size;have HB:=q_ hb;by_cases hlt:k<m
 ·have A4:(k:Int)<(m:Int):=by omega
  obtain ⟨g,o,rfl,hg,x,hx⟩:=HC.o.dx_ hlt;obtain ⟨c0,c1,c2,c3⟩:=hx wr hb;obtain ⟨V,hV,A7,Ac,V0⟩:=af_ wr [i_ x.id,i_ x.field,.bool x.ref,i_ x.n] 87;have HV:=q_ V0;have A1:=h_ (Below W W V) (hb.trans (A7.mono Aa));have a0:=(A8.o.below A1.o).2.1 0 _ rfl;have v0:=V0.2.1 0 _ rfl;have v1:=V0.2.1 1 _ rfl;clear hx hb A7 V0;go_upto_region 4 with fail;rw [<-hV];clear hV c0 c1 c2 c3;go_wp2_with fail;refine (Read_t X K A n c x.id x.field V (H.o.up (Kp.of_below A1.o) (l_)) o_).mono ?_;rintro e S ⟨⟨v,ok,rfl⟩,hS⟩;obtain ⟨T,hT,A6,Ab,T0⟩:=af_ S [.bool v.ref,i_ v.n] 38;have A0:=h_ (Below V V T) (hS.trans (A6.mono hS.size));have A3:=h_ (Below W W T) (A1.o.trans (A0.o.mono A1.o.size));have t0:=T0.2.1 0 _ rfl;have t1:=T0.2.1 1 _ rfl;have v0:=(HV.o.below A0.o).2.1 0 _ rfl;have v1:=(HV.o.below A0.o).2.1 1 _ rfl;have v2:=(HV.o.below A0.o).2.1 2 _ rfl;have v3:=(HV.o.below A0.o).2.1 3 _ rfl;have HR:=q_ (A5.o.below A3.o);have r0:=HR.o.2.1 0 _ rfl;have r1:=HR.o.2.1 1 _ rfl;have r2:=HR.o.2.1 2 _ rfl;have r3:=HR.o.2.1 3 _ rfl;have rf:=HR.o.2.2;have Ad:(w:Nat)+1<T:=HR.o.1;have HF:=h_ (Below w w T) (HW.o.trans (A3.o.mono HW.o.size));clear hS A6 T0 a0;go_upto_region 5 with fail;rw [<-hT];clear hT;obtain ⟨vr,vn⟩:=v;obtain ⟨xi,xf,xr,xn⟩:=x;go_wp2;all_goals first
   | (refine ce_ results180 zd_ underlying87 rfl k_ (cs:=[_,_,_,_]) ((((HR.o.set 0 _).set 1 _).set 2 _).set 3 _).whole rfl ?_
      exact ⟨⟨⟨xi,xf,xr,xn⟩,true,rfl⟩,(bel HF.o)⟩)
   | (go_roundw
      case rel=>exact ⟨k+1,o_,zc_,A3.o⟩
      case measure=>exact me_)
 have A4:¬(k:Int)<(m:Int):=by omega
 have HR:=q_ (A5.o.below HB.o);have r0:=HR.o.2.1 0 _ rfl;have r1:=HR.o.2.1 1 _ rfl;have r2:=HR.o.2.1 2 _ rfl;have r3:=HR.o.2.1 3 _ rfl;have rf:=HR.o.2.2;have HF:=h_ (Below w w wr) (HW.o.trans (HB.o.mono HW.o.size));clear hb;go_wp2;refine ce_ results180 zd_ underlying87 rfl k_ (cs:=[_,_,_,_]) ((((HR.o.set 0 _).set 1 _).set 2 _).set 3 _).whole rfl ?_;exact ⟨⟨⟨0,0,false,0⟩,false,rfl⟩,(bel HF.o)⟩
end Go.Proofs.YtfolidlmgfhkiaaGreat
namespace Go.Proofs.YtfolidlmgfhkiaaGreat
open Go.RowKit Go.MapKept
def dd_ (w:World) (b:Nat):Prop:=∃ es clock,w.heap[b]?=some (.map es clock)/\∀ x ∈ es.toList,IsKey (.int .i64) x.key/\∃ t:Bool,x.val=.bool t
theorem dd_.made (w:World):dd_ (w.alloc (.map #[] 0)) w:=⟨#[],0,(MapKept.heap_alloc w _).1,fun x hx=>by simp at hx⟩
theorem dd_.lt {w:World} {b:Nat} (h:dd_ w b):b<w:=by
 obtain ⟨es,A0,hb,_⟩:=h;rcases Nat.lt_or_ge b w with h | h
 ·exact h
 rw [Array.getElem?_eq_none h] at hb;cases hb
theorem dd_.below {w w':World} {b:Nat} (h:dd_ w b) (hb:Below w w w'):dd_ w' b:=by
 have A1:=h.lt;obtain ⟨es,A0,h1,h2⟩:=h;exact ⟨es,A0,(hb.block b A1).trans h1,h2⟩
theorem dd_.look {w:World} {b:Nat} (h:dd_ w b) (k:Int):∃ t:Bool,(Instr.lookup 235 (.map (some b)) (i_ k) false).run Tryz.prog w=.ok (.bool t) w:=by
 obtain ⟨es,A0,hb,A1⟩:=h;have hk:IsKey (.int .i64) (i_ k):=rfl;have hz:(zeroValue 4).run Tryz.prog w=.ok (.bool false) w:=by kernel_rfl
 rcases MapKept.findNow_spec hk es.toList 0 (fun x hx=>(A1 x hx).1) with ⟨h1,h2⟩ | ⟨j,e,h1,h2,h3⟩
 ·exact ⟨false,by simp [Instr.lookup,run_underlying Tryz.underlying235,MapKept.run_getObj_map hb,MapKept.run_checkKey Tryz.underlying2 hk,MapKept.run_findKey Tryz.underlying2 h1,hz,Result.andThen]⟩
 obtain ⟨t,ht⟩:=(A1 e (List.mem_of_getElem? h2)).2;exact ⟨t,by simp [Instr.lookup,run_underlying Tryz.underlying235,MapKept.run_getObj_map hb,MapKept.run_checkKey Tryz.underlying2 hk,MapKept.run_findKey Tryz.underlying2 h1,ht,Result.andThen]⟩
theorem dd_.put {w:World} {b:Nat} (h:dd_ w b) (k:Int) (v:Bool):∃ w',(Instr.mapUpdate 235 (.map (some b)) (i_ k) (.bool v)).run Tryz.prog w=.ok () w'/\dd_ w' b/\w.grownBy w' (some b):=by
 obtain ⟨es,A0,hb,A1⟩:=h;have hk:IsKey (.int .i64) (i_ k):=rfl;rcases MapKept.findNow_spec hk es.toList 0 (fun x hx=>(A1 x hx).1) with ⟨h1,h2⟩ | ⟨j,e,h1,h2,h3⟩
 ·refine ⟨{ w with heap:=w.heap.setIfInBounds b (.map (es.push { key:=i_ k,val:=.bool v,born:=A0 }) (A0+1)) },by simp [Instr.mapUpdate,run_underlying Tryz.underlying235,MapKept.run_getObj_map hb,MapKept.run_checkKey Tryz.underlying2 hk,MapKept.run_findKey Tryz.underlying2 h1,MapKept.run_setObj_map _ hb,Result.andThen],⟨_,_,(MapKept.heap_set hb).1,fun x hx=>?_⟩,⟨rfl,rfl,rfl,zm_,fun i _ hi=>(MapKept.heap_set hb).2 i (fun e=>hi x3_)⟩⟩;simp only [Array.toList_push,List.mem_append,List.mem_singleton] at hx;rcases hx with hx | rfl
  ·exact A1 x hx
  exact ⟨rfl,v,rfl⟩
 have hj:es[j]?=some e:=by simpa using h2
 refine ⟨{ w with heap:=w.heap.setIfInBounds b (.map (es.modify j fun e=>{ key:=i_ k,val:=.bool v,born:=e.born }) A0) },by simp [Instr.mapUpdate,run_underlying Tryz.underlying235,MapKept.run_getObj_map hb,MapKept.run_checkKey Tryz.underlying2 hk,MapKept.run_findKey Tryz.underlying2 h1,hj,h3,MapKept.run_keyThatStays hk,MapKept.run_setObj_map _ hb,Result.andThen],⟨_,_,(MapKept.heap_set hb).1,fun x hx=>?_⟩,⟨rfl,rfl,rfl,zm_,fun i _ hi=>(MapKept.heap_set hb).2 i (fun e=>hi x3_)⟩⟩;obtain ⟨i,hi⟩:=List.getElem?_of_mem hx;rw [Array.getElem?_toList,Array.getElem?_modify] at hi;by_cases hij:j=i
 ·subst hij;rw [if_pos rfl,hj] at hi;simp at hi;subst hi;exact ⟨rfl,v,rfl⟩
 rw [if_neg hij] at hi;exact A1 x (List.mem_of_getElem? (i:=i) (by rw [Array.getElem?_toList];exact hi))
end Go.Proofs.YtfolidlmgfhkiaaGreat
namespace Go.Proofs.YtfolidlmgfhkiaaGreat
open Go.RowKit Go.Proofs.Tryz
theorem Reads21_t (X:NP) (K:Nat) (A:OA) (n c:Nat) (L:Nat) (vs:VL) (w:World) (h:SlT w X K objT A n c) (hK:K<=4398046510976) (ht:VTs w X L ae_ vs) (hL:L<=4398046510976) :
  Calls prog 132 #[.agg #[.slice A n c],.agg vs.toArray] w fun e w'=>RWr e/\Below w w w':=by
 obtain ⟨W,hW,A1,A6,B0,B1,B2⟩:=dw_ w [.slice A n c] 35 vs 65 [i_ 0,i_ 0,.bool false,i_ 0] 87;obtain ⟨RA,rn,rc,A3,hr⟩:=ht.slc (j:=37) (e:=ap_) rfl;have H:=q_ (h.up (Kp.of_below A1) (l_));have HR:=q_ (hr.up (Kp.of_below A1) (l_));have A5:=q_ B2;have HW:=q_ A1;have a0:=B0.2.1 0 _ rfl;have A7:=B1.2.1 37 _ A3;have A9:(w:Nat)+2<W:=by omega
 clear h ht hr B0 B1 B2 A1 A6 A3;go_enter func132,ntmps132;go_upto_region 1 with fail;rw [<-hW];clear hW;go_wp2_with fail;refine (Wrong_t X K A n c L RA rn rc W H.o hK HR.o hL).mono ?_;rintro e S ⟨⟨x,b,rfl⟩,hS⟩;obtain ⟨xi,xf,xr,xn⟩:=x;obtain ⟨T,hT,A4,A8,T0⟩:=af_ S [i_ xi,i_ xf,.bool xr,i_ xn] 87;have A2:=h_ (Below W W T) (hS.trans (A4.mono hS.size));have t0:=T0.2.1 0 _ rfl;have t1:=T0.2.1 1 _ rfl;have t2:=T0.2.1 2 _ rfl;have t3:=T0.2.1 3 _ rfl;have A0:=q_ (A5.o.below A2.o);have r0:=A0.o.2.1 0 _ rfl;have r1:=A0.o.2.1 1 _ rfl;have r2:=A0.o.2.1 2 _ rfl;have r3:=A0.o.2.1 3 _ rfl;have rf:=A0.o.2.2;have HF:=h_ (Below w w T) (HW.o.trans (A2.o.mono HW.o.size));clear hS A4 T0 a0 A7;go_upto_region 2 with fail;rw [<-hT];clear hT;go_wp2;refine ce_ results132 zd_ underlying87 rfl k_ (cs:=[_,_,_,_]) ((((A0.o.set 0 _).set 1 _).set 2 _).set 3 _).whole rfl ?_;exact ⟨⟨⟨xi,xf,xr,xn⟩,!b,rfl⟩,(bel HF.o)⟩
end Go.Proofs.YtfolidlmgfhkiaaGreat
namespace Go.Proofs.YtfolidlmgfhkiaaGreat
open Go.RowKit
def OwP (w:World) (base:Nat) (et:TypeId) (p:VL->Prop) (e:List CT) (X:NP) (K:Nat) (A:OA) (n c:Nat):Prop :=
 ∃ xs,w.ownsRow base et e.length (.slice A n c) n xs/\∀ k,k<n->∃ vs,VTs w (Wi X (Value.slice A n c).ownBlock) K e vs/\(∀ j u,vs[j]?=some u->xs[k*e.length+j]?=some u)/\p vs
section
variable {X Y:NP} {w w':World} {K K' base n m c d:Nat} {et:TypeId} {p:VL->Prop} {e:List CT} {A B:OA}
theorem OwP.nil (w:World) (base:Nat) (et:TypeId) (p:VL->Prop) (e:List CT) (X:NP) (K:Nat):OwP w base et p e X K none 0 0:=⟨[],World.ownsRow_nil _ _ _ _,fun k h=>absurd h o_⟩
theorem OwP.slP (h:OwP w base et p e X K A n c) (hb:∀ k,X k->k<base) (hn:n<=K):SlP w X K p e A n c:=by
 obtain ⟨xs,ho,hx⟩:=h;exact SlP.cs_ ho hb hn (fun k hk=>by obtain ⟨vs,h1,h2,h3⟩:=hx k hk;exact ⟨vs,h1.less (fun k _ h=>.inl h),h2,h3⟩)
theorem OwP.mono {base':Nat} (h:OwP w base et p e X K A n c) (hb:base'<=base):OwP w base' et p e X K A n c:=by
 obtain ⟨xs,ho,hx⟩:=h;exact ⟨xs,own_mono ho hb,hx⟩
theorem own_kp {base sz:Nat} {v:Value} {xs:VL} (ho:w.ownsRow base et sz v n xs) (hk:Kp X w w') (hb:∀ g,v.ownBlock=some g->¬X g):w'.ownsRow base et sz v n xs:=by
 refine ⟨ho.1,?_⟩;rcases ho.2 with h | ⟨g,cap,cur,hv,hg,hr,hr2⟩
 ·exact .inl h
 subst hv;have A0:g<w:=by
  rcases Nat.lt_or_ge g w with h | h
  ·exact h
  rw [Array.getElem?_eq_none h] at hr;cases hr
 exact .inr ⟨g,cap,cur,rfl,hg,(hk.block g A0 (hb g rfl)).trans hr,hr2⟩
theorem OwP.kept (h:OwP w base et p e X K A n c) (hk:Kp X w w') (hb:∀ k,X k->k<base):OwP w' base et p e X K A n c:=by
 obtain ⟨xs,ho,hx⟩:=h;have hne:∀ g,(Value.slice A n c).ownBlock=some g->¬X g:=fun g hg A1=>by have:=(am_ ho hg).1;have:=hb g A1;omega
 refine ⟨xs,own_kp ho hk hne,fun k A0=>?_⟩;obtain ⟨vs,h1,h2,h3⟩:=hx k A0;exact ⟨vs,h1.kept (hk.mono (fun k _ h=>.inl h)) (fun _ _ h=>h) (l_),h2,h3⟩
theorem OwP.below (h:OwP w base et p e X K A n c) (hb:Below w w w'):OwP w' base et p e X K A n c:=by
 obtain ⟨xs,ho,hx⟩:=h;refine ⟨xs,own_below ho hb,fun k A0=>?_⟩;obtain ⟨vs,h1,h2,h3⟩:=hx k A0;exact ⟨vs,h1.kept (Kp.of_below hb) (fun _ _ h=>h) (l_),h2,h3⟩
theorem SlP.news (h:SlP w X K p e A n c):∃ news:VL,news.length=n*e.length/\(A=none->n=0)/\(∀ ad,A=some ad->∀ (j:Nat) (u:Value),news[j]?=some u->w.cell? (ad.add j)=some u)/\(∀ u ∈ news,u.oneCell'=true) ∧
  ∀ k,k<n->∃ vs,VTs w X K e vs/\(∀ j u,vs[j]?=some u->news[k*e.length+j]?=some u)/\p vs:=by
 obtain ⟨news,n1,n2,n3,n4,n5⟩:=h.sl.news;refine ⟨news,n1,n2,n3,n4,fun k hk=>?_⟩;obtain ⟨g,o,vs,rfl,h1,h2,h3⟩:=h.ok k hk;refine ⟨vs,h1,fun j u hu=>?_,h3⟩;have hj:j<e.length:=by rw [<-h1.1];exact (e_ hu).1
 obtain ⟨v,hv,_⟩:=n5 k j _ hk (ge_ hj);have h4:=n3 _ rfl _ v hv;rw [Addr.add_lit] at h4;rw [h2 j u hu] at h4;injection h4 with h4;rw [hv,h4]
theorem own_appendP {xs news:VL} {A':OA} {c':Nat} (hxs:w.ownsRow base et e.length (.slice A n c) n xs/\∀ k,k<n->∃ vs,VTs w (Wi X (Value.slice A n c).ownBlock) K e vs/\(∀ j u,vs[j]?=some u->xs[k*e.length+j]?=some u)/\p vs)
  (_hl:news.length=m*e.length) (hn:∀ k,k<m->∃ vs,VTs w (Wi X (Value.slice A n c).ownBlock) K e vs/\(∀ j u,vs[j]?=some u->news[k*e.length+j]?=some u)/\p vs)
  (hX:∀ k,X k->k<w) (ho:w'.ownsRow base et e.length (.slice A' (n+m) c') (n+m) (xs ++ news)) (hg:w.grownBy w' (Value.slice A n c).ownBlock) (hloc:∀ g,(Value.slice A' (n+m) c').ownBlock=some g->(Value.slice A n c).ownBlock=some g\/g=w) :
  OwP w' base et p e X K A' (n+m) c':=by
 have A0:xs.length=n*e.length:=hxs.1.1;have up:∀ {ts:List CT} {us:VL},VTs w (Wi X (Value.slice A n c).ownBlock) K ts us->VTs w' (Wi X (Value.slice A' (n+m) c').ownBlock) K ts us:=fun hv =>
  hv.kept ((Kp.refl _ w).grown hg (fun k hk=>.inl (.inr hk))) (fun k hk A1 hin=>by
   rcases hin with hin | hin
   ·exact A1 (.inl hin)
   rcases hloc k hin with h1 | h1
   ·exact A1 (.inr h1)
   omega) (l_)
 refine ⟨xs ++ news,ho,fun k hk=>?_⟩;by_cases hkn:k<n
 ·obtain ⟨vs,h1,h2,h3⟩:=hxs.2 k hkn;exact ⟨vs,up h1,fun j u hu=>by rw [List.getElem?_append_left (e_ (h2 j u hu)).1];exact h2 j u hu,h3⟩
 obtain ⟨vs,h1,h2,h3⟩:=hn (k - n) o_;refine ⟨vs,up h1,fun j u hu=>?_,h3⟩;have e1:k*e.length=n*e.length+(k - n)*e.length:=by rw [<-Nat.add_mul];congr 1;omega
 rw [List.getElem?_append_right yi_,A0,show k*e.length+j - n*e.length=(k - n)*e.length+j from by omega];exact h2 j u hu
theorem SlP.of_box {b:Nat} {cs:VL} (hB:Bx w b cs) (hX:¬X b) (hn:n<=K) (hm:n<=9223372036854775807) (h:∀ k,k<n->∃ vs,VTs w X K e vs/\(∀ j u,vs[j]?=some u->cs[k*e.length+j]?=some u)/\p vs):SlP w X K p e (some (a_ b)) n n:=by
 have A0:∀ k,k<n->∃ g o vs,(some (a_ b):OA)=some (f_ g o)/\VTs w X K e vs/\(∀ j u,vs[j]?=some u->w.cell? ⟨g,o+(k*e.length+j),none⟩=some u)/\p vs:=fun k hk=>by
  obtain ⟨vs,h1,h2,h3⟩:=h k hk;exact ⟨b,0,vs,rfl,h1,fun j u hu=>by rw [Nat.zero_add];exact hB.2.1 _ u (h2 j u hu),h3⟩
 refine ⟨⟨hn,l_,hm,x_,fun ad hA=>?_⟩,A0⟩;injection hA with hA;subst hA;obtain ⟨l,hl,hR⟩:=list_choose (n:=n) (R:=fun k vs=>VTs w X K e vs/\(∀ j u,vs[j]?=some u->cs[k*e.length+j]?=some u)) (fun k hk=>by obtain ⟨vs,h1,h2,h3⟩:=h k hk;exact ⟨vs,h1,h2⟩);refine ⟨b,0,rfl,hB.1,hX,fun k j=>((l[k]?).getD [])[j]?.getD undef,fun k j t hk hj=>?_,fun k j t hk hj=>?_⟩
 ·obtain ⟨h1,h2⟩:=hR k _ (ge_ (by omega:k<l.length));obtain ⟨u,hu,_⟩:=h1.2 j t hj;dsimp only
  rw [ge_ (by omega:k<l.length),Option.getD_some,hu,Nat.zero_add];exact hB.2.1 _ u (h2 j u hu)
 obtain ⟨h1,h2⟩:=hR k _ (ge_ (by omega:k<l.length));obtain ⟨u,hu,hv⟩:=h1.2 j t hj;dsimp only
 rw [ge_ (by omega:k<l.length),Option.getD_some,hu];exact hv
theorem SlP.one {b:Nat} {cs:VL} (hB:Bx w b cs) (hX:¬X b) (hn:1<=K) (h1:VTs w X K e cs) (h2:p cs):SlP w X K p e (some (a_ b)) 1 1 :=
 SlP.of_box hB hX hn o_ (fun k hk=>by
  obtain rfl:k=0:=by omega
  exact ⟨cs,h1,fun j u hu=>by rw [Nat.zero_mul,Nat.zero_add];exact hu,h2⟩)
theorem SlP.two {b:Nat} {us vs:VL} (hB:Bx w b (us ++ vs)) (hX:¬X b) (hn:2<=K) (h1:VTs w X K e us) (h2:p us) (h3:VTs w X K e vs) (h4:p vs):SlP w X K p e (some (a_ b)) 2 2 :=
 SlP.of_box hB hX hn o_ (fun k hk=>by
  by_cases h0:k=0
  ·subst h0
   exact ⟨us,h1,fun j u hu=>by rw [Nat.zero_mul,Nat.zero_add,List.getElem?_append_left (e_ hu).1];exact hu,h2⟩
  obtain rfl:k=1:=by omega
  exact ⟨vs,h3,fun j u hu=>by rw [Nat.one_mul,List.getElem?_append_right (by rw [h1.1];omega),h1.1,Nat.add_sub_cancel_left];exact hu,h4⟩)
theorem SlP.less (h:SlP w X K p e A n c) (hXY:∀ k,k<w.heap.size->Y k->X k):SlP w Y K p e A n c:=by
 obtain ⟨A',n',c',e',h'⟩:=(h.vt.less hXY).dm_;exact uh_
theorem SlP.kept (h:SlP w X K p e A n c) (hk:Kp X w w') (hXY:∀ k,k<w.heap.size->¬X k->¬Y k) (hK:K<=K'):SlP w' Y K' p e A n c:=by
 obtain ⟨A',n',c',e',h'⟩:=(h.vt.kept hk hXY hK).dm_;exact uh_
end
section
variable {P:Program} {w:World} {ops:Array Oper} {rest:List Oper} {o:Oper} {a:Act} {Q:Exit->Act->World->Prop} {t et:TypeId} {bytes:Nat} {p:VL->Prop} {e:List CT} {X:NP} {K base n c m d:Nat} {A B:OA}
theorem dt_ (hgd:o.guard=none) (s x:Operand) (ho:o.op=.call { callee:=.builtin .append,args:=#[s,x],argTypes:=#[t,t] }) (E:EI P t et e bytes)
  (hs:a.eval s=.slice A n c) (hown:OwP w base et p e X K A n c) (hx:a.eval x=.slice B m d) (hsrc:SlP w (Wi X (Value.slice A n c).ownBlock) K p e B m d)
  (hX:∀ k,X k->k<w) (h63:n+m<=maxLen) (hbytes:(n+m)*bytes<=140737488355328) (hbase:base<=w)
  (h:∀ A' c' w',OwP w' base et p e X K A' (n+m) c'->w.grownBy w' (Value.slice A n c).ownBlock->(∀ g,(Value.slice A' (n+m) c').ownBlock=some g->(Value.slice A n c).ownBlock=some g\/g=w)->wpList P ops Q rest (a.put o.dst (.slice A' (n+m) c')) w'):wpList P ops Q (o :: rest) a w:=by
 obtain ⟨i,z,hi,hz,A0,A1,A2⟩:=E.hi;obtain ⟨xs,h1,h2⟩:=hown;obtain ⟨news,n1,n2,n3,n4,n5⟩:=hsrc.news;exact av_ hgd s x t ho base et i z e.length bytes E.ht hi hz A0 A1 A2 E.hsz _ n xs hs h1 B m d news hx n2 n1 n3 n4 h63 hbytes hbase (fun A' c' w' g1 g2 g3=>h A' c' w' (own_appendP ⟨h1,h2⟩ n1 n5 hX g1 g2 g3) g2 g3)
end
end Go.Proofs.YtfolidlmgfhkiaaGreat
namespace Go.Proofs.YtfolidlmgfhkiaaGreat
open Go.RowKit Go.Proofs.Tryz
def isStr:Value->Bool
 | .string _=>true
 | _=>false
theorem strs_at {cs:Array Value} (h:cs.toList.all isStr=true) (k:Nat) (hk:k<cs.size):∃ s,cs[k]?=some (.string s):=by
 have hm:cs[k] ∈ cs.toList:=by simp
 have:=List.all_eq_true.1 h _ hm;rw [Array.getElem?_eq_getElem hk];cases hv:cs[k] <;> rw [hv] at this <;> first | exact ⟨_,rfl⟩ | cases this
theorem reserved_any (s:ByteArray) (w:World):Calls prog 201 #[.string s] w fun e w'=>RB e/\Below w w w':=by
 go_enter func201,ntmps201;go_upto_region 2 with fail;go_loopw [9] (fun i wr=>∃ k:Nat,k<=19/\i=i_ k/\Hid (Below w w wr)/\(w:Nat)<wr/\Hid (∀ k:Nat,k<19->∃ s,wr.cell? (f_ w k)=some (.string s))) (fun i _=>19 - (intOf i).toNat)
 case atStart=>exact ⟨0,o_,rfl,q_ (bel (b_)),zm_,q_ (fun k hk=>by rw [ay_ _ _ _ _ _ rfl];exact strs_at rfl k hk)⟩
 obtain ⟨k,hk,rfl,HB,hz,HC⟩:=hrel;by_cases hlt:k<19
 ·have A0:(k:Int)<19:=by omega
  obtain ⟨t,ht⟩:=HC.o k hlt;go_wp2;all_goals first
   | (go_ret;exact ⟨⟨_,rfl⟩,HB.o⟩)
   | (go_roundw
      case rel=>exact ⟨k+1,o_,zc_,HB,hz,HC⟩
      case measure=>exact me_)
 have A0:¬(k:Int)<19:=by omega
 go_wp2_with (go_at_call 207;refine (Op_any _ _).mono ?_;rintro e w1 ⟨⟨q,b,rfl⟩,hb⟩;have A1:=q_ (HB.o.trans (hb.mono HB.o.size)));go_ret;exact ⟨⟨_,rfl⟩,A1.o⟩
theorem Has_any (A:OA) (n c:Nat) (s:ByteArray) (X:NP) (K:Nat) (w:World) (h:SlT w X K [.txt] A n c) (hK:K<=900000000):Calls prog 161 #[.slice A n c,.string s] w fun e w'=>RB e/\Below w w w':=by
 have hn:=h.le;have H:=q_ h;clear h;go_enter func161,ntmps161;go_upto_region 2 with fail;go_loopw [9] (fun i wr=>∃ k:Nat,k<=n/\i=i_ k/\Hid (wr=w)) (fun i _=>n - (intOf i).toNat)
 case atStart=>exact ⟨0,o_,rfl,q_ rfl⟩
 obtain ⟨k,hk,rfl,A1⟩:=hrel;have hw:=A1.o.symm;subst hw;clear A1;by_cases hlt:k<n
 ·have A0:(k:Int)<(n:Int):=by omega
  obtain ⟨g,o,rfl,hg,hX,vs,hv,hm⟩:=H.o.mt hlt;obtain ⟨u,hu,ht⟩:=hv.2 0 .txt rfl;obtain ⟨t,rfl⟩:=ht.str;have c0:w.cell? ⟨g,o+k,none⟩=some (.string t):=by have:=hm 0 _ hu;simpa using this
  clear hv hm hu ht;go_wp2;all_goals first
   | (go_ret;exact ⟨⟨_,rfl⟩,(bel (b_))⟩)
   | (go_roundw
      case rel=>exact ⟨k+1,o_,zc_,q_ vi_⟩
      case measure=>exact me_)
 have A0:¬(k:Int)<(n:Int):=by omega
 exact t7_
theorem Name05_any (s:ByteArray) (w:World) (hsz:s.size<=100):Calls prog 186 #[.string s] w fun e w'=>RB e/\Below w w w':=by
 go_enter func186,ntmps186;go_upto_region 2 with fail;go_loopw [3] (fun i wr=>∃ k:Nat,k<=s.size/\i=i_ k/\Hid (wr=w)) (fun i _=>s.size - (intOf i).toNat)
 case atStart=>exact ⟨0,o_,rfl,q_ rfl⟩
 obtain ⟨k,hk,rfl,A1⟩:=hrel;have hw:=A1.o.symm;subst hw;clear A1;by_cases hlt:k<s.size
 ·have A0:(k:Int)<(s.size:Int):=by omega
  go_wp2;all_goals first
   | (go_ret;exact ⟨⟨_,rfl⟩,(bel (b_))⟩)
   | (go_roundw
      case rel=>exact ⟨k+1,o_,zc_,q_ vi_⟩
      case measure=>exact me_)
 have A0:¬(k:Int)<(s.size:Int):=by omega
 go_wp2_with (go_at_call 201;refine (reserved_any _ _).mono ?_;rintro e w1 ⟨⟨b,rfl⟩,hb⟩;have A2:=q_ hb);all_goals
  go_ret;first | exact ⟨⟨_,rfl⟩,A2.o⟩ | exact ⟨⟨_,rfl⟩,(bel (b_))⟩
theorem results_tmp8 {P:Program} {fn:Func} {t1 t2 t3 t4 t5 t6 t7 t8:Tmp} (h:fn.results=#[.tmp t1,.tmp t2,.tmp t3,.tmp t4,.tmp t5,.tmp t6,.tmp t7,.tmp t8]) (tmps:Array Value) (w:World) :
  (results fn tmps).run P w=.ok (.tuple #[tmps.getD t1 undef,tmps.getD t2 undef,tmps.getD t3 undef,tmps.getD t4 undef,tmps.getD t5 undef,tmps.getD t6 undef,tmps.getD t7 undef,tmps.getD t8 undef]) w:=by
 simp [results,h]
def RPt (e:Ending):Prop:=∃ (m:Int) (a b c d f g k:Bool),e=.returned (.tuple #[i_ m,.bool a,.bool b,.bool c,.bool d,.bool f,.bool g,.bool k])
theorem parts_any (kd:Int) (w:World):Calls prog 203 #[i_ kd] w fun e w'=>RPt e/\Below w w w':=by
 go_enter func203,ntmps203;go_wp2;all_goals
  try simp only [Exit.inBlock,Exit.then]
  refine bodyPost_ret (results_tmp8 zd_ _ _) rfl ?_;exact ⟨⟨_,_,_,_,_,_,_,_,rfl⟩,(bel (b_))⟩
theorem Names_any (kd:Int) (w:World):Calls prog 189 #[i_ kd] w fun e w'=>RB e/\Below w w w':=by
 go_enter func189,ntmps189;go_wp2_with (go_at_call 203;refine (parts_any _ _).mono ?_;rintro e w1 ⟨⟨m,a,b,c,d,f,g,k,rfl⟩,hb⟩;have A0:=q_ hb);go_ret;exact ⟨⟨_,rfl⟩,A0.o⟩
end Go.Proofs.YtfolidlmgfhkiaaGreat
namespace Go.Proofs.YtfolidlmgfhkiaaGreat
open Go.RowKit
def Zm (d b:Nat):NP:=fun k=>k=d\/k=b
structure Mk (d b:Nat) (lp:Nat) (w:World):Prop where
 dice:Dice w d
 ne:d<b
 lt:b<w
 c0:w.cell? (a_ b)=some (pt d)
 c1:∃ left,w.cell? (f_ b 1)=some (i_ left)
 c2:w.cell? (f_ b 2)=some (i_ lp)
 c3:∃ fn,w.cell? (f_ b 3)=some (i_ fn)
 fz:∀ j,w.frozen? (f_ b j)=false
section
variable {d b lp:Nat} {w w' w2:World}
theorem Mk.below (h:Mk d b lp w) (hb:Below w w w'):Mk d b lp w':=by
 obtain ⟨l,h1⟩:=h.c1;obtain ⟨f,h3⟩:=h.c3;exact ⟨h.dice.below hb,h.ne,lt_ h.lt hb.size,(belc hb h.lt).trans h.c0,⟨l,(belc hb h.lt).trans h1⟩,(belc hb h.lt).trans h.c2,⟨f,(belc hb h.lt).trans h3⟩,fun j=>(belf hb h.lt).trans (h.fz j)⟩
theorem Mk.thrown (h:Mk d b lp w) (ht:cf_ w d w'):Mk d b lp w':=by
 have hne:b≠d:=by have:=h.ne;omega
 obtain ⟨l,h1⟩:=h.c1;obtain ⟨f,h3⟩:=h.c3;exact ⟨ht.dice,h.ne,lt_ h.lt ht.size,(ht.cell h.lt hne).trans h.c0,⟨l,(ht.cell h.lt hne).trans h1⟩,(ht.cell h.lt hne).trans h.c2,⟨f,(ht.cell h.lt hne).trans h3⟩,fun j=>(ht.frozen h.lt hne).trans (h.fz j)⟩
theorem cf_.kp (ht:cf_ w d w') (b:Nat):Kp (Zm d b) w w':=(Kp.refl _ w).grown ht.grown (fun k hk=>by injection hk with hk;exact .inl (.inl hk.symm))
theorem Mk.set1 (h:Mk d b lp w) (x:Int):Mk d b lp (w.setCell (f_ b 1) (i_ x)):=by
 obtain ⟨l,h1⟩:=h.c1;obtain ⟨f,h3⟩:=h.c3;have hs:∀ j,j≠1->(w.setCell (f_ b 1) (i_ x)).cell? (f_ b j)=w.cell? (f_ b j):=fun j hj=>bg_ _ _ _ _ zl_
 refine ⟨?_,h.ne,wv_,(hs 0 o_).trans h.c0,⟨x,World.cell?_setCell_same _ _ _ h1⟩,(hs 2 o_).trans h.c2,⟨f,(hs 3 o_).trans h3⟩,fun j=>(World.frozen?_setCell ..).trans (h.fz j)⟩;exact h.dice.set (p:=(f_ b 1)) h.ne _
theorem Mk.set2 (h:Mk d b lp w) (x:Nat):Mk d b x (w.setCell (f_ b 2) (i_ x)):=by
 obtain ⟨l,h1⟩:=h.c1;obtain ⟨f,h3⟩:=h.c3;have hs:∀ j,j≠2->(w.setCell (f_ b 2) (i_ x)).cell? (f_ b j)=w.cell? (f_ b j):=fun j hj=>bg_ _ _ _ _ zl_
 refine ⟨?_,h.ne,wv_,(hs 0 o_).trans h.c0,⟨l,(hs 1 o_).trans h1⟩,World.cell?_setCell_same _ _ _ h.c2,⟨f,(hs 3 o_).trans h3⟩,fun j=>(World.frozen?_setCell ..).trans (h.fz j)⟩;exact h.dice.set (p:=(f_ b 2)) h.ne _
theorem Mk.set3 (h:Mk d b lp w) (x:Int):Mk d b lp (w.setCell (f_ b 3) (i_ x)):=by
 obtain ⟨l,h1⟩:=h.c1;obtain ⟨f,h3⟩:=h.c3;have hs:∀ j,j≠3->(w.setCell (f_ b 3) (i_ x)).cell? (f_ b j)=w.cell? (f_ b j):=fun j hj=>bg_ _ _ _ _ zl_
 refine ⟨?_,h.ne,wv_,(hs 0 o_).trans h.c0,⟨l,(hs 1 o_).trans h1⟩,(hs 2 o_).trans h.c2,⟨x,World.cell?_setCell_same _ _ _ h3⟩,fun j=>(World.frozen?_setCell ..).trans (h.fz j)⟩;exact h.dice.set (p:=(f_ b 3)) h.ne _
theorem Kp.setm {X:NP} (h:Kp (Zm d b) w w') (j:Nat) (v:Value):Kp (Zm d b) w (w'.setCell (f_ b j) v):=h.setCell (p:=(f_ b j)) (.inl (.inr rfl)) v
theorem Mk.nz (h:Mk d b lp w):¬Zm d b w:=fun e=>by
 have:=h.dice.lt;have:=h.lt;rcases e with e | e <;> omega
theorem Mk.zlt (h:Mk d b lp w):∀ k,Zm d b k->k<w:=fun k hk=>by
 have:=h.dice.lt;have:=h.lt;rcases hk with rfl | rfl <;> assumption
end
structure Md (d b lp:Nat) (w w':World):Prop where
 ok:Mk d b lp w'
 kp:Kp (Zm d b) w w'
section
variable {d b lp:Nat} {w w' w2:World}
theorem Md.trans (h:Md d b lp w w') (h2:Md d b lp w' w2):Md d b lp w w2:=⟨h2.ok,h.kp.trans h2.kp⟩
theorem Md.refl (h:Mk d b lp w):Md d b lp w w:=⟨h,Kp.refl _ _⟩
theorem Md.below (h:Md d b lp w w') (hb:Below w' w' w2):Md d b lp w w2:=⟨h.ok.below hb,h.kp.ba_ hb⟩
theorem Md.alloc (h:Md d b lp w w') (o:Obj):Md d b lp w (w'.alloc o):=h.below ((b_).alloc (l_) o)
theorem Md.drew (h:Md d b lp w w'):Md d b lp w w'.drew:=h.below (Below.drew (b_))
theorem Md.set1 (h:Md d b lp w w') (x:Int):Md d b lp w (w'.setCell (f_ b 1) (i_ x)):=⟨h.ok.set1 x,h.kp.setCell (p:=(f_ b 1)) (.inl (.inr rfl)) _⟩
theorem Md.new (h:Md d b lp w w') {p:Addr} (hp:w<=p.block) (hb:b<p.block) (u:Value):Md d b lp w (w'.setCell p u):=by
 have hd:=h.ok.ne;have hs:∀ j,(w'.setCell p u).cell? (f_ b j)=w'.cell? (f_ b j):=fun j=>bg_ _ _ _ _ (by intro e;rw [e] at hb;exact Nat.lt_irrefl _ hb)
 obtain ⟨l,h1⟩:=h.ok.c1;obtain ⟨f,h3⟩:=h.ok.c3;exact ⟨⟨h.ok.dice.set o_ u,hd,by simpa [World.setCell] using h.ok.lt,(hs 0).trans h.ok.c0,⟨l,(hs 1).trans h1⟩,(hs 2).trans h.ok.c2,⟨f,(hs 3).trans h3⟩,fun j=>(World.frozen?_setCell ..).trans (h.ok.fz j)⟩,h.kp.setCell (.inr hp) u⟩
end
def exL (kd n:Int) (s:ByteArray) (op:Int) (A:OA) (m c:Nat):VL:=[i_ kd,i_ n,.string s,i_ op,.slice A m c]
def stL (kd:Int) (s f:ByteArray) (n op:Int) (A:OA) (m c:Nat) (B:OA) (m1 c1:Nat) (C:OA) (m2 c2:Nat):VL:=[i_ kd,.string s,.string f,i_ n,i_ op,.slice A m c,.slice B m1 c1,.slice C m2 c2]
def RE (X:NP) (d:Nat) (e:Ending) (w:World):Prop:=∃ (kd n:Int) (s:ByteArray) (op:Int) (A:OA) (m c:Nat),e=.returned (.agg #[i_ kd,i_ n,.string s,i_ op,.slice A m c])/\Hid (VTs w X 20 (be_ d) (exL kd n s op A m c)/\pE (exL kd n s op A m c))
def RS (X:NP) (d:Nat) (e:Ending) (w:World):Prop:=∃ (kd:Int) (s f:ByteArray) (n op:Int) (A:OA) (m c:Nat) (B:OA) (m1 c1:Nat) (C:OA) (m2 c2:Nat),e=.returned (.agg #[i_ kd,.string s,.string f,i_ n,i_ op,.slice A m c,.slice B m1 c1,.slice C m2 c2])/\Hid (VTs w X 20 (ag_ d) (stL kd s f n op A m c B m1 c1 C m2 c2)/\pS (stL kd s f n op A m c B m1 c1 C m2 c2))
section
variable {X:NP} {w w':World} {d d':Nat}
theorem vts_ex0 (kd n:Int) (s:ByteArray) (op:Int):VTs w X 20 (be_ 0) (exL kd n s op none 0 0):=VTs.cons (.num _) (VTs.cons (.num _) (VTs.cons (.txt _) (VTs.cons (.num _) (VTs.cons (SlP.nil _ _ _ _ _).vt VTs.nil))))
theorem vts_ex {kd n:Int} {s:ByteArray} {op:Int} {A:OA} {m c:Nat} (h:SlP w X 20 pE (be_ d) A m c):VTs w X 20 (be_ (d+1)) (exL kd n s op A m c):=VTs.cons (.num _) (VTs.cons (.num _) (VTs.cons (.txt _) (VTs.cons (.num _) (VTs.cons h.vt VTs.nil))))
theorem pE_ex {kd n:Int} {s:ByteArray} {op:Int} {A:OA} {m c:Nat} (h4:kd=4->1<=m) (h5:kd=5->2<=m) (hs:s.size<=100):pE (exL kd n s op A m c):=⟨kd,n,s,op,A,m,c,rfl,h4,h5,hs⟩
theorem pS_st {kd:Int} {s f:ByteArray} {n op:Int} {A B C:OA} {m c m1 c1 m2 c2:Nat} (h5:kd=5->2<=m) (h6:kd=6->1<=m) (h3:kd=3->f=nameF\/f=nameG) (hs:s.size<=100) (hf:f.size<=100):pS (stL kd s f n op A m c B m1 c1 C m2 c2):=⟨kd,s,f,n,op,A,B,C,m,c,m1,c1,m2,c2,rfl,h5,h6,h3,hs,hf⟩
theorem vts_st {kd:Int} {s f:ByteArray} {n op:Int} {A B C:OA} {m c m1 c1 m2 c2:Nat} (h:SlP w X 20 pE (be_ dE) A m c) (h1:SlP w X 20 pS (ag_ d) B m1 c1) (h2:SlP w X 20 pS (ag_ d) C m2 c2):VTs w X 20 (ag_ (d+1)) (stL kd s f n op A m c B m1 c1 C m2 c2):=vts_stmt h h1 h2
theorem eg_ {kd:Int} {s f:ByteArray} {n op:Int} {A:OA} {m c:Nat} (h:SlP w X 20 pE (be_ dE) A m c):VTs w X 20 (ag_ 0) (stL kd s f n op A m c none 0 0 none 0 0):=vts_stmt0 h (SlP.nil _ _ _ _ _) (SlP.nil _ _ _ _ _)
end
end Go.Proofs.YtfolidlmgfhkiaaGreat
