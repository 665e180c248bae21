/- Lemmas: each says what a function of the program leaves, under the conditions that it states. -/
import Derived.Test.YtfolidlmgfhkiaaGreatZ19
import Derived.Test.YtfolidlmgfhkiaaGreatZ15
set_option linter.unusedVariables false
set_option linter.unusedSimpArgs false
set_option maxRecDepth 100000
set_option maxHeartbeats 8000000
namespace Go.Proofs.YtfolidlmgfhkiaaGreat
open Go.RowKit Go.Proofs.Tryz
theorem results_tmp3' {P:Program} {fn:Func} {t u s:Tmp} (h:fn.results=#[.tmp t,.tmp u,.tmp s]) (tmps:Array Value) (w:World) :
  (results fn tmps).run P w=.ok (.tuple #[tmps.getD t undef,tmps.getD u undef,tmps.getD s undef]) w:=by
 simp [results,h]
def RMe (e:Ending):Prop:=∃ (a b:Int) (k:Bool),e=.returned (.tuple #[i_ a,i_ b,.bool k])
structure StC (w:World) (A:OA) (k:Nat) (kd:Int) (s f:ByteArray) (n op:Int) (E B C:OA) (m c m1 c1 m2 c2:Nat) (g o:Nat):Prop where
 hA:A=some (f_ g o)
 lt:g<w
 k0:w.cell? ⟨g,o+k*8,none⟩=some (i_ kd)
 k1:w.cell? ⟨g,o+k*8+1,none⟩=some (.string s)
 k2:w.cell? ⟨g,o+k*8+2,none⟩=some (.string f)
 k3:w.cell? ⟨g,o+k*8+3,none⟩=some (i_ n)
 k4:w.cell? ⟨g,o+k*8+4,none⟩=some (i_ op)
 k5:w.cell? ⟨g,o+k*8+5,none⟩=some (.slice E m c)
 k6:w.cell? ⟨g,o+k*8+6,none⟩=some (.slice B m1 c1)
 k7:w.cell? ⟨g,o+k*8+7,none⟩=some (.slice C m2 c2)
theorem StC.up {w w':World} {A:OA} {k:Nat} {kd:Int} {s f:ByteArray} {n op:Int} {E B C:OA} {m c m1 c1 m2 c2 g o:Nat} (h:StC w A k kd s f n op E B C m c m1 c1 m2 c2 g o) (hb:Below w w w'):StC w' A k kd s f n op E B C m c m1 c1 m2 c2 g o:=by
 have hc:∀ j,w'.cell? (f_ g j)=w.cell? (f_ g j):=fun j=>belc hb h.lt
 exact ⟨h.hA,lt_ h.lt hb.size,(hc _).trans h.k0,(hc _).trans h.k1,(hc _).trans h.k2,(hc _).trans h.k3,(hc _).trans h.k4,(hc _).trans h.k5,(hc _).trans h.k6,(hc _).trans h.k7⟩
theorem StC.of {w:World} {A:OA} {k g o:Nat} {kd:Int} {s f:ByteArray} {n op:Int} {E B C:OA} {m c m1 c1 m2 c2:Nat} (hA:A=some (f_ g o)) (hg:g<w) (hc:∀ j u,([i_ kd,.string s,.string f,i_ n,i_ op,.slice E m c,.slice B m1 c1,.slice C m2 c2]:VL)[j]?=some u->w.cell? ⟨g,o+k*8+j,none⟩=some u):StC w A k kd s f n op E B C m c m1 c1 m2 c2 g o :=
 ⟨hA,hg,hc 0 _ rfl,hc 1 _ rfl,hc 2 _ rfl,hc 3 _ rfl,hc 4 _ rfl,hc 5 _ rfl,hc 6 _ rfl,hc 7 _ rfl⟩
theorem SlP.st {d:Nat} {X:NP} {w:World} {K:Nat} {A:OA} {n c k:Nat} (h:SlP w X K pS (al_ d) A n c) (hk:k<n):∃ (kd:Int) (s f:ByteArray) (nn op:Int) (E B C:OA) (m c m1 c1 m2 c2 g o:Nat),StC w A k kd s f nn op E B C m c m1 c1 m2 c2 g o/\SlP w X K pE (ay_ dE) E m c/\(s.size<=100/\f.size<=100)/\¬X g/\(kd=5->2<=m)/\(kd=6->1<=m)/\(kd=3->f=nameF∨f=nameG) ∧
  (d=0->m1=0/\m2=0)/\∀ d',d=d'+1->SlP w X K pS (al_ d') B m1 c1/\SlP w X K pS (al_ d') C m2 c2:=by
 obtain ⟨g,o,us,hA,hg,hX,hu,⟨kd,s,f,nn,op,E,B,C,m,c',m1,c1,m2,c2,rfl,p1,p2,p3,p4,p5⟩,hc⟩:=h.el hk;rw [bz_] at hc;cases d with
 | zero =>
  obtain ⟨A0,s',f',n',A1,A',B',C',m',q',x1,x2,e,h1,h2,h3⟩:=hu.stmt0;injection e with e0 e;injection e with e1 e;injection e with e2 e;injection e with e3 e;injection e with e4 e;injection e with e5 e;injection e with e6 e;injection e with e7 e;injection e5 with a1 a2 a3;injection e6 with b1 b2 b3;injection e7 with d1 d2 d3;subst a1 a2 a3;exact ⟨kd,s,f,nn,op,E,B,C,m,c',m1,c1,m2,c2,g,o,StC.of hA hg hc,h1,⟨p4,p5⟩,hX,p1,p2,p3,fun _=>⟨b2,d2⟩,fun d' e=>by cases e⟩
 | succ d =>
  obtain ⟨A0,s',f',n',A1,A',B',C',m',q',x1,y1,x2,y2,e,h1,h2,h3⟩:=hu.stmt;injection e with e0 e;injection e with e1 e;injection e with e2 e;injection e with e3 e;injection e with e4 e;injection e with e5 e;injection e with e6 e;injection e with e7 e;injection e5 with a1 a2 a3;injection e6 with b1 b2 b3;injection e7 with d1 d2 d3;subst a1 a2 a3 b1 b2 b3 d1 d2 d3;exact ⟨kd,s,f,nn,op,E,B,C,m,c',m1,c1,m2,c2,g,o,StC.of hA hg hc,h1,⟨p4,p5⟩,hX,p1,p2,p3,x_,fun d' e=>by injection e with e;subst e;exact ⟨h2,h3⟩⟩
theorem es_ (X:NP) (K:Nat) (hK:K<=900000000) (A:OA) (n c:Nat) (w:World) (hn:n<=900000000)
  (hk:∀ k,k<n->∃ (kd:Int) (s f:ByteArray) (nn op:Int) (E B C:OA) (m c m1 c1 m2 c2 g o:Nat),StC w A k kd s f nn op E B C m c m1 c1 m2 c2 g o/\SlP w X K pE (ay_ dE) E m c/\(s.size<=100/\f.size<=100) ∧
   ∀ w':World,Below w w w'->(Calls prog 187 #[.slice B m1 c1] w' fun e w''=>RMe e/\Below w' w' w'')/\Calls prog 187 #[.slice C m2 c2] w' fun e w''=>RMe e/\Below w' w' w'') :
  Calls prog 187 #[.slice A n c] w fun e w'=>RMe e/\Below w w w':=by
 have HK:=q_ hk;clear hk;go_enter func187,ntmps187;go_upto_region 3 with fail;go_loopw [5,6,17] (fun a b i wr=>∃ (k:Nat) (p q:Int),k<=n/\a=i_ p/\b=i_ q/\i=i_ k/\Hid (Below w w wr)) (fun _ _ i _=>n - (intOf i).toNat)
 case atStart=>exact ⟨0,0,0,o_,rfl,rfl,rfl,q_ (b_)⟩
 obtain ⟨k,p,q,A8,rfl,rfl,rfl,HR⟩:=hrel;have A6:(w:Nat)<=wr:=HR.o.size;by_cases hlt:k<n
 ·have A2:(k:Int)<(n:Int):=by omega
  obtain ⟨kd,s,f,nn,op,E,B,C,m,c',m1,c1,m2,c2,g,o,A5,hE,hsz,A1⟩:=HK.o k hlt;obtain ⟨rfl,hg,k0,k1,k2,k3,k4,k5,k6,k7⟩:=A5.up HR.o;obtain ⟨V,hV,A4,A7,B0⟩:=af_ wr [i_ kd,.string s,.string f,i_ nn,i_ op,.slice E m c',.slice B m1 c1,.slice C m2 c2] 212;have A0:=q_ (HR.o.trans (A4.mono A6));have KC:=h_ (∀ w',Below V V w'->(w'.cell? (a_ wr)=some (i_ kd)/\w'.cell? (f_ wr 1)=some (.string s)/\w'.cell? (f_ wr 2)=some (.string f)/\w'.cell? (f_ wr 3)=some (i_ nn)/\w'.cell? (f_ wr 4)=some (i_ op)/\w'.cell? (f_ wr 5)=some (.slice E m c')/\w'.cell? (f_ wr 6)=some (.slice B m1 c1)/\w'.cell? (f_ wr 7)=some (.slice C m2 c2))) (fun w' hb =>
   ⟨(B0.below hb).2.1 0 _ rfl,(B0.below hb).2.1 1 _ rfl,(B0.below hb).2.1 2 _ rfl,(B0.below hb).2.1 3 _ rfl,(B0.below hb).2.1 4 _ rfl,(B0.below hb).2.1 5 _ rfl,(B0.below hb).2.1 6 _ rfl,(B0.below hb).2.1 7 _ rfl⟩)
  have HE:=q_ hE;have HS:=q_ hsz;have A3:=q_ A1;clear B0 A4 A5 hE hsz A1;go_upto_region 5 with fail;rw [←hV];clear hV k0 k1 k2 k3 k4 k5 k6 k7;obtain ⟨x0,x1,x2,x3,x4,x5,x6,x7⟩:=KC.o V (b_);go_wp2_with fail;refine (statement_step kd s f nn op E B C m c' m1 c1 m2 c2 X K hK dE V (HE.o.below A0.o) HS.o).mono ?_;rintro e W1 ⟨⟨b,rfl⟩,hB⟩;have H1:=q_ hB;clear x0 x1 x2 x3 x4 x5 x6 x7 hB;obtain ⟨x0,x1,x2,x3,x4,x5,x6,x7⟩:=KC.o W1 H1.o;cases b
  case false =>
   go_wp2;try simp only [Exit.inBlock,Exit.then]
   refine bodyPost_ret (results_tmp3' (by rfl) _ _) rfl ?_;exact ⟨⟨_,_,_,rfl⟩,A0.o.trans (H1.o.mono A0.o.size)⟩
  case true =>
  go_wp2_with fail;refine (A3.o W1 (A0.o.trans (H1.o.mono A0.o.size))).1.mono ?_;rintro e W2 ⟨⟨a1,b1,o1,rfl⟩,hB⟩;have H2:=q_ (H1.o.trans (hB.mono H1.o.size));clear x0 x1 x2 x3 x4 x5 x6 x7 hB;obtain ⟨x0,x1,x2,x3,x4,x5,x6,x7⟩:=KC.o W2 H2.o;go_wp2_with fail;refine (A3.o W2 (A0.o.trans (H2.o.mono A0.o.size))).2.mono ?_;rintro e W3 ⟨⟨a2,b2,o2,rfl⟩,hB⟩;have H3:=q_ (H2.o.trans (hB.mono H2.o.size));clear x0 x1 x2 x3 x4 x5 x6 x7 hB;cases o1 <;> cases o2
  all_goals
   go_wp2;first
    | (try simp only [Exit.inBlock,Exit.then]
       refine bodyPost_ret (results_tmp3' (by rfl) _ _) rfl ?_
       exact ⟨⟨_,_,_,rfl⟩,A0.o.trans (H3.o.mono A0.o.size)⟩)
    | (go_roundw
       case rel=>exact ⟨k+1,_,_,o_,rfl,rfl,by go_num,q_ (A0.o.trans (H3.o.mono A0.o.size))⟩
       case measure=>simp [intOf];omega)
 have A2:¬(k:Int)<(n:Int):=by omega
 go_wp2;try simp only [Exit.inBlock,Exit.then]
 refine bodyPost_ret (results_tmp3' (by rfl) _ _) rfl ?_;exact ⟨⟨_,_,_,rfl⟩,HR.o⟩
theorem measure_any (X:NP) (K:Nat) (hK:K<=900000000):∀ (d:Nat) (A:OA) (n c:Nat) (w:World),SlP w X K pS (al_ d) A n c->Calls prog 187 #[.slice A n c] w fun e w'=>RMe e/\Below w w w'
 | 0,A,n,c,w,h=>by
  refine es_ X K hK A n c w (Nat.le_trans h.sl.le hK) (fun k hk=>?_);obtain ⟨kd,s,f,nn,op,E,B,C,m,c',m1,c1,m2,c2,g,o,h1,h2,h3,_,_,_,_,h0,_⟩:=h.st hk;obtain ⟨rfl,rfl⟩:=h0 rfl;exact ⟨kd,s,f,nn,op,E,B,C,m,c',0,c1,0,c2,g,o,h1,h2,h3,fun w' hb=>⟨es_ X K hK B 0 c1 w' o_ (fun k hk=>o_),es_ X K hK C 0 c2 w' o_ (fun k hk=>o_)⟩⟩
 | d+1,A,n,c,w,h=>by
  refine es_ X K hK A n c w (Nat.le_trans h.sl.le hK) (fun k hk=>?_);obtain ⟨kd,s,f,nn,op,E,B,C,m,c',m1,c1,m2,c2,g,o,h1,h2,h3,_,_,_,_,_,hd⟩:=h.st hk;exact ⟨kd,s,f,nn,op,E,B,C,m,c',m1,c1,m2,c2,g,o,h1,h2,h3,fun w' hb=>⟨measure_any X K hK d B m1 c1 w' ((hd d rfl).1.below hb),measure_any X K hK d C m2 c2 w' ((hd d rfl).2.below hb)⟩⟩
section
variable {P:Program} {w:World} {ops:Array Oper} {rest:List Oper} {o:Oper} {a:Act} {Q:Exit->Act->World->Prop} {t et:TypeId} {bytes:Nat} {e:List CT} {X:NP} {K base n c m d:Nat} {A B:OA}
theorem cs_ (hgd:o.guard=none) (s x:Operand) (ho:o.op=.call { callee:=.builtin .append,args:=#[s,x],argTypes:=#[t,t] }) (E:EI P t et e bytes)
  (hs:a.eval s=.slice A n c) (hown:OwT w base et e X K A n c) (hx:a.eval x=.slice B m d) (hsrc:SlT w (Wi X (Value.slice A n c).ownBlock) K e B m d)
  (hX:∀ k,X k->k<w) (h63:n+m<=maxLen) (hbytes:(n+m)*bytes<=140737488355328) (hbase:base<=w)
  (h:∀ A' c' w',OwT w' base et e X K A' (n+m) c'->w.grownBy w' (Value.slice A n c).ownBlock->(∀ g,(Value.slice A' (n+m) c').ownBlock=some g->(Value.slice A n c).ownBlock=some g∨g=w)->wpList P ops Q rest (a.put o.dst (.slice A' (n+m) c')) w'):wpList P ops Q (o :: rest) a w:=by
 obtain ⟨i,z,hi,hz,A0,A1,A2⟩:=E.hi;exact aq_ hgd s x t ho base et i z bytes e X K E.ht hi hz A0 A1 A2 E.hsz A n c hs hown B m d hx hsrc hX h63 hbytes hbase h
theorem cw_ {K0:Act->World->Prop} {El:Prop} (hgd:o.guard=none) (s x:Operand) (ho:o.op=.call { callee:=.builtin .append,args:=#[s,x],argTypes:=#[t,t] }) (E:EI P t et e bytes)
  (hs:a.eval s=.slice A n c) (hown:OwT w base et e X K A n c) (hx:a.eval x=.slice B m d) (hsrc:SlT w (Wi X (Value.slice A n c).ownBlock) K e B m d)
  (hX:∀ k,X k->k<w) (h63:n+m<=maxLen) (hbytes:(n+m)*bytes<=140737488355328) (hbase:base<=w)
  (h:∀ A' c' w',OwT w' base et e X K A' (n+m) c'->w.grownBy w' (Value.slice A n c).ownBlock->(∀ g,(Value.slice A' (n+m) c').ownBlock=some g->(Value.slice A n c).ownBlock=some g∨g=w)->K0 (a.put o.dst (.slice A' (n+m) c')) w') :
  if Region.wanted o (yielded ops a.tmps)=true then Oper.wp P o a w K0 Q else El:=by
 obtain ⟨i,z,hi,hz,A0,A1,A2⟩:=E.hi;exact bu_ hgd s x t ho base et i z bytes e X K E.ht hi hz A0 A1 A2 E.hsz A n c hs hown B m d hx hsrc hX h63 hbytes hbase h
end
theorem SlT.less2 {X Y:NP} {w:World} {K:Nat} {e:List CT} {A:OA} {n c:Nat} (h:SlT w X K e A n c) (hXY:∀ k,k<w.heap.size->Y k->X k):SlT w Y K e A n c:=h.kept (Kp.refl _ _) (fun k hk hx hy=>hx (hXY k hk hy)) (l_)
theorem ei_str:EI prog 188 9 [.txt] 16:=EI.of (z:=.string ByteArray.empty) underlying188 k_ rfl d_
def nX:NP:=fun _=>False
def ownX (A:OA) (n c:Nat):NP:=fun k=>(Value.slice A n c).ownBlock=some k
structure Gr (w:World) (base K:Nat) (A:OA) (n c m:Nat) (A':OA) (n' c':Nat) (w':World):Prop where
 lo:n<=n'
 hi:n'<=n+m
 own:OwT w' base 9 [.txt] nX K A' n' c'
 kp:Kp (ownX A n c) w w'
 loc:∀ g,(Value.slice A' n' c').ownBlock=some g->(Value.slice A n c).ownBlock=some g∨w<=g
def RGr (w:World) (base K:Nat) (A:OA) (n c m:Nat) (e:Ending) (w':World):Prop:=∃ A' n' c',e=.returned (.slice A' n' c')/\Hid (Gr w base K A n c m A' n' c' w')
theorem Gr.refl {w:World} {base K:Nat} {A:OA} {n c:Nat} (h:OwT w base 9 [.txt] nX K A n c) (m:Nat):Gr w base K A n c m A n c w:=⟨l_,Nat.le_add_right _ _,h,Kp.refl _ _,fun g hg=>.inl hg⟩
theorem Gr.trans {w w' w2:World} {base K:Nat} {A A' A2:OA} {n c m n' c' m' n2 c2:Nat} (h:Gr w base K A n c m A' n' c' w') (h2:Gr w' base K A' n' c' m' A2 n2 c2 w2):Gr w base K A n c (m+m') A2 n2 c2 w2 :=
 ⟨Nat.le_trans h.lo h2.lo,by have:=h.hi;have:=h2.hi;omega,h2.own,by
  refine ⟨h2.kp.os.trans h.kp.os,h2.kp.tape.trans h.kp.tape,h2.kp.output.trans h.kp.output,Nat.le_trans h.kp.size h2.kp.size,fun k hk hx=>(h2.kp.block k (lt_ hk h.kp.size) (fun A0=>?_)).trans (h.kp.block k hk hx)⟩
  rcases h.loc k A0 with h3 | h3
  ·exact hx h3
  ·omega,fun g hg=>by
  rcases h2.loc g hg with h3 | h3
  ·exact h.loc g h3
  exact .inr (Nat.le_trans h.kp.size h3)⟩
theorem OwT.names {w:World} {base K:Nat} {A:OA} {n c:Nat} (h:OwT w base 9 [.txt] nX K A n c) (hn:n<=K):SlT w nX K [.txt] A n c:=h.slT (fun k h=>h.elim) hn
theorem Gr.below {w w' w2:World} {base K:Nat} {A A':OA} {n c m n' c':Nat} (h:Gr w base K A n c m A' n' c' w') (hb:Below w' w' w2):Gr w base K A n c m A' n' c' w2 :=
 ⟨h.lo,h.hi,h.own.below hb,h.kp.bc_ hb,h.loc⟩
theorem Gr.more {w w':World} {base K:Nat} {A A':OA} {n c m m' n' c':Nat} (h:Gr w base K A n c m A' n' c' w') (hm:m<=m'):Gr w base K A n c m' A' n' c' w' :=
 ⟨h.lo,by have:=h.hi;omega,h.own,h.kp,h.loc⟩
theorem lit_names {w:World} {A:OA} {n c K:Nat} (s:ByteArray) (h:∀ g,(Value.slice A n c).ownBlock=some g->g<w) (hK:1<=K):SlT (w.alloc (.cells #[.string s] 9)) (Wi nX (Value.slice A n c).ownBlock) K [.txt] (some (a_ w)) 1 1 :=
 SlT.lit1 (VTs.cons (.txt s) VTs.nil) 9 (fun hx=>by
  rcases hx with hx | hx
  ·exact hx
  have:=h _ hx;omega) hK
theorem OwT.olt {w:World} {base K:Nat} {et:TypeId} {e:List CT} {X:NP} {A:OA} {n c:Nat} (h:OwT w base et e X K A n c):∀ g,(Value.slice A n c).ownBlock=some g->g<w:=fun g hg=>by obtain ⟨xs,ho,_⟩:=h;exact (an_ ho hg).2
theorem add_t (w:World) (base K:Nat) (A:OA) (n c:Nat) (s:ByteArray) (h:OwT w base 9 [.txt] nX K A n c) (hn:n+1<=K) (hK:K<=900000000) (hb:base<=w) :
  Calls prog 163 #[.slice A n c,.string s] w fun e w'=>RGr w base K A n c 1 e w':=by
 have H:=q_ h;clear h;go_enter func163,ntmps163;go_wp2_with fail;refine (Has_any A n c s nX K w (H.o.names o_) hK).mono ?_;rintro e W ⟨⟨b,rfl⟩,hB⟩;have HB:=q_ hB;clear hB;have G0:=q_ ((Gr.refl H.o 0).below HB.o);cases b
 case true =>
  go_wp2;go_ret;exact ⟨A,n,c,rfl,q_ (G0.o.more o_)⟩
 have HU:=q_ (lit_names (w:=W) (A:=A) (n:=n) (c:=c) (K:=K) s G0.o.own.olt o_);have HO:=q_ (G0.o.own.below ((b_).alloc (l_) (.cells #[.string s] 9)));have A0:base<=W:=Nat.le_trans hb HB.o.size;go_wp2_with (at_builtin;refine cs_ rfl _ _ rfl ei_str (by simp [Act.eval]) HO.o (by simp [Act.eval]) HU.o (fun k h=>h.elim) m_ o_ (by simp;omega) ?_;intro A5 c5 w5 o5 g5 l5;have O5:=q_ o5;have G5:=q_ g5;have L5:=q_ l5;clear o5 g5 l5);go_ret;refine ⟨_,_,_,rfl,q_ ⟨o_,l_,O5.o,?_,fun g hg=>?_⟩⟩
 ·exact ((G0.o.kp.alloc _).grown G5.o (fun k hk=>.inl hk))
 rcases L5.o g hg with h1 | h1
 ·exact .inl h1
 exact .inr (by rw [h1];have:=HB.o.size;simp;omega)
def cw:Nat->Nat
 | 0=>20
 | d+1=>20*(1+2*cw d)
theorem Gr.stay {w w':World} {base K:Nat} {A A':OA} {n c m n' c':Nat} (h:Gr w base K A n c m A' n' c' w') {p:VL->Prop} {e:List CT} {B:OA} {q r L:Nat} (hp:SlP w (ownX A n c) L p e B q r):SlP w' (ownX A' n' c') L p e B q r :=
 hp.kept h.kp (fun k hk hn hx=>by rcases h.loc k hx with h1 | h1;exact hn h1;omega) (l_)
theorem Gr.stc {w w':World} {base K:Nat} {A A':OA} {n c m n' c':Nat} (h:Gr w base K A n c m A' n' c' w') {k:Nat} {kd:Int} {s f:ByteArray} {nn op:Int} {D E B C:OA} {q1 q2 m1 c1 m2 c2 g o:Nat} (hs:StC w D k kd s f nn op E B C q1 q2 m1 c1 m2 c2 g o) (hg:¬ownX A n c g):StC w' D k kd s f nn op E B C q1 q2 m1 c1 m2 c2 g o:=by
 have hc:∀ j,w'.cell? (f_ g j)=w.cell? (f_ g j):=fun j=>h.kp.cell hs.lt hg
 exact ⟨hs.hA,lt_ hs.lt h.kp.size,(hc _).trans hs.k0,(hc _).trans hs.k1,(hc _).trans hs.k2,(hc _).trans hs.k3,(hc _).trans hs.k4,(hc _).trans hs.k5,(hc _).trans hs.k6,(hc _).trans hs.k7⟩
theorem Gr.cell {w w':World} {base K:Nat} {A A':OA} {n c m n' c':Nat} (h:Gr w base K A n c m A' n' c' w') {b j:Nat} (hb:b<w) (hn:¬ownX A n c b):w'.cell? (f_ b j)=w.cell? (f_ b j):=h.kp.cell hb hn
theorem walk_step (base K cst:Nat) (hK:K<=900000000) (B:OA) (nb cb:Nat) (A:OA) (n c:Nat) (w:World) (hnb:nb<=20) (h:OwT w base 9 [.txt] nX K A n c) (hn:n+nb*(1+2*cst)<=K) (hb:base<=w)
  (hk:∀ k,k<nb->∃ (kd:Int) (s f:ByteArray) (nn op:Int) (E B' C:OA) (m c' m1 c1 m2 c2 g o:Nat),StC w B k kd s f nn op E B' C m c' m1 c1 m2 c2 g o/\¬ownX A n c g ∧
   ∀ (A':OA) (n' c' q:Nat) (w' w2:World),Gr w base K A n c q A' n' c' w2->w'=w2->n'+cst<=K->(Calls prog 164 #[.slice A' n' c',.slice B' m1 c1] w' fun e w''=>RGr w' base K A' n' c' cst e w'')/\Calls prog 164 #[.slice A' n' c',.slice C m2 c2] w' fun e w''=>RGr w' base K A' n' c' cst e w'') :
  Calls prog 164 #[.slice A n c,.slice B nb cb] w fun e w'=>RGr w base K A n c (nb*(1+2*cst)) e w':=by
 have H:=q_ h;have HK:=q_ hk;clear h hk;go_enter func164,ntmps164;go_upto_region 2 with fail;go_loopw [0,9] (fun v i wr=>∃ (k:Nat) (A':OA) (n' c':Nat),k<=nb/\v=.slice A' n' c'/\i=i_ k/\n'<=n+k*(1+2*cst)/\Hid (Gr w base K A n c (k*(1+2*cst)) A' n' c' wr)) (fun _ i _=>nb - (intOf i).toNat)
 case atStart=>exact ⟨0,A,n,c,o_,rfl,rfl,o_,q_ (Gr.refl H.o _)⟩
 obtain ⟨k,A1,n1,c1,Aq,rfl,rfl,Ar,HG⟩:=hrel;have An:(w:Nat)<=wr:=HG.o.kp.size;by_cases hlt:k<nb
 ·have Ac:(k:Int)<(nb:Int):=by omega
  have Am:(k+1)*(1+2*cst)<=nb*(1+2*cst):=Nat.mul_le_mul_right _ hlt;have Ae:(k+1)*(1+2*cst)=k*(1+2*cst)+1+cst+cst:=by rw [Nat.succ_mul];omega
  obtain ⟨kd,s,f,nn,op,E,B',C,m,c',m1,A9,m2,c2,g,o,Ag,Af,A0⟩:=HK.o k hlt;obtain ⟨rfl,hg,k0,k1,k2,k3,k4,k5,k6,k7⟩:=HG.o.stc Ag Af;obtain ⟨V,hV,Aa,Ap,B0⟩:=af_ wr [i_ kd,.string s,.string f,i_ nn,i_ op,.slice E m c',.slice B' m1 A9,.slice C m2 c2] 212;have GV:=q_ (HG.o.below Aa);have Ai:=q_ Aa;have Ao:=q_ B0;have A5:¬ownX A1 n1 c1 wr:=fun hx=>by have:=HG.o.own.olt _ hx;omega
  have KC:=h_ (∀ (w':World) (q:Nat) (A2:OA) (n2 A6:Nat),Gr V base K A1 n1 c1 q A2 n2 A6 w'->(w'.cell? (f_ wr 1)=some (.string s)/\w'.cell? (f_ wr 6)=some (.slice B' m1 A9)/\w'.cell? (f_ wr 7)=some (.slice C m2 c2))) (fun w' q A2 n2 A6 Ab =>
   ⟨(Ab.cell o_ A5).trans (B0.2.1 1 _ rfl),(Ab.cell o_ A5).trans (B0.2.1 6 _ rfl),(Ab.cell o_ A5).trans (B0.2.1 7 _ rfl)⟩)
  have Ad:=q_ A0;have x0:=B0.2.1 0 _ rfl;clear B0 Aa Ag Af A0;go_upto_region 4 with fail;rw [←hV];clear hV k0 k1 k2 k3 k4 k5 k6 k7;go_wp2_with fail;refine (Names_any kd V).mono ?_;rintro e W1 ⟨⟨b,rfl⟩,hB⟩;have H1:=q_ hB;have G1:=h_ (Gr V base K A1 n1 c1 0 A1 n1 c1 W1) ((Gr.refl GV.o.own 0).below hB);have Al:base<=W1:=Nat.le_trans hb (Nat.le_trans An (Nat.le_trans Ai.o.size hB.size));clear x0 hB;obtain ⟨x1,x6,x7⟩:=KC.o W1 _ _ _ _ G1.o;go_upto_if 15 with fail;go_cut [0] (fun v wx=>∃ (A2:OA) (n2 A6:Nat),v=.slice A2 n2 A6/\Hid (Gr V base K A1 n1 c1 1 A2 n2 A6 wx))
  case first =>
   cases b
   case false =>
    go_wp2;go_meet;exact ⟨_,_,_,rfl,q_ (G1.o.more o_)⟩
   go_wp2_with fail;refine (add_t W1 base K A1 n1 c1 s G1.o.own o_ hK Al).mono ?_;rintro e W2 ⟨A2,n2,A6,rfl,Aj⟩;go_wp2;go_meet;exact ⟨A2,n2,A6,rfl,q_ ((G1.o.trans Aj.o).more o_)⟩
  rename World=>W2
  obtain ⟨A2,n2,A6,rfl,G2⟩:=hcut;clear x1 x6 x7;obtain ⟨x1,x6,x7⟩:=KC.o W2 _ _ _ _ G2.o;have As:n2<=n1+1:=G2.o.hi;have Ak:(V:Nat)<=W2:=G2.o.kp.size;have Ah:=q_ (GV.o.trans G2.o);go_upto_region 6 with fail;go_region_held3 (fun w'=>w'.cell? (f_ wr 6)=some (.slice B' m1 A9)/\w'.cell? (f_ wr 7)=some (.slice C m2 c2))
   (first | exact ⟨x6,x7⟩ | exact ⟨y6,y7⟩ | exact ⟨z6,z7⟩)
   (first
    | (go_at_call_of 164 (Value.slice A2 n2 A6);refine (Ad.o A2 n2 A6 _ W2.drew W2.drew (Ah.o.below (Below.drew (b_))) rfl o_).1.mono ?_;rintro e W3 ⟨A3,n3,c3,rfl,G3⟩;have A7:=h_ (Gr V base K A1 n1 c1 (1+cst) A3 n3 c3 W3) ((G2.o.below (Below.drew (b_))).trans G3.o);obtain ⟨y1,y6,y7⟩:=KC.o W3 _ _ _ _ A7.out;have Au:n3<=n2+cst:=G3.o.hi)
    | (go_at_call_of 164 (Value.slice A3 n3 c3);refine (Ad.o A3 n3 c3 _ W3 W3 (GV.o.trans A7.out) rfl o_).2.mono ?_;rintro e W4 ⟨A4,n4,c4,rfl,G4⟩;have A8:=h_ (Gr V base K A1 n1 c1 (1+cst+cst) A4 n4 c4 W4) (A7.out.trans G4.o);obtain ⟨z1,z6,z7⟩:=KC.o W4 _ _ _ _ A8.out))
  all_goals
   go_wp2_with fail;go_roundw
   case rel=>exact ⟨k+1,A4,n4,c4,o_,rfl,by go_num,by have:=A8.out.hi;omega,q_ ((GV.o.trans A8.out).more o_)⟩
   case measure=>simp [intOf];omega
 have Ac:¬(k:Int)<(nb:Int):=by omega
 obtain rfl:k=nb:=by omega
 go_wp2;go_ret;exact ⟨_,_,_,rfl,HG⟩
theorem walk_t (base K:Nat) (hK:K<=900000000):∀ (d:Nat) (B:OA) (nb cb:Nat) (A:OA) (n c:Nat) (w:World),SlP w (ownX A n c) 20 pS (al_ d) B nb cb->OwT w base 9 [.txt] nX K A n c->n+cw d<=K->base<=w →
  Calls prog 164 #[.slice A n c,.slice B nb cb] w fun e w'=>RGr w base K A n c (cw d) e w'
 | 0,B,nb,cb,A,n,c,w,hp,ho,hn,hb=>by
  have A1:=hp.sl.le;have h0:∀ (B:OA) (cb:Nat) (A:OA) (n c:Nat) (w:World),OwT w base 9 [.txt] nX K A n c->n<=K->base<=w->Calls prog 164 #[.slice A n c,.slice B 0 cb] w fun e w'=>RGr w base K A n c 0 e w':=fun B cb A n c w ho hn hb=>by
   have:=walk_step base K 0 hK B 0 cb A n c w o_ ho o_ hb (fun k hk=>o_)
   simpa using this
  refine (walk_step base K 0 hK B nb cb A n c w A1 ho (by unfold cw at hn;omega) hb (fun k hk=>?_)).mono (fun e w' h=>?_)
  ·obtain ⟨kd,s,f,nn,op,E,B',C,m,c',m1,c1,m2,c2,g,o,h1,h2,h3,h4,_,_,_,h5,_⟩:=hp.st hk;obtain ⟨rfl,rfl⟩:=h5 rfl;exact ⟨kd,s,f,nn,op,E,B',C,m,c',0,c1,0,c2,g,o,h1,h4,fun A' n' c' q w' w2 hG e A2=>by
    subst e
    have A0:base<=w':=Nat.le_trans hb hG.kp.size
    exact ⟨h0 _ _ _ _ _ _ hG.own o_ A0,h0 _ _ _ _ _ _ hG.own o_ A0⟩⟩
  obtain ⟨A',n',c',rfl,hG⟩:=h;exact ⟨A',n',c',rfl,q_ (hG.o.more (by unfold cw;omega))⟩
 | d+1,B,nb,cb,A,n,c,w,hp,ho,hn,hb=>by
  have A1:=hp.sl.le;have A3:nb*(1+2*cw d)<=20*(1+2*cw d):=Nat.mul_le_mul_right _ A1;have A4:cw (d+1)=20*(1+2*cw d):=rfl;refine (walk_step base K (cw d) hK B nb cb A n c w A1 ho o_ hb (fun k hk=>?_)).mono (fun e w' h=>?_)
  ·obtain ⟨kd,s,f,nn,op,E,B',C,m,c',m1,c1,m2,c2,g,o,h1,h2,h3,h4,_,_,_,_,h5⟩:=hp.st hk;obtain ⟨p1,p2⟩:=h5 d rfl;exact ⟨kd,s,f,nn,op,E,B',C,m,c',m1,c1,m2,c2,g,o,h1,h4,fun A' n' c' q w' w2 hG e A2=>by
    subst e
    have A0:base<=w':=Nat.le_trans hb hG.kp.size
    exact ⟨walk_t base K hK d _ _ _ _ _ _ _ (hG.stay p1) hG.own A2 A0,walk_t base K hK d _ _ _ _ _ _ _ (hG.stay p2) hG.own A2 A0⟩⟩
  obtain ⟨A',n',c',rfl,hG⟩:=h;exact ⟨A',n',c',rfl,q_ (hG.o.more o_)⟩
theorem Gr.slt {w w':World} {base K:Nat} {A A':OA} {n c m n' c':Nat} (h:Gr w base K A n c m A' n' c' w') {e:List CT} {B:OA} {q r L:Nat} (hp:SlT w (ownX A n c) L e B q r):SlT w' (ownX A' n' c') L e B q r :=
 hp.kept h.kp (fun k hk hn hx=>by rcases h.loc k hx with h1 | h1;exact hn h1;omega) (l_)
theorem Gr.nil {w w':World} {base K:Nat} {A':OA} {m n' c':Nat} (h:Gr w base K none 0 0 m A' n' c' w'):Below w w w':=h.kp.below (l_) (fun _ _ h=>by cases h)
theorem OwT.txt_any {X Y:NP} {w:World} {base K n c:Nat} {et:TypeId} {A:OA} (h:OwT w base et [.txt] X K A n c):OwT w base et [.txt] Y K A n c:=by
 obtain ⟨xs,ho,hx⟩:=h;refine ⟨xs,ho,fun k j t hk hj=>?_⟩;obtain ⟨u,hu,hv⟩:=hx k j t hk hj
 match j,hj with
 | 0,hj=>injection hj with hj;subst hj;obtain ⟨s,rfl⟩:=hv.str;exact ⟨_,hu,.txt s⟩
def cr:Nat->Nat
 | 0=>1
 | d+1=>1+20*cr d
def RNm (w:World) (K:Nat) (e:Ending) (w':World):Prop:=∃ A n c,e=.returned (.slice A n c)/\Hid (SlT w' (fun k=>k<w) K [.txt] A n c)
theorem reads_step (cst K:Nat) (hK:K<=900000000) (kd n:Int) (s:ByteArray) (op:Int) (A:OA) (m c:Nat) (w:World) (hm:m<=20) (hcst:1+m*cst<=K)
  (hk:∀ k,k<m->∃ (g o:Nat) (kd' n':Int) (s':ByteArray) (op':Int) (A':OA) (m' c':Nat),A=some (f_ g o)/\g<w/\w.cell? ⟨g,o+k*5,none⟩=some (i_ kd')/\w.cell? ⟨g,o+k*5+1,none⟩=some (i_ n')/\w.cell? ⟨g,o+k*5+2,none⟩=some (.string s')/\w.cell? ⟨g,o+k*5+3,none⟩=some (i_ op')/\w.cell? ⟨g,o+k*5+4,none⟩=some (.slice A' m' c') ∧
   ∀ (w':World),Below w w w'->Calls prog 188 #[.agg #[i_ kd',i_ n',.string s',i_ op',.slice A' m' c']] w' fun e w''=>RNm w' cst e w''/\Below w' w' w'') :
  Calls prog 188 #[.agg #[i_ kd,i_ n,.string s,i_ op,.slice A m c]] w fun e w'=>RNm w K e w'/\Below w w w':=by
 obtain ⟨W,hW,Ag,Aq,B0⟩:=af_ w [i_ kd,i_ n,.string s,i_ op,.slice A m c] 209;have Ai:=q_ B0;have HW:=q_ Ag;have HK:=q_ hk;have x0:=B0.2.1 0 _ rfl;have x2:=B0.2.1 2 _ rfl;have Am:(w:Nat)<W:=by omega
 clear B0 Ag hk;go_enter func188,ntmps188;go_upto_region 2 with fail;rw [←hW];clear hW;have Aa:kd=3∨kd≠3:=by by_cases h:kd=3;exact .inl h;exact .inr h
 go_upto_if 10 with fail;go_cut [3] (fun v wx=>∃ (A1:OA) (n1 c1:Nat),v=.slice A1 n1 c1/\Hid (Gr W W K none 0 0 1 A1 n1 c1 wx))
 case first =>
  rcases Aa with Aa | Aa
  ·subst Aa;have HU:=q_ (lit_names (w:=W) (A:=none) (n:=0) (c:=0) (K:=K) s (fun g h=>by cases h) o_);go_wp2_with (at_builtin;refine cs_ (X:=nX) (K:=K) (base:=W) (A:=none) (n:=0) (c:=0) rfl _ _ rfl ei_str (by simp [Act.eval]) (OwT.nil _ _ _ _ _ _) (by simp [Act.eval] <;> omega) HU.o (fun k h=>h.elim) m_ o_ t_ ?_;intro A5 c5 w5 o5 g5 l5;have O5:=q_ o5;have G5:=q_ g5;have L5:=q_ l5;clear o5 g5 l5);go_meet;refine ⟨_,_,_,rfl,q_ ⟨o_,o_,O5.o,((Kp.refl _ W).alloc _).grown G5.o (fun k hk=>by cases hk),fun g hg=>?_⟩⟩;rcases L5.o g hg with h1 | h1
   ·cases h1
   exact .inr (by rw [h1];simp)
  go_wp2;go_meet;exact ⟨none,0,0,rfl,q_ (Gr.refl (OwT.nil _ _ _ _ _ _) _)⟩
 rename World=>W1
 obtain ⟨A1,n1,c1,rfl,G1⟩:=hcut;have x4:W1.cell? (f_ w 4)=some (.slice A m c):=(belc G1.o.nil Am).trans (Ai.o.2.1 4 _ rfl);clear x0 x2;go_upto_region 5 with fail;clear x4;go_loopw [3,19] (fun v i wr=>∃ (k:Nat) (A':OA) (n' c':Nat),k<=m/\v=.slice A' n' c'/\i=i_ k/\Hid (Gr W W K none 0 0 (1+k*cst) A' n' c' wr)) (fun _ i _=>m - (intOf i).toNat)
 case atStart=>exact ⟨0,A1,n1,c1,o_,rfl,rfl,q_ (G1.o.more o_)⟩
 obtain ⟨k,A2,n2,c2,Aw,rfl,rfl,HG⟩:=hrel;have Ac:Below W W wr:=HG.o.nil;have A7:=q_ (HW.o.trans (Ac.mono HW.o.size));have An:(w:Nat)<=wr:=A7.o.size;have Ap:(W:Nat)<=wr:=Ac.size;clear Ac;by_cases hlt:k<m
 ·have Ae:(k:Int)<(m:Int):=by omega
  have Al:(k+1)*cst<=m*cst:=Nat.mul_le_mul_right _ hlt;have Ah:(k+1)*cst=k*cst+cst:=Nat.succ_mul _ _;obtain ⟨g,o,kd',n',s',op',A',m',c',rfl,hg,k0,k1,k2,k3,k4,A0⟩:=HK.o k hlt;have Au:g<wr:=lt_ hg A7.o.size;have A3:∀ j,wr.cell? (f_ g j)=w.cell? (f_ g j):=fun j=>belc A7.o hg
  rw [←A3] at k0 k1 k2 k3 k4;have Aj:=q_ A0;have A9:=h_ (Below wr wr (wr.alloc (.cells #[i_ kd',i_ n',.string s',i_ op',.slice A' m' c'] 209))) ((b_).alloc (l_) _);clear A3 A0;go_wp2_with fail;refine (Aj.o _ (A7.o.trans (A9.o.mono An))).mono ?_;rintro e W3 ⟨⟨B,nb,cb,rfl,hS⟩,Af⟩;have A8:Below wr wr W3:=A9.o.trans (Af.mono A9.o.size);have G3:=q_ (HG.o.below A8);have Az:nb<=cst:=hS.o.le;have HS:=h_ (SlT W3 (ownX A2 n2 c2) cst [.txt] B nb cb) (hS.o.less2 (fun k _ hx=>by have:=HG.o.own.olt _ hx;show k<_;have:=A9.o.size;omega));have Ax:n2<=1+k*cst:=by have:=HG.o.hi;omega
  clear Af A8 hS k0 k1 k2 k3 k4;go_upto_region 8 with fail;go_loopw [3,26] (fun v i wy=>∃ (j:Nat) (A4:OA) (n4 c4:Nat),j<=nb/\v=.slice A4 n4 c4/\i=i_ j/\Hid (Gr W3 W K A2 n2 c2 j A4 n4 c4 wy)) (fun _ i _=>nb - (intOf i).toNat)
  case atStart=>exact ⟨0,A2,n2,c2,o_,rfl,rfl,q_ (Gr.refl G3.o.own _)⟩
  rename World=>wy
  obtain ⟨j,A4,n4,c4,Av,rfl,rfl,HJ⟩:=hrel;by_cases hlj:j<nb
  ·have Ad:(j:Int)<(nb:Int):=by omega
   have Ak:=q_ (HJ.o.slt HS.o);have Ay:n4<=n2+j:=HJ.o.hi;obtain ⟨gb,ob,rfl,As,Ar,us,hv,hm⟩:=Ak.o.mt hlj;obtain ⟨u,hu,ht⟩:=hv.2 0 .txt rfl;obtain ⟨t,rfl⟩:=ht.str;have y0:wy.cell? ⟨gb,ob+j,none⟩=some (.string t):=by have:=hm 0 _ hu;simpa using this
   clear hv hm hu ht;go_wp2_with fail;refine (Has_any A4 n4 c4 t nX K wy (HJ.o.own.names o_) hK).mono ?_;rintro e W5 ⟨⟨b,rfl⟩,Ab⟩;have Ao:=q_ Ab;have G5:=q_ (HJ.o.below Ab);clear Ab y0;cases b
   case true =>
    go_wp2;go_roundw
    case rel=>exact ⟨j+1,A4,n4,c4,o_,rfl,by go_num,q_ (G5.o.more o_)⟩
    case measure=>simp [intOf];omega
   have HU:=q_ (lit_names (w:=W5) (A:=A4) (n:=n4) (c:=c4) (K:=K) t G5.o.own.olt o_);have HO:=q_ (G5.o.own.below ((b_).alloc (l_) (.cells #[.string t] 9)));have AA:(W:Nat)<=W5:=by have h1:=G3.o.kp.size;have h2:=G5.o.kp.size;omega
   go_wp2_with (at_builtin;refine cs_ rfl _ _ rfl ei_str (by simp [Act.eval]) HO.o (by simp [Act.eval]) HU.o (fun k h=>h.elim) m_ o_ (by simp;omega) ?_;intro A6 c6 w6 o6 g6 l6;have O6:=q_ o6;have G6:=q_ g6;have L6:=q_ l6;clear o6 g6 l6);go_roundw
   case rel =>
    have G7:Gr W5 W K A4 n4 c4 1 A6 (n4+1) c6 w6:=⟨o_,l_,O6.o,((Kp.refl _ W5).alloc _).grown G6.o (fun k hk=>.inl hk),fun g hg=>by
     rcases L6.o g hg with h1 | h1
     ·exact .inl h1
     exact .inr (by rw [h1];simp)⟩
    exact ⟨j+1,A6,n4+1,c6,o_,rfl,by go_num,q_ (G5.o.trans G7)⟩
   case measure=>simp [intOf];omega
  have Ad:¬(j:Int)<(nb:Int):=by omega
  go_wp2;go_roundw
  case rel=>exact ⟨k+1,A4,n4,c4,o_,rfl,by go_num,q_ ((G3.o.trans HJ.o).more o_)⟩
  case measure=>simp [intOf];omega
 have Ae:¬(k:Int)<(m:Int):=by omega
 obtain rfl:k=m:=by omega
 go_wp2;go_ret;exact ⟨⟨A2,n2,c2,rfl,q_ (HG.o.own.txt_any.slT (fun q hq=>by have:q<w:=hq;omega) (by have:=HG.o.hi;omega))⟩,A7.o⟩
theorem Reads_any (X:NP):∀ (d:Nat) (vs:VL) (w:World),d<=4->VTs w X 20 (ay_ d) vs->Calls prog 188 #[.agg vs.toArray] w fun e w'=>RNm w (cr d) e w'/\Below w w w'
 | 0,vs,w,_,h=>by
  obtain ⟨kd,n,s,op,A,c,rfl⟩:=h.expr0;exact reads_step 0 (cr 0) d_ kd n s op A 0 c w o_ d_ (fun k hk=>o_)
 | d+1,vs,w,hd,h=>by
  obtain ⟨kd,n,s,op,A,m,c,rfl,hp⟩:=h.expr;have hm:=hp.sl.le;have A0:cr (d+1)<=900000000:=by
   match d,hd with
   | 0,_=>decide
   | 1,_=>decide
   | 2,_=>decide
   | 3,_=>decide
  refine reads_step (cr d) (cr (d+1)) A0 kd n s op A m c w hm (by have:m*cr d<=20*cr d:=Nat.mul_le_mul_right _ hm;show 1+m*cr d<=1+20*cr d;omega) (fun k hk=>?_);obtain ⟨g,o,us,rfl,hg,hX,hu,A1,hc⟩:=hp.el hk;obtain ⟨A2,n',s',A3,A',m',c',rfl,_,_,_⟩:=A1;rw [dz_] at hc;exact ⟨g,o,A2,n',s',A3,A',m',c',rfl,hg,hc 0 _ rfl,hc 1 _ rfl,hc 2 _ rfl,hc 3 _ rfl,hc 4 _ rfl,fun w' hb=>Reads_any X d _ w' o_ (hu.up (.of_below hb) (l_))⟩
theorem Vars_t (X:NP) (K:Nat) (hK:K<=900000000) (d:Nat) (s:ByteArray) (P:OA) (np cp:Nat) (B:OA) (nb cb:Nat) (w:World) (hP:SlT w X 20 [.sat strP] P np cp) (hB:SlP w X 20 pS (al_ d) B nb cb) (hc:20+cw d<=K) :
  Calls prog 109 #[.agg #[.string s,.slice P np cp,.slice B nb cb]] w fun e w'=>RNm w K e w'/\Below w w w':=by
 obtain ⟨W,hW,A0,A8,B0⟩:=af_ w [.string s,.slice P np cp,.slice B nb cb] 194;have A5:=q_ B0;have HW:=q_ A0;have x1:=B0.2.1 1 _ rfl;have A7:(w:Nat)<W:=by omega
 have Ab:=hP.le;have HP:=h_ (SlT W nX 20 [.sat strP] P np cp) ((hP.up (Kp.of_below A0) (l_)).less2 (fun _ _ h=>h.elim));have HS:=h_ (SlP W nX 20 pS (al_ d) B nb cb) ((hB.below A0).less (fun _ _ h=>h.elim));clear B0 A0 hP hB;go_enter func109,ntmps109;go_upto_region 3 with fail;rw [←hW];clear hW x1;go_loopw [3,9] (fun v i wr=>∃ (k:Nat) (A':OA) (n' c':Nat),k<=np/\v=.slice A' n' c'/\i=i_ k/\Hid (Gr W W K none 0 0 k A' n' c' wr)) (fun _ i _=>np - (intOf i).toNat)
 case atStart=>exact ⟨0,none,0,0,o_,rfl,rfl,q_ (Gr.refl (OwT.nil _ _ _ _ _ _) _)⟩
 obtain ⟨k,A2,n2,c2,A9,rfl,rfl,HG⟩:=hrel;have Aa:n2<=0+k:=HG.o.hi;have A4:(W:Nat)<=wr:=HG.o.kp.size;by_cases hlt:k<np
 ·have A1:(k:Int)<(np:Int):=by omega
  obtain ⟨g,o,rfl,hg,hX,us,hv,hm⟩:=(HP.o.up (Kp.of_below HG.o.nil) (l_)).mt hlt;obtain ⟨u,hu,ht⟩:=hv.2 0 (.sat strP) rfl;obtain ⟨t,rfl,_⟩:strP u:=by cases ht;assumption
  have y0:wr.cell? ⟨g,o+k,none⟩=some (.string t):=by have:=hm 0 _ hu;simpa using this
  clear hv hm hu ht;go_wp2_with fail;refine (add_t wr W K A2 n2 c2 t HG.o.own o_ hK A4).mono ?_;rintro e W3 ⟨A3,n3,c3,rfl,G3⟩;go_wp2;go_roundw
  case rel=>exact ⟨k+1,A3,n3,c3,o_,rfl,by go_num,q_ (HG.o.trans G3.o)⟩
  case measure=>simp [intOf];omega
 have A1:¬(k:Int)<(np:Int):=by omega
 have x2:wr.cell? (f_ w 2)=some (.slice B nb cb):=(belc HG.o.nil A7).trans (A5.o.2.1 2 _ rfl);have A6:=h_ (SlP wr (ownX A2 n2 c2) 20 pS (al_ d) B nb cb) (HG.o.stay (HS.o.less (fun _ _ h=>by cases h)));go_wp2_with fail;refine (walk_t W K hK d B nb cb A2 n2 c2 wr A6.o HG.o.own o_ A4).mono ?_;rintro e W3 ⟨A3,n3,c3,rfl,G3⟩;have G4:=q_ (HG.o.trans G3.o);go_wp2;go_ret;exact ⟨⟨A3,n3,c3,rfl,q_ (G4.o.own.txt_any.slT (fun q hq=>by have:q<w:=hq;omega) (by have:=G4.o.hi;omega))⟩,HW.o.trans (G4.o.nil.mono HW.o.size)⟩
end Go.Proofs.YtfolidlmgfhkiaaGreat
