/- Lemmas: each says what a function of the program leaves, under the conditions that it states. -/
import Derived.Test.YtfolidlmgfhkiaaGreatZ09
set_option linter.unusedVariables false
set_option linter.unusedSimpArgs false
set_option maxRecDepth 100000
set_option maxHeartbeats 4000000
namespace Go.Proofs.YtfolidlmgfhkiaaGreat
open Go.RowKit Go.Proofs.Tryz
section
variable {X:XE} {w:World}
theorem bi_ {d d':Nat} {v:Value} (hd:d<=d') (h:(kEx X d).p w v):(kEx X d').p w v:=by
 obtain ⟨kd,n,s,op,A,m,c,e,h1,h2⟩:=h;exact ⟨kd,n,s,op,A,m,c,e,exprT_le hd h1 h2,h2⟩
theorem dk_ {d d':Nat} {v:Value} (hd:d<=d') (h:(kSt X d).p w v):(kSt X d').p w v:=by
 obtain ⟨kd,s,f,n,op,A,m,c,B,m1,c1,C,m2,c2,e,h1,h2⟩:=h;exact ⟨kd,s,f,n,op,A,m,c,B,m1,c1,C,m2,c2,e,stmtT_le hd h1 h2,h2⟩
theorem ct_ {n:Nat} {v:Value} (h:(kNat X n).p w v):(kInt X).p w v:=by
 obtain ⟨r,_,e⟩:=h;exact ⟨_,e⟩
end
section
variable {Q:Exit->Act->World->Prop} {X:XE} {Inv:World->Prop} {o:Oper} {a:Act} {w:World} {d b lp:Nat}
theorem rk_bin {x y z:Operand} {e:Nat} (hC:IC d b lp X Inv) (ho:o.op=.call { callee:=.value (.func 117),args:=#[x,y,z],argTypes:=#[3,209,209] }) (hx:(kInt X).p w (a.eval x)) (hy:(kEx X e).p w (a.eval y)) (hz:(kEx X e).p w (a.eval z)) (hI:Inv w):RnK prog Q X Inv (kEx X (e+1)) o a w:=by
 obtain ⟨q,hx⟩:=hx;obtain ⟨kd,n,s,op,A,m,c,hy,h1⟩:=hy;obtain ⟨A0,n',s',A1,A',m',c',hz,h2⟩:=hz;have hf:a.eval (.func 117)=.func (.func 117) #[] #[]:=rfl;generalize hr:a.eval=r at hx hy hz hf;refine ck_ (f:=117) (args:=#[i_ q,.agg #[i_ kd,i_ n,.string s,i_ op,.slice A m c],.agg #[i_ A0,i_ n',.string s',i_ A1,.slice A' m' c']]) (by rw [hr];simp [execOp,ho,hx,hy,hz,hf,go_sem]) ((bin_m X e q kd n s op A m c A0 n' s' A1 A' m' c' w h1 h2 (hC.lt w hI)).mono ?_);rintro e w' ⟨⟨kd,n,s,op,A,m,c,rfl,h⟩,hb⟩;exact ⟨_,rfl,.of_below hb,hC.ex w w' hI (.of_below hb),hC.below hI hb,_,_,_,_,_,_,_,rfl,h.o⟩
theorem di_ {x y:Operand} (hC:IC d b lp X Inv) (ho:o.op=.call { callee:=.value (.func 116),args:=#[x,y],argTypes:=#[9,209] }) (hx:(kStr X).p w (a.eval x)) (hy:(kEx X dE).p w (a.eval y)) (hI:Inv w):RnK prog Q X Inv (kSt X 0) o a w:=by
 obtain ⟨t,hx,ht⟩:=hx;obtain ⟨kd,n,s,op,A,m,c,hy,h1⟩:=hy;have hf:a.eval (.func 116)=.func (.func 116) #[] #[]:=rfl;generalize hr:a.eval=r at hx hy hf;refine ck_ (f:=116) (args:=#[.string t,.agg #[i_ kd,i_ n,.string s,i_ op,.slice A m c]]) (by rw [hr];simp [execOp,ho,hx,hy,hf,go_sem]) ((set_m X t kd n s op A m c w ht h1 (hC.lt w hI)).mono ?_);rintro e w' ⟨⟨kd,s,f,n,op,A,m,c,B,m1,c1,C,m2,c2,rfl,h⟩,hb⟩;exact ⟨_,rfl,.of_below hb,hC.ex w w' hI (.of_below hb),hC.below hI hb,_,_,_,_,_,_,_,_,_,_,_,_,_,_,rfl,h.o⟩
theorem av_ (w:World) (cs:Array Value) (t:TypeId):Below w w (w.alloc (.cells cs t)):=(b_).alloc (l_) _
theorem du_ {x:Operand} {e:Nat} (hC:IC d b lp X Inv) (ho:o.op=.buildSlice 207 1 #[(0,x)]) (hx:(kEx X e).p w (a.eval x)) (hI:Inv w):RnK prog Q X Inv (kExs X e 1) o a w:=by
 obtain ⟨kd,n,s,op,A,m,c,hx,h1⟩:=hx;generalize hr:a.eval=r at hx;refine rk_to (v:=.slice (some (a_ w)) 1 1) (w':=w.alloc (.cells (exL kd n s op A m c).toArray 209)) (by rw [hr];simp [execOp,ho,hx,go_sem];rfl) (.of_below (av_ w _ _)) (hC.ex w _ hI (.of_below (av_ w _ _))) ?_ (hC.below hI (av_ w _ _));exact ⟨_,_,rfl,SlP.one (Bx.new w _ _) (fun h=>by have:=hC.lt w hI _ h;omega) d_ (h1.1.up (.of_below (av_ w _ _)) (l_)) h1.2⟩
theorem rk_bse2 {x y:Operand} {e:Nat} (hC:IC d b lp X Inv) (ho:o.op=.buildSlice 207 2 #[(0,x),(1,y)]) (hx:(kEx X e).p w (a.eval x)) (hy:(kEx X e).p w (a.eval y)) (hI:Inv w):RnK prog Q X Inv (kExs X e 2) o a w:=by
 obtain ⟨kd,n,s,op,A,m,c,hx,h1⟩:=hx;obtain ⟨A0,n',s',A1,A',m',c',hy,h2⟩:=hy;generalize hr:a.eval=r at hx hy;refine rk_to (v:=.slice (some (a_ w)) 2 2) (w':=w.alloc (.cells (exL kd n s op A m c ++ exL A0 n' s' A1 A' m' c').toArray 209)) (by rw [hr];simp [execOp,ho,hx,hy,go_sem];rfl) (.of_below (av_ w _ _)) (hC.ex w _ hI (.of_below (av_ w _ _))) ?_ (hC.below hI (av_ w _ _));exact ⟨_,_,rfl,SlP.two (Bx.new w _ _) (fun h=>by have:=hC.lt w hI _ h;omega) d_ (h1.1.up (.of_below (av_ w _ _)) (l_)) h1.2 (h2.1.up (.of_below (av_ w _ _)) (l_)) h2.2⟩
theorem rk_bst1 {s0:ByteArray} (hC:IC d b lp X Inv) (ho:o.op=.buildSlice 188 1 #[(0,.const (.string s0))]) (h0:s0.size<=100) (hI:Inv w):RnK prog Q X Inv (bv_ X 1) o a w:=by
 have e0:a.eval (.const (.string s0))=.string s0:=rfl;refine rk_to (v:=.slice (some (a_ w)) 1 1) (w':=w.alloc (.cells #[.string s0] 9)) (by generalize a.eval=r at e0;simp [execOp,ho,e0,go_sem]) (.of_below (av_ w _ _)) (hC.ex w _ hI (.of_below (av_ w _ _))) ?_ (hC.below hI (av_ w _ _));refine ⟨w,rfl,by simp,fun h=>by have:=hC.lt w hI _ h;omega,fun i hi=>?_⟩
 match i,hi with
 | 0,_=>exact ⟨_,by rw [aj_ _ _ _ _ _ rfl];rfl,h0⟩
theorem rk_bst2 {s0 s1:ByteArray} (hC:IC d b lp X Inv) (ho:o.op=.buildSlice 188 2 #[(0,.const (.string s0)),(1,.const (.string s1))]) (h0:s0.size<=100) (h1:s1.size<=100) (hI:Inv w):RnK prog Q X Inv (bv_ X 2) o a w:=by
 have e0:a.eval (.const (.string s0))=.string s0:=rfl;have e1:a.eval (.const (.string s1))=.string s1:=rfl;refine rk_to (v:=.slice (some (a_ w)) 2 2) (w':=w.alloc (.cells #[.string s0,.string s1] 9)) (by generalize a.eval=r at e0 e1;simp [execOp,ho,e0,e1,go_sem]) (.of_below (av_ w _ _)) (hC.ex w _ hI (.of_below (av_ w _ _))) ?_ (hC.below hI (av_ w _ _));refine ⟨w,rfl,by simp,fun h=>by have:=hC.lt w hI _ h;omega,fun i hi=>?_⟩
 match i,hi with
 | 0,_=>exact ⟨_,by rw [aj_ _ _ _ _ _ rfl];rfl,h0⟩
 | 1,_=>exact ⟨_,by rw [aj_ _ _ _ _ _ rfl];rfl,h1⟩
theorem rk_bst3 {s0 s1 s2:ByteArray} (hC:IC d b lp X Inv) (ho:o.op=.buildSlice 188 3 #[(0,.const (.string s0)),(1,.const (.string s1)),(2,.const (.string s2))]) (h0:s0.size<=100) (h1:s1.size<=100) (h2:s2.size<=100) (hI:Inv w):RnK prog Q X Inv (bv_ X 3) o a w:=by
 have e0:a.eval (.const (.string s0))=.string s0:=rfl;have e1:a.eval (.const (.string s1))=.string s1:=rfl;have e2:a.eval (.const (.string s2))=.string s2:=rfl;refine rk_to (v:=.slice (some (a_ w)) 3 3) (w':=w.alloc (.cells #[.string s0,.string s1,.string s2] 9)) (by generalize a.eval=r at e0 e1 e2;simp [execOp,ho,e0,e1,e2,go_sem]) (.of_below (av_ w _ _)) (hC.ex w _ hI (.of_below (av_ w _ _))) ?_ (hC.below hI (av_ w _ _));refine ⟨w,rfl,by simp,fun h=>by have:=hC.lt w hI _ h;omega,fun i hi=>?_⟩
 match i,hi with
 | 0,_=>exact ⟨_,by rw [aj_ _ _ _ _ _ rfl];rfl,h0⟩
 | 1,_=>exact ⟨_,by rw [aj_ _ _ _ _ _ rfl];rfl,h1⟩
 | 2,_=>exact ⟨_,by rw [aj_ _ _ _ _ _ rfl];rfl,h2⟩
theorem rk_bsi2 {s0 s1:Int} (hC:IC d b lp X Inv) (ho:o.op=.buildSlice 30 2 #[(0,.const (i_ s0)),(1,.const (i_ s1))]) (h0:s0≠3/\s0≠5/\s0≠6) (h1:s1≠3/\s1≠5/\s1≠6) (hI:Inv w):RnK prog Q X Inv (kInts X 2) o a w:=by
 have e0:a.eval (.const (i_ s0))=i_ s0:=rfl;have e1:a.eval (.const (i_ s1))=i_ s1:=rfl;refine rk_to (v:=.slice (some (a_ w)) 2 2) (w':=w.alloc (.cells #[i_ s0,i_ s1] 3)) (by generalize a.eval=r at e0 e1;simp [execOp,ho,e0,e1,go_sem]) (.of_below (av_ w _ _)) (hC.ex w _ hI (.of_below (av_ w _ _))) ?_ (hC.below hI (av_ w _ _));refine ⟨w,rfl,by simp,fun h=>by have:=hC.lt w hI _ h;omega,fun i hi=>?_⟩
 match i,hi with
 | 0,_=>exact ⟨_,by rw [aj_ _ _ _ _ _ rfl];rfl,h0⟩
 | 1,_=>exact ⟨_,by rw [aj_ _ _ _ _ _ rfl];rfl,h1⟩
theorem rk_bsi4' {s0 s1 s2 s3:Int} (hC:IC d b lp X Inv) (ho:o.op=.buildSlice 30 4 #[(0,.const (i_ s0)),(1,.const (i_ s1)),(2,.const (i_ s2)),(3,.const (i_ s3))]) (hI:Inv w):RnK prog Q X Inv (kInts' X 4) o a w:=by
 have e0:a.eval (.const (i_ s0))=i_ s0:=rfl;have e1:a.eval (.const (i_ s1))=i_ s1:=rfl;have e2:a.eval (.const (i_ s2))=i_ s2:=rfl;have e3:a.eval (.const (i_ s3))=i_ s3:=rfl;refine rk_to (v:=.slice (some (a_ w)) 4 4) (w':=w.alloc (.cells #[i_ s0,i_ s1,i_ s2,i_ s3] 3)) (by generalize a.eval=r at e0 e1 e2 e3;simp [execOp,ho,e0,e1,e2,e3,go_sem]) (.of_below (av_ w _ _)) (hC.ex w _ hI (.of_below (av_ w _ _))) ?_ (hC.below hI (av_ w _ _));refine ⟨w,rfl,by simp,fun h=>by have:=hC.lt w hI _ h;omega,fun i hi=>?_⟩
 match i,hi with
 | 0,_=>exact ⟨_,by rw [aj_ _ _ _ _ _ rfl];rfl⟩
 | 1,_=>exact ⟨_,by rw [aj_ _ _ _ _ _ rfl];rfl⟩
 | 2,_=>exact ⟨_,by rw [aj_ _ _ _ _ _ rfl];rfl⟩
 | 3,_=>exact ⟨_,by rw [aj_ _ _ _ _ _ rfl];rfl⟩
theorem rk_be1 {x:Operand} {kd:Int} (ho:o.op=.build 209 #[(0,.const (i_ kd)),(1,x)]) (hk:kd≠4/\kd≠5) (hx:(kInt X).p w (a.eval x)) (hI:Inv w):RnK prog Q X Inv (kEx X 0) o a w:=by
 obtain ⟨n,hx⟩:=hx;have e0:a.eval (.const (i_ kd))=i_ kd:=rfl;generalize hr:a.eval=r at hx e0;exact bt_ (v:=.agg #[i_ kd,i_ n,.string ⟨#[]⟩,i_ 0,.slice none 0 0]) (by rw [hr];simp [execOp,ho,hx,e0,go_sem]) ⟨_,_,_,_,_,_,_,rfl,vts_ex0 _ _ _ _,pE_ex (fun h=>absurd h hk.1) (fun h=>absurd h hk.2) d_⟩ hI
theorem rk_be3 {x y:Operand} {e:Nat} (ho:o.op=.build 209 #[(0,.const (i_ 4)),(1,x),(4,y)]) (hx:(kInt X).p w (a.eval x)) (hy:(kExs X e 1).p w (a.eval y)) (hI:Inv w):RnK prog Q X Inv (kEx X (e+1)) o a w:=by
 obtain ⟨n,hx⟩:=hx;obtain ⟨A,c,hy,hs⟩:=hy;have e0:a.eval (.const (i_ 4))=i_ 4:=rfl;generalize hr:a.eval=r at hx hy e0;exact bt_ (v:=.agg #[i_ 4,i_ n,.string ⟨#[]⟩,i_ 0,.slice A 1 c]) (by rw [hr];simp [execOp,ho,hx,hy,e0,go_sem]) ⟨_,_,_,_,_,_,_,rfl,vts_ex hs,pE_ex (fun _=>l_) x_ d_⟩ hI
theorem rk_bs_0145 {x0 x1 x4 x5:Operand} {kd:Int} {m:Nat} (ho:o.op=.build 212 #[(0,x0),(1,x1),(4,x4),(5,x5)]) (h0:a.eval x0=i_ kd) (h1:(kStr X).p w (a.eval x1)) (h4:(kInt X).p w (a.eval x4)) (h5:(kExs X dE m).p w (a.eval x5)) (g5:kd=5->2<=m) (g6:kd=6->1<=m) (g3:kd=3->(⟨#[]⟩:ByteArray)=nameF∨(⟨#[]⟩:ByteArray)=nameG) (hI:Inv w):RnK prog Q X Inv (kSt X 0) o a w:=by
 obtain ⟨s,h1,hs⟩:=h1;obtain ⟨op,h4⟩:=h4;obtain ⟨A,c,h5,v5⟩:=h5;generalize hr:a.eval=r at h0 h1 h4 h5;exact bt_ (v:=.agg #[i_ kd,.string s,.string ⟨#[]⟩,i_ 0,i_ op,.slice A m c,.slice none 0 0,.slice none 0 0]) (by rw [hr];simp [execOp,ho,h0,h1,h4,h5,go_sem]) ⟨_,_,_,_,_,_,_,_,_,_,_,_,_,_,rfl,eb_ v5,pS_st g5 g6 g3 hs d_⟩ hI
theorem rk_bs_035 {x0 x3 x5:Operand} {kd:Int} {m:Nat} (ho:o.op=.build 212 #[(0,x0),(3,x3),(5,x5)]) (h0:a.eval x0=i_ kd) (h3:(kInt X).p w (a.eval x3)) (h5:(kExs X dE m).p w (a.eval x5)) (g5:kd=5->2<=m) (g6:kd=6->1<=m) (g3:kd=3->(⟨#[]⟩:ByteArray)=nameF∨(⟨#[]⟩:ByteArray)=nameG) (hI:Inv w):RnK prog Q X Inv (kSt X 0) o a w:=by
 obtain ⟨n,h3⟩:=h3;obtain ⟨A,c,h5,v5⟩:=h5;generalize hr:a.eval=r at h0 h3 h5;exact bt_ (v:=.agg #[i_ kd,.string ⟨#[]⟩,.string ⟨#[]⟩,i_ n,i_ 0,.slice A m c,.slice none 0 0,.slice none 0 0]) (by rw [hr];simp [execOp,ho,h0,h3,h5,go_sem]) ⟨_,_,_,_,_,_,_,_,_,_,_,_,_,_,rfl,eb_ v5,pS_st g5 g6 g3 d_ d_⟩ hI
theorem rk_bs_05 {x0 x5:Operand} {kd:Int} {m:Nat} (ho:o.op=.build 212 #[(0,x0),(5,x5)]) (h0:a.eval x0=i_ kd) (h5:(kExs X dE m).p w (a.eval x5)) (g5:kd=5->2<=m) (g6:kd=6->1<=m) (g3:kd=3->(⟨#[]⟩:ByteArray)=nameF∨(⟨#[]⟩:ByteArray)=nameG) (hI:Inv w):RnK prog Q X Inv (kSt X 0) o a w:=by
 obtain ⟨A,c,h5,v5⟩:=h5;generalize hr:a.eval=r at h0 h5;exact bt_ (v:=.agg #[i_ kd,.string ⟨#[]⟩,.string ⟨#[]⟩,i_ 0,i_ 0,.slice A m c,.slice none 0 0,.slice none 0 0]) (by rw [hr];simp [execOp,ho,h0,h5,go_sem]) ⟨_,_,_,_,_,_,_,_,_,_,_,_,_,_,rfl,eb_ v5,pS_st g5 g6 g3 d_ d_⟩ hI
theorem rk_bs_015 {x0 x1 x5:Operand} {kd:Int} {m:Nat} (ho:o.op=.build 212 #[(0,x0),(1,x1),(5,x5)]) (h0:a.eval x0=i_ kd) (h1:(kStr X).p w (a.eval x1)) (h5:(kExs X dE m).p w (a.eval x5)) (g5:kd=5->2<=m) (g6:kd=6->1<=m) (g3:kd=3->(⟨#[]⟩:ByteArray)=nameF∨(⟨#[]⟩:ByteArray)=nameG) (hI:Inv w):RnK prog Q X Inv (kSt X 0) o a w:=by
 obtain ⟨s,h1,hs⟩:=h1;obtain ⟨A,c,h5,v5⟩:=h5;generalize hr:a.eval=r at h0 h1 h5;exact bt_ (v:=.agg #[i_ kd,.string s,.string ⟨#[]⟩,i_ 0,i_ 0,.slice A m c,.slice none 0 0,.slice none 0 0]) (by rw [hr];simp [execOp,ho,h0,h1,h5,go_sem]) ⟨_,_,_,_,_,_,_,_,_,_,_,_,_,_,rfl,eb_ v5,pS_st g5 g6 g3 hs d_⟩ hI
theorem rk_bs_0125 {x0 x1 x2 x5:Operand} {kd:Int} {f:ByteArray} {m:Nat} (ho:o.op=.build 212 #[(0,x0),(1,x1),(2,x2),(5,x5)]) (h0:a.eval x0=i_ kd) (h1:(kStr X).p w (a.eval x1)) (h2:a.eval x2=.string f) (hf:f.size<=100) (h5:(kExs X dE m).p w (a.eval x5)) (g5:kd=5->2<=m) (g6:kd=6->1<=m) (g3:kd=3->f=nameF∨f=nameG) (hI:Inv w):RnK prog Q X Inv (kSt X 0) o a w:=by
 obtain ⟨s,h1,hs⟩:=h1;obtain ⟨A,c,h5,v5⟩:=h5;generalize hr:a.eval=r at h0 h1 h2 h5;exact bt_ (v:=.agg #[i_ kd,.string s,.string f,i_ 0,i_ 0,.slice A m c,.slice none 0 0,.slice none 0 0]) (by rw [hr];simp [execOp,ho,h0,h1,h2,h5,go_sem]) ⟨_,_,_,_,_,_,_,_,_,_,_,_,_,_,rfl,eb_ v5,pS_st g5 g6 g3 hs hf⟩ hI
theorem rk_bs_0567 {x0 x5 x6 x7:Operand} {kd:Int} {m:Nat} {e q6 q7:Nat} (ho:o.op=.build 212 #[(0,x0),(5,x5),(6,x6),(7,x7)]) (h0:a.eval x0=i_ kd) (h5:(kExs X dE m).p w (a.eval x5)) (h6:(kSts X e q6).p w (a.eval x6)) (h7:(kSts X e q7).p w (a.eval x7)) (g5:kd=5->2<=m) (g6:kd=6->1<=m) (g3:kd=3->(⟨#[]⟩:ByteArray)=nameF∨(⟨#[]⟩:ByteArray)=nameG) (hI:Inv w):RnK prog Q X Inv (kSt X (e+1)) o a w:=by
 obtain ⟨A,c,h5,v5⟩:=h5;obtain ⟨B,m1,c1,h6,_,v6⟩:=h6;obtain ⟨C,m2,c2,h7,_,v7⟩:=h7;generalize hr:a.eval=r at h0 h5 h6 h7;exact bt_ (v:=.agg #[i_ kd,.string ⟨#[]⟩,.string ⟨#[]⟩,i_ 0,i_ 0,.slice A m c,.slice B m1 c1,.slice C m2 c2]) (by rw [hr];simp [execOp,ho,h0,h5,h6,h7,go_sem]) ⟨_,_,_,_,_,_,_,_,_,_,_,_,_,_,rfl,vts_st v5 v6 v7,pS_st g5 g6 g3 d_ d_⟩ hI
theorem rk_bs_0167 {x0 x1 x6 x7:Operand} {kd:Int} {e q6 q7:Nat} (ho:o.op=.build 212 #[(0,x0),(1,x1),(6,x6),(7,x7)]) (h0:a.eval x0=i_ kd) (h1:(kStr X).p w (a.eval x1)) (h6:(kSts X e q6).p w (a.eval x6)) (h7:(kSts X e q7).p w (a.eval x7)) (g5:kd=5->2<=0) (g6:kd=6->1<=0) (g3:kd=3->(⟨#[]⟩:ByteArray)=nameF∨(⟨#[]⟩:ByteArray)=nameG) (hI:Inv w):RnK prog Q X Inv (kSt X (e+1)) o a w:=by
 obtain ⟨s,h1,hs⟩:=h1;obtain ⟨B,m1,c1,h6,_,v6⟩:=h6;obtain ⟨C,m2,c2,h7,_,v7⟩:=h7;generalize hr:a.eval=r at h0 h1 h6 h7;exact bt_ (v:=.agg #[i_ kd,.string s,.string ⟨#[]⟩,i_ 0,i_ 0,.slice none 0 0,.slice B m1 c1,.slice C m2 c2]) (by rw [hr];simp [execOp,ho,h0,h1,h6,h7,go_sem]) ⟨_,_,_,_,_,_,_,_,_,_,_,_,_,_,rfl,vts_st (SlP.nil _ _ _ _ _) v6 v7,pS_st g5 g6 g3 hs d_⟩ hI
end
structure InvR (d b lp:Nat) (X Z:NP) (w0:World) (rb:Nat) (ts:List CT) (pp:VL->Prop) (w:World):Prop where
 ok:Mk d b lp w
 kp:Kp Z w0 w
 lt:∀ k,X k->k<w
 bx:∃ cs,Bx w rb cs/\VTs w X 20 ts cs/\pp cs
section
variable {Q:Exit->Act->World->Prop} {X Z:NP} {o:Oper} {a:Act} {w w0:World} {d b lp rb:Nat} {ts:List CT} {pp:VL->Prop}
theorem InvR.ic {E:World->Prop} (he:∀ w w':World,Kp (Zm d b) w w'->E w->E w') (hz:∀ k,Zm d b k->X k) (hZ:∀ k,Zm d b k->Z k) (hr:¬Zm d b rb):IC d b lp ⟨X,E⟩ (InvR d b lp X Z w0 rb ts pp) :=
 ⟨fun _ h=>h.ok,hz,fun _ h=>h.lt,fun w w' h hm hk=>⟨hm,h.kp.trans (hk.mono (fun k _ hk=>hZ k hk)),fun k A0=>lt_ (h.lt k A0) hk.size,by
  obtain ⟨cs,h1,h2,h3⟩:=h.bx
  exact ⟨cs,h1.kp hk hr,h2.up (hk.mono (fun k _ hk=>hz k hk)) (l_),h3⟩⟩,fun w w' _ hk h=>he w w' hk h⟩
theorem Mk.sets {w:World} (h:Mk d b lp w) (hr:b<rb) (vs:VL):Mk d b lp (w.setCells rb 0 vs):=by
 have hk:Kp (fun k=>k=rb) w (w.setCells rb 0 vs):=ai_ _ _ _ (Kp.refl _ _) (.inl rfl);obtain ⟨l,h1⟩:=h.c1;obtain ⟨f,h3⟩:=h.c3;have hd:=h.ne;have hc:∀ q j,q<=b->(w.setCells rb 0 vs).cell? (f_ q j)=w.cell? (f_ q j):=fun q j hq=>hk.cell (by have:=h.lt;omega) o_
 refine ⟨?_,hd,lt_ h.lt hk.size,(hc _ _ (l_)).trans h.c0,⟨l,(hc _ _ (l_)).trans h1⟩,(hc _ _ (l_)).trans h.c2,⟨f,(hc _ _ (l_)).trans h3⟩,fun j=>(hk.frozen h.lt o_).trans (h.fz j)⟩;obtain ⟨A0,S,sn,sc,a,g0,g1,g2,g3,g4,g5⟩:=h.dice;refine ⟨lt_ A0 hk.size,S,sn,sc,a,(hc _ _ o_).trans g0,(hc _ _ o_).trans g1,(hk.frozen A0 o_).trans g2,g3,g4,fun i hi=>?_⟩;obtain ⟨sb,so,x,e,h6,h7,h8,h9⟩:=g5 i hi;exact ⟨sb,so,x,e,h6,h7,h8,(hc _ _ o_).trans h9⟩
theorem InvR.put {w:World} (h:InvR d b lp X Z w0 rb ts pp w) (hr:b<rb) (hX:X rb) (hZ:Z rb) {vs:VL} (hv:VTs w X 20 ts vs) (hp:pp vs):InvR d b lp X Z w0 rb ts pp (w.setCells rb 0 vs)/\Kp X w (w.setCells rb 0 vs):=by
 have hk:Kp X w (w.setCells rb 0 vs):=ai_ _ _ _ (Kp.refl _ _) (.inl hX);obtain ⟨cs,h1,h2,h3⟩:=h.bx;exact ⟨⟨h.ok.sets hr vs,ai_ _ _ _ h.kp (.inl hZ),fun k A0=>lt_ (h.lt k A0) hk.size,vs,h1.all vs (by rw [hv.1,h2.1]),hv.up hk (l_),hp⟩,hk⟩
theorem rk_store {E:World->Prop} (he:∀ vs:VL,E w->E (w.setCells rb 0 vs)) {x y:Operand} {T:TypeId} {vs:VL} (hr:b<rb) (hX:X rb) (hZ:Z rb) (ho:o.op=.store T x y) (hx:a.eval x=.pointer (some (a_ rb))) (hy:a.eval y=.agg vs.toArray) (hi:(prog.info? T).map (·.size)=some ts.length) (hv:VTs w X 20 ts vs) (hp:pp vs) (hI:InvR d b lp X Z w0 rb ts pp w):RnK prog Q ⟨X,E⟩ (InvR d b lp X Z w0 rb ts pp) (kAny ⟨X,E⟩) o a w:=fun K hK=>by
 obtain ⟨h1,h2⟩:=hI.put hr hX hZ hv hp;obtain ⟨cs,g1,g2,g3⟩:=hI.bx;refine wp_store_mid T x y ho rb 0 vs.toArray hx hy ?_ ?_ ?_ ?_
 ·rw [List.size_toArray];exact g1.there (by rw [hv.1,g2.1];omega)
 ·rw [List.size_toArray,hv.1];exact hi
 ·simpa using hv.one
 exact hK _ _ (by simpa using h2) (by simpa using he vs) (by simpa using h1) trivial
theorem isz5:(prog.info? 209).map (·.size)=some 5:=by kernel_rfl
theorem isz8:(prog.info? 212).map (·.size)=some 8:=by kernel_rfl
theorem df_ {E:World->Prop} (he:∀ vs:VL,E w->E (w.setCells rb 0 vs)) {x y:Operand} {e:Nat} (hr:b<rb) (hX:X rb) (hZ:Z rb) (ho:o.op=.store 209 x y) (hx:a.eval x=.pointer (some (a_ rb))) (hy:(kEx ⟨X,E⟩ e).p w (a.eval y)) (hI:InvR d b lp X Z w0 rb (ay_ e) pE w):RnK prog Q ⟨X,E⟩ (InvR d b lp X Z w0 rb (ay_ e) pE) (kAny ⟨X,E⟩) o a w:=by
 obtain ⟨kd,n,s,op,A,m,c,hy,h1⟩:=hy;exact rk_store he hr hX hZ ho hx hy (by rw [dz_];exact isz5) h1.1 h1.2 hI
theorem bj_ {E:World->Prop} (he:∀ vs:VL,E w->E (w.setCells rb 0 vs)) {x y:Operand} {e:Nat} (hr:b<rb) (hX:X rb) (hZ:Z rb) (ho:o.op=.store 212 x y) (hx:a.eval x=.pointer (some (a_ rb))) (hy:(kSt ⟨X,E⟩ e).p w (a.eval y)) (hI:InvR d b lp X Z w0 rb (al_ e) pS w):RnK prog Q ⟨X,E⟩ (InvR d b lp X Z w0 rb (al_ e) pS) (kAny ⟨X,E⟩) o a w:=by
 obtain ⟨kd,s,f,n,op,A,m,c,B,m1,c1,C,m2,c2,hy,h1⟩:=hy;exact rk_store he hr hX hZ ho hx hy (by rw [bz_];exact isz8) h1.1 h1.2 hI
end
section
variable {Q:Exit->Act->World->Prop} {X:XE} {Inv:World->Prop} {o:Oper} {a:Act} {w:World} {d b lp:Nat}
theorem rk_add {x y:Operand} {T:TypeId} (hT:T=3∨T=2) (ho:o.op=.binOp .add T x y T) (hx:(kInt X).p w (a.eval x)) (hy:(kInt X).p w (a.eval y)) (hI:Inv w):RnK prog Q X Inv (kInt X) o a w:=by
 obtain ⟨m,hx⟩:=hx;obtain ⟨n,hy⟩:=hy;generalize hr:a.eval=r at hx hy;exact bt_ (v:=i_ (IntKind.i64.wrap (m+n))) (by rw [hr];rcases hT with rfl | rfl <;> simp [execOp,ho,hx,hy,go_sem]) ⟨_,rfl⟩ hI
theorem rk_sub {x y:Operand} {T:TypeId} (hT:T=3∨T=2) (ho:o.op=.binOp .sub T x y T) (hx:(kInt X).p w (a.eval x)) (hy:(kInt X).p w (a.eval y)) (hI:Inv w):RnK prog Q X Inv (kInt X) o a w:=by
 obtain ⟨m,hx⟩:=hx;obtain ⟨n,hy⟩:=hy;generalize hr:a.eval=r at hx hy;exact bt_ (v:=i_ (IntKind.i64.wrap (m - n))) (by rw [hr];rcases hT with rfl | rfl <;> simp [execOp,ho,hx,hy,go_sem]) ⟨_,rfl⟩ hI
theorem rk_inc {x:Operand} {n:Nat} (hn:n<=1000) (ho:o.op=.binOp .add 3 x (.const (i_ 1)) 3) (hx:a.eval x=i_ n) (hI:Inv w):RnK prog Q X Inv (kV X (i_ ((n+1:Nat):Int))) o a w:=by
 have hw:IntKind.i64.wrap ((n:Int)+1)=((n+1:Nat):Int):=by rw [IntKind.wrap_i64];omega
 have e0:a.eval (.const (i_ 1))=i_ 1:=rfl;generalize hr:a.eval=r at hx e0;exact bt_ (v:=i_ ((n+1:Nat):Int)) (by rw [hr];simp [execOp,ho,hx,e0,hw,go_sem]) rfl hI
theorem rk_dec {x:Operand} {n:Nat} (ho:o.op=.binOp .sub 3 x (.const (i_ 1)) 3) (hx:a.eval x=i_ ((n+1:Nat):Int)) (hn:n<=1000) (hI:Inv w):RnK prog Q X Inv (kV X (i_ (n:Int))) o a w:=by
 have hw:IntKind.i64.wrap (n:Int)=(n:Int):=by rw [IntKind.wrap_i64];omega
 have e0:a.eval (.const (i_ 1))=i_ 1:=rfl;generalize hr:a.eval=r at hx e0;exact bt_ (v:=i_ (n:Int)) (by rw [hr];simp [execOp,ho,hx,e0,hw,go_sem]) rfl hI
theorem rk_rem {x:Operand} {n:Nat} (ho:o.op=.binOp .rem 3 x (.const (i_ 3)) 3) (hx:a.eval x=i_ n) (hI:Inv w):RnK prog Q X Inv (kNat X 3) o a w:=by
 have hw:(n:Int).tmod 3=((n % 3:Nat):Int):=by rw [Int.tmod_eq_emod_of_nonneg o_];omega
 have e0:a.eval (.const (i_ 3))=i_ 3:=rfl;generalize hr:a.eval=r at hx e0;exact bt_ (v:=i_ ((n:Int).tmod 3)) (by rw [hr];simp [execOp,ho,hx,e0,go_sem]) ⟨n % 3,Nat.mod_lt _ d_,by rw [hw]⟩ hI
end
def ExprOK (k:Nat):Prop:=∀ (d b lp:Nat) (X:NP) (w:World),Mk d b lp w->(∀ q,Zm d b q->X q)->(∀ q,X q->q<w)->Calls prog 114 #[.pointer (some (a_ b)),i_ k] w fun e w'=>RE X (k+1) e w'/\Md d b lp w w'
theorem cg_ {Q:Exit->Act->World->Prop} {X:XE} {Inv:World->Prop} {o:Oper} {a:Act} {w:World} {d b lp k:Nat} {x y:Operand} (hC:IC d b lp X Inv) (hE:ExprOK k) (ho:o.op=.call { callee:=.value (.func 114),args:=#[x,y],argTypes:=#[203,3] }) (hx:a.eval x=.pointer (some (a_ b))) (hy:a.eval y=i_ k) (hI:Inv w):RnK prog Q X Inv (kEx X (k+1)) o a w:=by
 have hf:a.eval (.func 114)=.func (.func 114) #[] #[]:=rfl;generalize hr:a.eval=r at hx hy hf;refine ck_ (f:=114) (args:=#[.pointer (some (a_ b)),i_ k]) (by rw [hr];simp [execOp,ho,hx,hy,hf,go_sem]) ((hE d b lp X w (hC.ok w hI) hC.zx (hC.lt w hI)).mono ?_);rintro e w' ⟨⟨kd,n,s,op,A,m,c,rfl,h⟩,hb⟩;exact ⟨_,rfl,hb.kp.mono (fun q _ hq=>hC.zx q hq),hC.ex w w' hI hb.kp,hC.up w w' hI hb.ok hb.kp,_,_,_,_,_,_,_,rfl,h.o⟩
theorem mex_step (k:Nat) (hk:k<=2) (hE:∀ j,k=j+1->ExprOK j):ExprOK k:=by
 intro d b lp X w hM hz Ae;obtain ⟨W,hW,Ab,Ak,B0⟩:=af_ w [i_ 0,i_ 0,.string ⟨#[]⟩,i_ 0,.slice none 0 0] 209;have A6:=hM.below Ab;have A7:b<w:=hM.lt;obtain ⟨X1,A8⟩:∃ X1:NP,X1=fun q=>X q∨q=w:=⟨_,rfl⟩
 obtain ⟨Z1,Aa⟩:∃ Z1:NP,Z1=fun q=>Zm d b q∨q=w:=⟨_,rfl⟩
 have A2:=h_ (X1 w/\Z1 w) (⟨by rw [A8];exact .inr rfl,by rw [Aa];exact .inr rfl⟩);have Ad:InvR d b lp X1 Z1 w w (ay_ (k+1)) pE W:=⟨A6,.of_below Ab,fun q hq=>by rw [A8] at hq;rcases hq with hq | hq;(have:=Ae q hq;omega);omega,_,B0,vts_ex (SlP.nil _ _ _ _ _),pE_ex x_ x_ d_⟩;have hC:IC d b lp (x1 X1) (InvR d b lp X1 Z1 w w (ay_ (k+1)) pE):=InvR.ic (fun _ _ _ h=>h) (fun q hq=>by rw [A8];exact .inl (hz q hq)) (fun q hq=>by rw [Aa];exact .inl hq) hM.nz;have HC:=q_ hC;have A3:=h_ (∀ w',Mk d b lp w'->Kp (Zm d b) W w'->InvR d b lp X1 Z1 w w (ay_ (k+1)) pE w') (fun w' h1 h2=>hC.up W w' Ad h1 h2);have A0:=h_ (∀ (a:Act) (w2:World),InvR d b lp X1 Z1 w w (ay_ (k+1)) pE w2->a.defers=[]->a.tmps.getD 4 undef=.pointer (some (a_ w))->bodyPost prog f114 (fun e w'=>RE X (k+1) e w'/\Md d b lp w w') .ret a w2) (fun a w2 hI A1 ha=>by
  obtain ⟨cs,g1,g2,g3⟩:=hI.bx
  obtain ⟨kd,n,s,op,A,m,c,rfl,_⟩:=g2.expr
  refine retC results114 ha underlying209 rfl (cs:=exL kd n s op A m c) isz5 g1.whole A1 ⟨⟨_,_,_,_,_,_,_,rfl,q_ ⟨g2.less (fun q _ hq=>by rw [A8];exact .inl hq),g3⟩⟩,hI.ok,hI.kp.mono (fun q hq Af=>?_)⟩
  rw [Aa] at Af
  rcases Af with h | h
  ·exact h
  omega)
 have HE:=q_ hE;have c0:=A6.c0;have Al:=A6.lt;have HD:=q_ A6.dice;have Ag:=q_ A6;clear hM hz Ae B0 Ab A6 Ad hC Ak A8 Aa hE;go_enter func114,ntmps114;go_upto_region 1 with fail;rw [←hW];clear hW;go_upto_region 2 with (go_at_call 26;refine (bo_ d 12 W HD.o d_ d_).mono ?_;rintro e w1 ⟨r,hr,rfl,ht,_⟩);have A5:=q_ (Ag.o.thrown ht);have A4:=q_ (ht.kp b);clear c0 Al ht;by_cases h4:r<4
 ·have Ah:(r:Int)<4:=by omega
  go_upto_region 3 with fail;refine bf_ (X:=(x1 X1)) (Inv:=(InvR d b lp X1 Z1 w w (ay_ (k+1)) pE)) (ks:=fun i=>([(kV _ (pt b)),(kV _ (pt b)),(kV _ (pt b)),(kV _ (pt d)),(kNat _ 9),(kInt _),(kEx _ 0),(kAny _)]:List (SK (x1 X1))).getD i (kAny _)) k_ (A3.o _ A5.o A4.o) ?_ ?_
  ·intro i o ho a w hI hout hin
   match i,ho with
   | 0,ho=>cases ho;exact M0_
   | 1,ho=>cases ho;exact cc_ rfl H0_ hI
   | 2,ho=>cases ho;exact cb_ d_ rfl H1_ hI
   | 3,ho=>cases ho;exact bk_ HC.o rfl H2_ hI
   | 4,ho=>cases ho;exact bs_ (n:=9) HC.o rfl H3_ rfl d_ d_ hI
   | 5,ho=>cases ho;exact rk_sub (.inl rfl) rfl (ct_ (show (kNat _ 9).p w _ from H4_)) ⟨_,rfl⟩ hI
   | 6,ho=>cases ho;obtain ⟨q,hq⟩:=(show (kInt _).p w _ from H5_);exact rk_num HC.o rfl hq hI
   | 7,ho=>cases ho;exact df_ (fun _ h=>h) A7 A2.o.1 A2.o.2 rfl (hout 4 d_) (bi_ (d':=k+1) o_ (show (kEx _ 0).p w _ from H6_)) hI
   | q+8,ho=>exact n_ ho
  intro a w2 hI hsz A1 hout A9;go_wp2;exact A0.o a w2 hI A1 (hout 4 d_)
 have Ah:¬(r:Int)<4:=by omega
 by_cases h8:r<8
 ·have Aj:(r:Int)<8:=by omega
  go_upto_region 5 with fail;refine dn_ (X:=(x1 X1)) (Inv:=(InvR d b lp X1 Z1 w w (ay_ (k+1)) pE)) (ks:=fun i=>([(bv_ _ 5),(kV _ (pt b)),(kV _ (pt b)),(kV _ (pt b)),(kV _ (pt d)),(bv_ _ 5),(kV _ (i_ (5:Nat))),(kNat _ 5),(dh_ _),(kStr _),(kEx _ 0),(kAny _)]:List (SK (x1 X1))).getD i (kAny _)) rfl k_ (A3.o _ (A5.o.below (Below.drew (b_))) (A4.o.bc_ (Below.drew (b_)))) ?_ ?_
  ·intro i o ho a w hI hout hin
   match i,ho with
   | 0,ho=>cases ho;exact rk_names HC.o rfl hI
   | 1,ho=>cases ho;exact M0_
   | 2,ho=>cases ho;exact cc_ rfl H1_ hI
   | 3,ho=>cases ho;exact cb_ d_ rfl H2_ hI
   | 4,ho=>cases ho;exact bk_ HC.o rfl H3_ hI
   | 5,ho=>cases ho;exact rk_names HC.o rfl hI
   | 6,ho=>cases ho;exact rk_len rfl (show (bv_ _ 5).p w _ from H5_) hI
   | 7,ho=>cases ho;exact bs_ (n:=5) HC.o rfl H4_ H6_ d_ d_ hI
   | 8,ho=>cases ho;exact rk_idx (n:=5) rfl (show (bv_ _ 5).p w _ from H0_) (show (kNat _ 5).p w _ from H7_) hI
   | 9,ho=>cases ho;exact en_ rfl (show (dh_ _).p w _ from H8_) hI
   | 10,ho=>cases ho;exact ek_ HC.o rfl (show (kStr _).p w _ from H9_) hI
   | 11,ho=>cases ho;exact df_ (fun _ h=>h) A7 A2.o.1 A2.o.2 rfl (hout 4 d_) (bi_ (d':=k+1) o_ (show (kEx _ 0).p w _ from H10_)) hI
   | q+12,ho=>exact n_ ho
  intro a w2 hI hsz A1 hout A9;go_wp2;exact A0.o a w2 hI A1 (hout 4 d_)
 have Aj:¬(r:Int)<8:=by omega
 cases k with
 | zero =>
  go_upto_region 5 with fail;refine dn_ (X:=(x1 X1)) (Inv:=(InvR d b lp X1 Z1 w w (ay_ (0+1)) pE)) (ks:=fun i=>([(bv_ _ 5),(kV _ (pt b)),(kV _ (pt b)),(kV _ (pt b)),(kV _ (pt d)),(bv_ _ 5),(kV _ (i_ (5:Nat))),(kNat _ 5),(dh_ _),(kStr _),(kEx _ 0),(kAny _)]:List (SK (x1 X1))).getD i (kAny _)) rfl k_ (A3.o _ (A5.o.below (Below.drew (b_))) (A4.o.bc_ (Below.drew (b_)))) ?_ ?_
  ·intro i o ho a w hI hout hin
   match i,ho with
   | 0,ho=>cases ho;exact rk_names HC.o rfl hI
   | 1,ho=>cases ho;exact M0_
   | 2,ho=>cases ho;exact cc_ rfl H1_ hI
   | 3,ho=>cases ho;exact cb_ d_ rfl H2_ hI
   | 4,ho=>cases ho;exact bk_ HC.o rfl H3_ hI
   | 5,ho=>cases ho;exact rk_names HC.o rfl hI
   | 6,ho=>cases ho;exact rk_len rfl (show (bv_ _ 5).p w _ from H5_) hI
   | 7,ho=>cases ho;exact bs_ (n:=5) HC.o rfl H4_ H6_ d_ d_ hI
   | 8,ho=>cases ho;exact rk_idx (n:=5) rfl (show (bv_ _ 5).p w _ from H0_) (show (kNat _ 5).p w _ from H7_) hI
   | 9,ho=>cases ho;exact en_ rfl (show (dh_ _).p w _ from H8_) hI
   | 10,ho=>cases ho;exact ek_ HC.o rfl (show (kStr _).p w _ from H9_) hI
   | 11,ho=>cases ho;exact df_ (fun _ h=>h) A7 A2.o.1 A2.o.2 rfl (hout 4 d_) (bi_ (d':=0+1) o_ (show (kEx _ 0).p w _ from H10_)) hI
   | q+12,ho=>exact n_ ho
  intro a w2 hI hsz A1 hout A9;go_wp2;exact A0.o a w2 hI A1 (hout 4 d_)
 | succ k =>
 have Ac:=q_ (HE.o k rfl);have An:¬((k+1:Nat):Int)=0:=by omega
 by_cases h88:r=8
 ·subst h88;go_upto_region 7 with fail;refine dn_ (X:=(x1 X1)) (Inv:=(InvR d b lp X1 Z1 w w (ay_ ((k+1)+1)) pE)) (ks:=fun i=>([(kV _ (pt b)),(kV _ (pt b)),(kV _ (pt b)),(kV _ (pt d)),(kNat _ 3),(bv_ _ 2),(kV _ (pt b)),(kV _ (pt b)),(kV _ (pt b)),(kV _ (pt d)),(kNat _ 2),(dh_ _),(kStr _),(kEx _ 0),(kExs _ 0 1),(kEx _ 1),(kAny _)]:List (SK (x1 X1))).getD i (kAny _)) rfl k_ (A3.o _ (A5.o.below (Below.drew (b_))) (A4.o.bc_ (Below.drew (b_)))) ?_ ?_
  ·intro i o ho a w hI hout hin
   match i,ho with
   | 0,ho=>cases ho;exact M0_
   | 1,ho=>cases ho;exact cc_ rfl H0_ hI
   | 2,ho=>cases ho;exact cb_ d_ rfl H1_ hI
   | 3,ho=>cases ho;exact bk_ HC.o rfl H2_ hI
   | 4,ho=>cases ho;exact bs_ (n:=3) HC.o rfl H3_ rfl d_ d_ hI
   | 5,ho=>cases ho;exact rk_bst2 HC.o rfl d_ d_ hI
   | 6,ho=>cases ho;exact M0_
   | 7,ho=>cases ho;exact cc_ rfl H6_ hI
   | 8,ho=>cases ho;exact cb_ d_ rfl H7_ hI
   | 9,ho=>cases ho;exact bk_ HC.o rfl H8_ hI
   | 10,ho=>cases ho;exact bs_ (n:=2) HC.o rfl H9_ rfl d_ d_ hI
   | 11,ho=>cases ho;exact rk_idx (n:=2) rfl (show (bv_ _ 2).p w _ from H5_) (show (kNat _ 2).p w _ from H10_) hI
   | 12,ho=>cases ho;exact en_ rfl (show (dh_ _).p w _ from H11_) hI
   | 13,ho=>cases ho;exact ek_ HC.o rfl (show (kStr _).p w _ from H12_) hI
   | 14,ho=>cases ho;exact du_ HC.o rfl (show (kEx _ 0).p w _ from H13_) hI
   | 15,ho=>cases ho;exact rk_be3 rfl (ct_ (show (kNat _ 3).p w _ from H4_)) (show (kExs _ 0 1).p w _ from H14_) hI
   | 16,ho=>cases ho;exact df_ (fun _ h=>h) A7 A2.o.1 A2.o.2 rfl (hout 4 d_) (bi_ (d':=(k+1)+1) o_ (show (kEx _ 1).p w _ from H15_)) hI
   | q+17,ho=>exact n_ ho
  intro a w2 hI hsz A1 hout A9;go_wp2;exact A0.o a w2 hI A1 (hout 4 d_)
 have Ai:¬(r:Int)=8:=by omega
 by_cases h9:r=9
 ·subst h9;go_upto_region 9 with fail;refine bf_ (X:=(x1 X1)) (Inv:=(InvR d b lp X1 Z1 w w (ay_ ((k+1)+1)) pE)) (ks:=fun i=>([(kV _ (pt b)),(kV _ (pt b)),(kV _ (pt b)),(kV _ (pt d)),(kNat _ 4),(kEx _ 0),(kAny _)]:List (SK (x1 X1))).getD i (kAny _)) k_ (A3.o _ A5.o A4.o) ?_ ?_
  ·intro i o ho a w hI hout hin
   match i,ho with
   | 0,ho=>cases ho;exact M0_
   | 1,ho=>cases ho;exact cc_ rfl H0_ hI
   | 2,ho=>cases ho;exact cb_ d_ rfl H1_ hI
   | 3,ho=>cases ho;exact bk_ HC.o rfl H2_ hI
   | 4,ho=>cases ho;exact bs_ (n:=4) HC.o rfl H3_ rfl d_ d_ hI
   | 5,ho=>cases ho;exact rk_be1 rfl d_ (ct_ (show (kNat _ 4).p w _ from H4_)) hI
   | 6,ho=>cases ho;exact df_ (fun _ h=>h) A7 A2.o.1 A2.o.2 rfl (hout 4 d_) (bi_ (d':=(k+1)+1) o_ (show (kEx _ 0).p w _ from H5_)) hI
   | q+7,ho=>exact n_ ho
  intro a w2 hI hsz A1 hout A9;go_wp2;exact A0.o a w2 hI A1 (hout 4 d_)
 have Am:¬(r:Int)=9:=by omega
 go_upto_region 10 with fail;refine bf_ (X:=(x1 X1)) (Inv:=(InvR d b lp X1 Z1 w w (ay_ ((k+1)+1)) pE)) (ks:=fun i=>([(kV _ (pt b)),(kV _ (pt b)),(kV _ (pt b)),(kV _ (pt d)),(kNat _ 11),(kInt _),(kV _ (pt b)),(kV _ (i_ ((k)+1:Nat))),(kV _ (i_ (k:Nat))),(kEx _ (k+1)),(kV _ (pt b)),(kV _ (i_ ((k)+1:Nat))),(kV _ (i_ (k:Nat))),(kEx _ (k+1)),(kEx _ ((k+1)+1)),(kAny _)]:List (SK (x1 X1))).getD i (kAny _)) k_ (A3.o _ A5.o A4.o) ?_ ?_
 ·intro i o ho a w hI hout hin
  match i,ho with
  | 0,ho=>cases ho;exact M0_
  | 1,ho=>cases ho;exact cc_ rfl H0_ hI
  | 2,ho=>cases ho;exact cb_ d_ rfl H1_ hI
  | 3,ho=>cases ho;exact bk_ HC.o rfl H2_ hI
  | 4,ho=>cases ho;exact bs_ (n:=11) HC.o rfl H3_ rfl d_ d_ hI
  | 5,ho=>cases ho;exact rk_add (.inl rfl) rfl ⟨_,rfl⟩ (ct_ (show (kNat _ 11).p w _ from H4_)) hI
  | 6,ho=>cases ho;exact M0_
  | 7,ho=>cases ho;exact bm_ (.inl rfl) (show (kV _ (i_ ((k)+1:Nat))).p w _ from (hout 1 d_)) hI
  | 8,ho=>cases ho;exact rk_dec (n:=k) rfl H7_ o_ hI
  | 9,ho=>cases ho;exact cg_ (k:=k) HC.o Ac.o rfl H6_ H8_ hI
  | 10,ho=>cases ho;exact M0_
  | 11,ho=>cases ho;exact bm_ (.inl rfl) (show (kV _ (i_ ((k)+1:Nat))).p w _ from (hout 1 d_)) hI
  | 12,ho=>cases ho;exact rk_dec (n:=k) rfl H11_ o_ hI
  | 13,ho=>cases ho;exact cg_ (k:=k) HC.o Ac.o rfl H10_ H12_ hI
  | 14,ho=>cases ho;exact rk_bin HC.o rfl (show (kInt _).p w _ from H5_) (show (kEx _ (k+1)).p w _ from H9_) (show (kEx _ (k+1)).p w _ from H13_) hI
  | 15,ho=>cases ho;exact df_ (fun _ h=>h) A7 A2.o.1 A2.o.2 rfl (hout 4 d_) (show (kEx _ ((k+1)+1)).p w _ from H14_) hI
  | q+16,ho=>exact n_ ho
 intro a w2 hI hsz A1 hout A9;go_wp2;exact A0.o a w2 hI A1 (hout 4 d_)
end Go.Proofs.YtfolidlmgfhkiaaGreat
