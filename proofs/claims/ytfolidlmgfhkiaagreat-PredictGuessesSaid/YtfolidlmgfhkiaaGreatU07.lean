/- Lemmas on functions of the program, under the conditions that each states. -/
import Derived.Test.YtfolidlmgfhkiaaGreatU02
set_option linter.unusedVariables false
set_option linter.unusedSimpArgs false
set_option maxRecDepth 100000
set_option maxHeartbeats 4000000
namespace Go.Proofs.YtfolidlmgfhkiaaGreat.Pr
open Go.RowKit Go.Proofs.Tryz
theorem sl_upd {w2 F:World} {g n k:Nat} {ts:List Trk} {t:Trk} {v:Val} (hl:ts.length=n) (hg:g<F) (ht:ts[k]?=some t)
  (hold:∀ (i:Nat) (x:Trk),ts[i]?=some x->∀ (j:Nat) (u:Value),(Trk.cells x)[j]?=some u->w2.cell? ⟨g,i*5+j,none⟩=some u)
  (hoth:∀ o,(o<k*5\/k*5+5<=o)->F.cell? (f_ g o)=w2.cell? (f_ g o))
  (hnew:∀ (j:Nat) (u:Value),(Trk.cells (upd t v))[j]?=some u->F.cell? ⟨g,k*5+j,none⟩=some u) :
  Sl F F 5 Trk.cells (some (a_ g)) n (ts.modify k (upd · v)):=by
 refine ⟨by rw [List.length_modify,hl],fun _=>⟨g,0,rfl,hg,fun i x hx j u hu=>?_⟩⟩;have hj:j<5:=by have:=(e_ hu).1;rwa [Trk.size] at this
 rw [Nat.zero_add];rw [List.getElem?_modify] at hx;by_cases hik:k=i
 ·subst hik;rw [ht] at hx;simp at hx;subst hx;exact hnew j u hu
 simp [hik] at hx;rw [hoth _ o_];exact hold i x hx j u hu
theorem five {t:Trk} {P:Nat->Value->Prop} (h0:P 0 (i_ t.key)) (h1:P 1 (.bool t.last.ref)) (h2:P 2 (i_ t.last.n)) (h3:P 3 (i_ t.stride)) (h4:P 4 (i_ t.seen)):∀ (j:Nat) (u:Value),(Trk.cells t)[j]?=some u->P j u:=by
 intro j u hu
 match j,hu with
 | 0,hu=>simp [Trk.cells] at hu;subst hu;exact h0
 | 1,hu=>simp [Trk.cells] at hu;subst hu;exact h1
 | 2,hu=>simp [Trk.cells] at hu;subst hu;exact h2
 | 3,hu=>simp [Trk.cells] at hu;subst hu;exact h3
 | 4,hu=>simp [Trk.cells] at hu;subst hu;exact h4
 | j+5,hu=>simp [Trk.cells] at hu
theorem train_old (A:OA) (n c:Nat) (ts:List Trk) (key:Int) (v:Val) (w:World) (hs:Sl w w 5 Trk.cells A n ts) (hn:n<=900000) (hgood:Good ts) (hh:hit ts key=true) :
  Calls prog 53 #[.agg #[.slice A n c],i_ key,v.value] w (Gives (cl_ ts key v) w):=by
 have HS:=q_ hgood.1;have Ag:=q_ hgood.2;have HH:=q_ hh;clear hgood hh;unfold Val.value;go_enter func53,ntmps53;go_wp2_with fail;obtain ⟨W,hW⟩:=ex_ (((w.alloc (.cells #[.slice A n c] 59)).alloc (.cells #[.bool v.ref,i_ v.n] 38)).alloc (.cells #[.slice none 0 0] 59));rw [<-hW];have Ad:Below w w W:=by rw [hW];exact (bel (b_))
 have Ae:(W:Nat)=w+3:=by rw [hW];simp
 have Af:=(hs.below Ad).mono (B':=W) o_;refine (CloneTk5.any A n c (ts.flatMap Trk.cells) W (Sl.src Af).1 (Sl.src Af).2 yu_ o_ (ed_ ts)).mono ?_;rintro e w1 ⟨A1,c1,rfl,A3,A2⟩;have AE:=A2.size;have q0:W.cell? (a_ w)=some (.slice A n c):=zy_;have q1:W.cell? (a_ (w+1))=some (.bool v.ref):=zk_;have q2:W.cell? (f_ (w+1) 1)=some (i_ v.n):=zk_;have q3:W.cell? ⟨w+1+1,0,none⟩=some (.slice none 0 0):=ym_;have q4:W.frozen? ⟨w+1+1,0,none⟩=false:=xh_;have d0:=(A2.cell (p:=(a_ w)) za_).trans q0;have d1:=(A2.cell (p:=(a_ (w+1))) za_).trans q1;have d2:=(A2.cell (p:=(f_ (w+1) 1)) za_).trans q2;have d3:=(A2.cell (p:=⟨w+1+1,0,none⟩) za_).trans q3;have d4:=(A2.frozen (p:=⟨w+1+1,0,none⟩) za_).trans q4;have An:(w:Nat)<w1:=by omega
 have A6:(w:Nat)+1<w1:=by omega
 have A7:(w:Nat)+1+1<w1:=by omega
 have HW:=q_ hW;have HZ:=q_ Ae;clear hW Ae;go_wp2_with fail;refine (find_any A1 n c1 ts key _ ((Sl.cs_ Trk.size hs.len (A3.alloc _))) o_ HS.o).mono ?_;rintro e w2 ⟨rfl,A9⟩;obtain ⟨A5,Ab⟩:=bcell A9;have Ar:=A9.size;simp only [World.size_alloc] at Ar;have Ax:(w:Nat)<w2:=by omega
 have Ay:(w:Nat)+1<w2:=by omega
 have Az:(w:Nat)+1+1<w2:=by omega
 have AA:(w1:Nat)<w2:=by omega
 rw [HH.o];have A0:=own_below (A3.alloc (.cells #[.slice A1 n c1] 59)) A9;obtain ⟨t,ht,_,_⟩:=fnd_some HH.o;have Am:lowb ts key<n:=by rw [<-hs.len];exact (e_ ht).1
 obtain ⟨g,c2,Aa,Av,Aw⟩:=A0.form o_;injection Aa with Aa _ hc12;subst Aa hc12;have Al:g<w1:=(A3.lt g rfl).2;have Aj:w+3<=g:=by have:=HZ.o;omega
 obtain ⟨k,hk⟩:=ex_ (lowb ts key);rw [<-hk] at ht Am;rw [<-hk];have A4:∀ (j:Nat) (u:Value),(Trk.cells t)[j]?=some u->w2.cell? ⟨g,k*5+j,none⟩=some u:=fun j u hu=>by
  have hj:j<5:=by have:=(e_ hu).1;rwa [Trk.size] at this
  rw [A0.cellAt _ o_];exact flat_get Trk.size ts k t ht j u hu
 have e0:w2.cell? ⟨g,k*5,none⟩=some (i_ t.key):=A4 0 _ rfl;have e1:w2.cell? ⟨g,k*5+1,none⟩=some (.bool t.last.ref):=A4 1 _ rfl;have e2:w2.cell? ⟨g,k*5+2,none⟩=some (i_ t.last.n):=A4 2 _ rfl;have e3:w2.cell? ⟨g,k*5+3,none⟩=some (i_ t.stride):=A4 3 _ rfl;have e4:w2.cell? ⟨g,k*5+4,none⟩=some (i_ t.seen):=A4 4 _ rfl;have fz:∀ j,w2.frozen? (f_ g j)=false:=fun j=>A0.frozenAt j
 have b1:w2.cell? (a_ w1)=some (.slice (some (a_ g)) n c1):=(A5 _ _ t_).trans t_;have b2:w2.cell? (a_ (w+1))=some (.bool v.ref):=(A5 _ _ za_).trans ((ai_ _ _ _ _ A6).trans d1);have b3:w2.cell? (f_ (w+1) 1)=some (i_ v.n):=(A5 _ _ za_).trans ((ai_ _ _ _ _ A6).trans d2);have b4:w2.cell? ⟨w+1+1,0,none⟩=some (.slice none 0 0):=(A5 _ _ za_).trans ((ai_ _ _ _ _ A7).trans d3);have b5:w2.frozen? ⟨w+1+1,0,none⟩=false:=(Ab _ _ za_).trans ((cq_ _ _ _ _ A7).trans d4);have AB:¬g=w+1:=by omega
 have AC:¬g=w+1+1:=by omega
 have AD:¬g=w1:=by omega
 have Ai:Below w w w2:=(Ad.trans ((A2.mono (by have:=HZ.o;omega)).alloc o_ _)).trans (A9.mono za_);have A8:∀ (i:Nat) (x:Trk),ts[i]?=some x->∀ (j:Nat) (u:Value),(Trk.cells x)[j]?=some u->w2.cell? ⟨g,i*5+j,none⟩=some u:=fun i x hx j u hu=>by
  have hj:j<5:=by have:=(e_ hu).1;rwa [Trk.size] at this
  have hi:=(e_ hx).1;rw [hs.len] at hi;rw [A0.cellAt _ o_];exact flat_get Trk.size ts i x hx j u hu
 have HO:=q_ A8;have Ao:=Ag.o k t ht;obtain ⟨Ap,Aq⟩:=Ao;have Ah:=h_ (cl_ ts key v=ts.modify k (upd · v)) (by rw [cl_,HH.o,hk];rfl);clear A8;have HT:=q_ ht;have HK:=q_ hk;have Au:=q_ Ab;have As:=q_ A5;clear ht hk A4 Ab A5;have Ak:g<w2:=by omega
 have Ac:w<=g:=by omega
 cases hv:v.ref <;> cases hl:t.last.ref <;> by_cases hsn:t.seen<1073741824
 all_goals
  go_wp2;try go_region
  try go_wp2
  refine bodyPost_ret (v:=.agg #[.slice (some (a_ g)) n c1]) (by simp [results,results53,go_sem,b4]) rfl ⟨_,n,c1,rfl,?_,(bel Ai),by rintro ad ⟨⟩;exact Ac⟩;rw [Ah.o];refine sl_upd (w2:=w2) hs.len (by simpa using Ak) HT.o HO.o (fun o ho=>?_) (five ?_ ?_ ?_ ?_ ?_)
  ·try simp only [World.cell?_drew]
   repeat rw [bg_ _ _ _ _ zl_]
  ·simp [go_sem,upd,e0,hv,hl,hsn]
  ·simp [go_sem,upd,e1,hv,hl,hsn]
  ·simp [go_sem,upd,e2,hv,hl,hsn]
  ·simp [go_sem,upd,e3,hv,hl,hsn]
  simp [go_sem,upd,e4,hv,hl,hsn] <;> omega
end Go.Proofs.YtfolidlmgfhkiaaGreat.Pr
