/- Lemmas on functions of the program, under the conditions that each states. -/
import Derived.Test.YtfolidlmgfhkiaaGreatU00
import Derived.Deep.RegionHeld
import Derived.RowKit
import Derived.ProofKit
import Derived.Deep.Slices
import Derived.Deep.Fields
import Derived.ChangeSame
import Derived.Deep.RegionHeld3
import Derived.Deep.MidRow
import Derived.Deep.DeepCutAuto
import Derived.Deep.CutBlock
import Derived.Deep.LoopGhost
import Derived.Deep.RegionWith
import Derived.Shelf.SlicesE.Kit
import Derived.Laws.StructEq
set_option linter.unusedVariables false
set_option linter.unusedSimpArgs false
set_option maxRecDepth 100000
set_option maxHeartbeats 4000000
namespace Go.Proofs.YtfolidlmgfhkiaaGreat
open Go.RowKit
abbrev zl1:VL:=[.int .i64 0,.int .i64 0,.bool false,.int .i64 0,.bool false,.int .i64 0,.bool false,.int .i64 0,.bool false,.int .i64 0,.bool false,.int .i64 0,.bool false,.int .i64 0,.bool false,.int .i64 0,.bool false,.int .i64 0,.bool false,.int .i64 0,.bool false,.int .i64 0,.bool false,.int .i64 0,.bool false,.int .i64 0,.bool false,.int .i64 0,.bool false,.int .i64 0,.bool false,.int .i64 0,.bool false,.int .i64 0,.bool false,.int .i64 0,.slice none 0 0,.slice none 0 0,.slice none 0 0,.slice none 0 0,.slice none 0 0,.slice none 0 0,.int .i64 0,.int .i64 0,.bool false,.bool false,.int .i64 0,.int .i64 0]
abbrev zl2:VL:=[.slice none 0 0,.int .i64 0,.bool false,.int .i64 0,.bool false,.int .i64 0,.bool false,.int .i64 0,.bool false,.int .i64 0,.bool false,.int .i64 0,.bool false,.int .i64 0,.bool false,.int .i64 0,.bool false,.int .i64 0,.bool false,.int .i64 0,.bool false,.int .i64 0,.bool false,.int .i64 0,.bool false,.int .i64 0,.bool false,.int .i64 0,.bool false,.int .i64 0,.bool false,.int .i64 0,.bool false,.int .i64 0,.int .i64 0,.int .i64 0,.slice none 0 0,.bool false,.bool false,.bool false,.int .i64 0,.int .i64 0]
abbrev zl3:VL:=[.slice none 0 0,.int .i64 0,.int .i64 0,.slice none 0 0,.bool false,.bool false,.bool false,.int .i64 0,.int .i64 0,.int .i64 0]
abbrev zl4:VL:=[.bool false,.int .i64 0,.bool false,.int .i64 0,.bool false,.int .i64 0,.bool false,.int .i64 0,.bool false,.int .i64 0,.bool false,.int .i64 0,.bool false,.int .i64 0,.bool false,.int .i64 0,.bool false,.int .i64 0,.bool false,.int .i64 0,.bool false,.int .i64 0,.bool false,.int .i64 0,.bool false,.int .i64 0,.bool false,.int .i64 0,.bool false,.int .i64 0,.bool false,.int .i64 0]
abbrev zl5:VL:=[.slice none 0 0,.int .i64 0,.int .i64 0,.int .i64 0,.bool false,.int .i64 0,.bool false,.int .i64 0,.bool false,.int .i64 0,.bool false,.int .i64 0,.bool false,.int .i64 0,.bool false,.int .i64 0,.bool false,.int .i64 0,.bool false,.int .i64 0,.bool false,.int .i64 0,.bool false,.int .i64 0,.bool false,.int .i64 0,.bool false,.int .i64 0,.bool false,.int .i64 0,.bool false,.int .i64 0,.bool false,.int .i64 0,.bool false,.int .i64 0,.slice none 0 0,.int .i64 0,.int .i64 0,.int .i64 0,.bool false,.int .i64 0,.bool false,.int .i64 0,.bool false,.int .i64 0,.bool false,.int .i64 0,.bool false,.int .i64 0,.bool false,.int .i64 0,.bool false,.int .i64 0,.bool false,.int .i64 0,.bool false,.int .i64 0,.bool false,.int .i64 0,.bool false,.int .i64 0,.bool false,.int .i64 0,.bool false,.int .i64 0,.bool false,.int .i64 0,.bool false,.int .i64 0,.bool false,.int .i64 0,.slice none 0 0,.slice none 0 0,.slice none 0 0,.slice none 0 0,.slice none 0 0,.int .i64 0,.bool false,.bool false,.int .i64 0,.bool false]
abbrev zl6:VL:=[.int .i64 0,.int .i64 0,.bool false,.int .i64 0,.bool false,.int .i64 0,.bool false,.int .i64 0,.bool false,.int .i64 0,.bool false,.int .i64 0,.bool false,.int .i64 0,.bool false,.int .i64 0,.bool false,.int .i64 0,.bool false,.int .i64 0,.bool false,.int .i64 0,.bool false,.int .i64 0,.bool false,.int .i64 0,.bool false,.int .i64 0,.bool false,.int .i64 0,.bool false,.int .i64 0,.bool false,.int .i64 0,.slice none 0 0,.slice none 0 0,.slice none 0 0,.slice none 0 0,.slice none 0 0,.int .i64 0,.bool false,.bool false,.int .i64 0]
abbrev zl7:VL:=[.slice none 0 0,.int .i64 0,.int .i64 0,.slice none 0 0,.slice none 0 0,.slice none 0 0,.int .i64 0,.int .i64 0,.slice none 0 0,.bool false,.bool false,.bool false,.int .i64 0,.int .i64 0,.int .i64 0,.slice none 0 0,.int .i64 0]
def cutA (A:OA) (c k sz:Nat):OA:=if c=k then A else A.map (·.add (k*sz))
theorem slice_high {P:Program} {t e:TypeId} {i:TypeInfo} (hu:P.underlying t=some (.slice e)) (hi:P.info? e=some i) {A:OA} {n c k:Nat} (hk:k≤c) (w:World) :
  (Instr.slice t (.slice A n c) none (some (.int .i64 k)) none).run P w=.ok (.slice A k c) w:=by
 have hm:A.map (·.add 0)=A:=by cases A <;> simp [Addr.add]
 simp [Instr.slice,run_underlying hu,Instr.sliceBounds,Instr.sliceBound,asIntOf,hk,sizeOf,typeInfo,hi,hm]
theorem ey_ {P:Program} {t e:TypeId} {i:TypeInfo} (hu:P.underlying t=some (.slice e)) (hi:P.info? e=some i) {A:OA} {n c k:Nat} (hk:k≤n) (w:World) :
  (Instr.slice t (.slice A n c) (some (.int .i64 k)) none none).run P w=.ok (.slice (cutA A c k i.size) (n - k) (c - k)) w:=by
 simp [Instr.slice,run_underlying hu,Instr.sliceBounds,Instr.sliceBound,asIntOf,hk,sizeOf,typeInfo,hi,cutA]
theorem Sl.src_low {α:Type} {w:World} {B sz:Nat} {cells:α→VL} {A:OA} {n c k:Nat} {l:List α} (h:Sl w B sz cells A n l) (hsz:∀ x,(cells x).length=sz) (hnc:n≤c) :
  (cutA A c k sz=none→n - k=0)∧∀ ad,cutA A c k sz=some ad→∀ (j:Nat) (u:Value),((l.drop k).flatMap cells)[j]?=some u→w.cell? (ad.add j)=some u:=by
 by_cases hk:k<n
 ·obtain ⟨ab,ao,rfl,_,_⟩:=h.at_ (by omega)
  have hne:¬c=k:=by omega
  unfold cutA
  rw [if_neg hne]
  refine ⟨fun h=>absurd h (by simp),fun ad A0 j u hu=>?_⟩
  injection A0 with A0
  subst A0
  rw [<-flat_drop hsz,List.getElem?_drop] at hu
  have:=(h.src hsz).2 _ rfl (k*sz+j) u hu
  show w.cell? (Addr.add (Addr.add ⟨ab,ao,none⟩ (k*sz)) j)=some u
  rw [Addr.add_lit] at this
  rwa [Addr.add_lit,Addr.add_lit,Nat.add_assoc]
 ·refine ⟨fun _=>by omega,fun ad _ j u hu=>?_⟩
  rw [List.drop_eq_nil_of_le (by rw [h.len];omega)] at hu
  simp at hu
section
variable {P : Program} {ops : Array Oper} {Q : Exit → Act → World → Prop} {md : Region.Mode}
/-- An operation is taken first; its temporary is named. -/
theorem takeP (i : Nat) (d : Option Tmp) (v : Value) {S : World → Prop} {oi : Oper} {fuel : Nat} {listed : Array Bool} {a : Act} {w : World} (hi : ops[i]? = some oi) (hd : oi.dst = d) (hs : Region.noSelect ops = true) (hf : Region.free md ops listed i = true)
    (hr : (Region.ready md ops listed).contains i = true) (hQ : ∀ c a w, Q (.panic c) (a.put oi.dst v) w → Q (.panic c) a w) (hy : YieldsIf P ops S oi v a) (hS : S w)
    (h : wpAnyH P md ops Q S fuel (listed.setIfInBounds i true) (a.put d v) w) : wpAnyH P md ops Q S (fuel + 1) listed a w := by
  subst hd
  exact wpAnyH_take hi hs hf hr hQ hy hS h
/-- One operation alone can come next: it is carried out; S is shown anew. -/
theorem bf_ (i : Nat) {S : World → Prop} {oi : Oper} {fuel : Nat} {listed : Array Bool} {a : Act} {w : World} (hr : Region.ready md ops listed = [i]) (hi : ops[i]? = some oi)
    (h : ∀ K' : Act → World → Prop, Shut (∀ a w, S w → (S w → wpAnyH P md ops Q S fuel (listed.setIfInBounds i true) a w) → K' a w) → if Region.wanted oi (yielded ops a.tmps) = true then Oper.wp P oi a w K' Q else K' (a.put oi.dst undef) w) :
    wpAnyH P md ops Q S (fuel + 1) listed a w :=
  wpAnyH_ready hr zm_ (AllReadyH.cons hi h AllReadyH.nil)
/-- The same, with all that is alike left to Lean. -/
theorem aa_ (i d : Nat) {v : Value} {S : World → Prop} {oi : Oper} {fuel : Nat} {listed : Array Bool} {a a' : Act} {w : World} (h : wpAnyH P md ops Q S fuel (listed.setIfInBounds i true) a' w)
    (hi : ops[i]? = some oi := by rfl) (hd : oi.dst = some d := by rfl) (hs : Region.noSelect ops = true := by kernel_rfl) (hf : Region.free md ops listed i = true := by kernel_rfl) (hr : (Region.ready md ops listed).contains i = true := by kernel_rfl)
    (hQ : ∀ c a w, Q (.panic c) (a.put oi.dst v) w → Q (.panic c) a w := by exact fun _ _ _ h => h) (hw : Region.wanted oi (yielded ops a.tmps) = true := by rfl)
    (hy : ∀ w', S w' → (execOp a.eval oi).run P w' = .ok (.value v) w' := by (intro w' hSw; (try dsimp only at hSw); first | (go_simp; first | done | with_reducible rfl) | (simp only [List.getElem_toArray, List.getElem_cons_zero, List.getElem_cons_succ]; go_simp; first | done | with_reducible rfl))) (hS : S w := by assumption)
    (ha : a.put (some d) v = a' := by (first | (simp only [Act.put, List.setIfInBounds_toArray, List.set_cons_zero, List.set_cons_succ]; rfl) | (simp only [Act.put, List.setIfInBounds_toArray, List.set_cons_zero, List.set_cons_succ]) | rfl)) : wpAnyH P md ops Q S (fuel + 1) listed a w := by
  subst ha
  exact takeP i (some d) v hi hd hs hf hr hQ (.inl ⟨hw, hy⟩) hS h
theorem al_ (i d : Nat) {S : World → Prop} {oi : Oper} {fuel : Nat} {listed : Array Bool} {a a' : Act} {w : World} (h : wpAnyH P md ops Q S fuel (listed.setIfInBounds i true) a' w)
    (hi : ops[i]? = some oi := by rfl) (hd : oi.dst = some d := by rfl) (hs : Region.noSelect ops = true := by kernel_rfl) (hf : Region.free md ops listed i = true := by kernel_rfl) (hr : (Region.ready md ops listed).contains i = true := by kernel_rfl)
    (hQ : ∀ c a w, Q (.panic c) (a.put oi.dst undef) w → Q (.panic c) a w := by exact fun _ _ _ h => h) (hw : Region.wanted oi (yielded ops a.tmps) = false := by rfl) (hS : S w := by assumption)
    (ha : a.put (some d) undef = a' := by (first | (simp only [Act.put, List.setIfInBounds_toArray, List.set_cons_zero, List.set_cons_succ]; rfl) | (simp only [Act.put, List.setIfInBounds_toArray, List.set_cons_zero, List.set_cons_succ]) | rfl)) : wpAnyH P md ops Q S (fuel + 1) listed a w := by
  subst ha
  exact takeP i (some d) undef hi hd hs hf hr hQ (.inr ⟨hw, rfl⟩) hS h
theorem az_ (i : Nat) {S : World → Prop} {oi : Oper} {fuel : Nat} {listed : Array Bool} {a a' : Act} {w : World} (h : ∀ K' : Act → World → Prop, Shut (∀ a w, S w → (S w → wpAnyH P md ops Q S fuel (listed.setIfInBounds i true) a w) → K' a w) → if Region.wanted oi (yielded ops a'.tmps) = true then Oper.wp P oi a' w K' Q else K' (a'.put oi.dst undef) w)
    (hr : Region.ready md ops listed = [i] := by kernel_rfl) (hi : ops[i]? = some oi := by rfl) (ha : a = a' := by (first | (simp only [Act.put, sA, s0, s1]; rfl) | (simp only [Act.put, sA, s0, s1]) | rfl)) :
    wpAnyH P md ops Q S (fuel + 1) listed a w := by
  subst ha
  exact bf_ i hr hi h
/-- The beginning. -/
theorem aq_ {id : Nat} {a : Act} {w : World} {S : World → Prop} (hm : P.follows .mixedOrders = true) (hS : S w.drew)
    (h : S w.drew → wpAnyH P .any ops Q S ops.size (Array.replicate ops.size false) a w.drew) : (Code.region id ops true).wp P Q a w :=
  wp_region_held_drew hm hS h
end
end Go.Proofs.YtfolidlmgfhkiaaGreat
namespace Go.Proofs.YtfolidlmgfhkiaaGreat.Pr
open Go.RowKit
structure Val where
 ref:Bool
 n:Int
structure Trk where
 key:Int
 last:Val
 stride:Int
 seen:Int
def Val.cells (v:Val):VL:=[.bool v.ref,i_ v.n]
def Val.value (v:Val):Value:=.agg #[.bool v.ref,i_ v.n]
def Trk.cells (t:Trk):VL:=[i_ t.key,.bool t.last.ref,i_ t.last.n,i_ t.stride,i_ t.seen]
theorem Trk.size (t:Trk):t.cells.length=5:=rfl
def lowb:List Trk->Int->Nat
 | [],_=>0
 | t :: l,k=>if t.key<k then lowb l k+1 else 0
def Sorted (ts:List Trk):Prop:=∀ (i j:Nat) (u v:Trk),i<j->ts[i]?=some u->ts[j]?=some v->u.key<v.key
def hit (ts:List Trk) (k:Int):Bool:=match ts[lowb ts k]? with | some t=>t.key == k | none=>false
theorem lowb_le:∀ (ts:List Trk) (k:Int),lowb ts k<=ts.length
 | [],_=>l_
 | t :: l,k=>by unfold lowb;split <;> simp;exact lowb_le l k
theorem lowb_lt:∀ (ts:List Trk) (k:Int) (j:Nat) (u:Trk),j<lowb ts k->ts[j]?=some u->u.key<k
 | [],_,_,_,h,_=>by simp [lowb] at h
 | t :: l,k,j,u,h,hu=>by
  unfold lowb at h;split at h
  ·rename_i hk
   cases j with
   | zero=>simp at hu;subst hu;exact hk
   | succ j=>exact lowb_lt l k j u o_ (by simpa using hu)
  omega
theorem lowb_ge:∀ (ts:List Trk) (k:Int) (t:Trk),ts[lowb ts k]?=some t->k<=t.key
 | [],_,_,h=>by simp [lowb] at h
 | t :: l,k,u,h=>by
  unfold lowb at h;split at h
  ·exact lowb_ge l k u xt_
  simp at h;subst h;omega
theorem lowb_of {ts:List Trk} {k:Int} {i:Nat} (hi:i<=ts.length) (hlo:∀ (j:Nat) (u:Trk),j<i->ts[j]?=some u->u.key<k) (hhi:∀ t:Trk,ts[i]?=some t->k<=t.key):lowb ts k=i:=by
 rcases Nat.lt_trichotomy (lowb ts k) i with h | h | h
 ·have hl:lowb ts k<ts.length:=by omega
  have h1:=lowb_ge ts k _ (ge_ hl);have h2:=hlo _ _ h (ge_ hl);omega
 ·exact h
 have:=lowb_le ts k;have hl:i<ts.length:=by omega
 have h1:=hhi _ (ge_ hl);have h2:=lowb_lt ts k i _ h (ge_ hl);omega
theorem lowb_end {ts:List Trk} {k:Int} (hlo:∀ (j:Nat) (u:Trk),j<ts.length->ts[j]?=some u->u.key<k):lowb ts k=ts.length :=
 lowb_of (l_) hlo t_
theorem hit_at {ts:List Trk} {k:Int} {t:Trk} (h:ts[lowb ts k]?=some t):hit ts k=(t.key == k):=by unfold hit;rw [h]
theorem hit_none {ts:List Trk} {k:Int} (h:ts.length<=lowb ts k):hit ts k=false:=by unfold hit;rw [List.getElem?_eq_none h]
def fnd (ts:List Trk) (k:Int):Option Trk:=if hit ts k then ts[lowb ts k]? else none
theorem fnd_some {ts:List Trk} {k:Int} (h:hit ts k=true):∃ t,ts[lowb ts k]?=some t/\fnd ts k=some t/\t.key=k:=by
 unfold hit at h;split at h
 ·rename_i t ht
  exact ⟨t,ht,by simp [fnd,hit,ht,h],xt_⟩
 cases h
def Good (ts:List Trk):Prop:=Sorted ts/\∀ (i:Nat) (t:Trk),ts[i]?=some t->0<=t.seen/\t.seen<=1073741824
def lastV (ts:List Trk) (k:Int):Val:=match fnd ts k with | some t=>t.last | none=>⟨false,0⟩
def et_ (ts:List Trk) (k:Int):Val:=match fnd ts k with | some t=>if t.last.ref then t.last else ⟨false,wrap64 (t.last.n+t.stride)⟩ | none=>⟨false,0⟩
def upd (t:Trk) (v:Val):Trk:=⟨t.key,v,if v.ref || t.last.ref then 0 else wrap64 (v.n - t.last.n),if t.seen<1073741824 then t.seen+1 else 1073741824⟩
def cl_ (ts:List Trk) (k:Int) (v:Val):List Trk :=
 if hit ts k then ts.modify (lowb ts k) (upd · v) else ts.take (lowb ts k) ++ ⟨k,v,0,1⟩ :: ts.drop (lowb ts k)
def bv_ (s f:Int):Bool:=decide (-1<=s) && decide (s<=2047) && decide (0<=f) && decide (f<=255)
def keyV (s f:Int):Value:=.tuple #[i_ (if bv_ s f then (s+1)*256+f else 0),i_ (if bv_ s f then 0 else 2)]
end Go.Proofs.YtfolidlmgfhkiaaGreat.Pr
namespace Go.Proofs.YtfolidlmgfhkiaaGreat
open Go.RowKit Go.Proofs.Tryz
namespace CloneTk5
theorem infoE:(prog.info? 122).map (fun i=>(i.zero,i.size,i.bytes))=some (some (.agg #[i_ 0,.bool false,i_ 0,i_ 0,i_ 0]),5,40):=by kernel_rfl
theorem any (A:OA) (n c:Nat) (xs:VL) (w:World) (hA:A=none->n=0) (hsrc:∀ ad,A=some ad->∀ (j:Nat) (u:Value),xs[j]?=some u->w.cell? (ad.add j)=some u)
  (hl:xs.length=n*5) (hn:n<=1000000) (h1:∀ u ∈ xs,u.oneCell'=true) :
  Calls prog 58 #[.slice A n c] w fun e w'=>∃ A' c',e=.returned (.slice A' n c')/\w'.ownsRow w 122 5 (.slice A' n c') n xs/\Below w w w':=by
 obtain ⟨i0,hi,A5,A6,A7⟩:=info_parts infoE;have HL:=q_ hl;clear hl;cases A with
 | none =>
  obtain rfl:=hA rfl;obtain rfl:xs=[]:=List.eq_nil_of_length_eq_zero (by simpa using HL.o);have A2:=fun (w:World)=>Lib.run_eql_slice_nil (P:=prog) w 57 122 none 0 c 0 0 underlying57
  go_enter func58,ntmps58;exact th_
 | some ad =>
  have HS:=q_ (hsrc ad rfl);clear hsrc hA;have A3:∀ (j:Nat) (u:Value),xs[j]?=some u->(w.alloc (.cells #[] 122)).cell? (ad.add j)=some u:=fun j u hu=>by
   exact ur_
  have A4:=q_ A3;clear A3;have A2:=fun (w:World)=>Lib.run_eql_slice_nil (P:=prog) w 57 122 (some ad) n c 0 0 underlying57
  go_enter func58,ntmps58;go_wp2_with (at_builtin;refine wpList_append_own _ rfl _ _ 57 rfl w 122 i0 _ 5 40 underlying57 hi A5 A6 A7 rfl d_ _ _ _ rfl (World.ownsRow_made w #[] 0 (l_) m_ rfl) ad n c xs rfl HL.o A4.o h1 m_ o_ t_ ?_;intro v' w1 A0 A1 _);go_ret;have hz:=A1.size;rw [Nat.zero_add,List.nil_append] at A0;have hb:Below w w w1:=((b_).alloc (l_) _).grown A1 t_ (fun k hk=>by injection hk with hk;subst hk;exact l_);rcases A0.2 with ⟨rfl,h0⟩ | ⟨g,cap,cur,rfl,_⟩
  ·subst h0;exact ⟨none,0,rfl,A0,hb⟩
  exact ⟨_,_,rfl,A0,hb⟩
end CloneTk5
end Go.Proofs.YtfolidlmgfhkiaaGreat
namespace Go.Proofs.YtfolidlmgfhkiaaGreat
open Go.RowKit
inductive CT where
 | num | tru | txt
 | sl (e:List CT)
 | lst (p:VL->Prop) (e:List CT)
 | sat (p:Value->Prop)
inductive VT (w:World) (X:NP) (K:Nat):CT->Value->Prop
 | num (n:Int):VT w X K .num (.int .i64 n)
 | tru (x:Bool):VT w X K .tru (.bool x)
 | txt (x:ByteArray):VT w X K .txt (.string x)
 | nil (e:List CT):VT w X K (.sl e) (.slice none 0 0)
 | sl (e:List CT) (g o n c:Nat) (f:Nat->Nat->Value) (hg:g<w) (hX:¬X g) (hn:n<=K) (hc:n<=c) (hm:c<=9223372036854775807)
   (hf:∀ k j t,k<n->e[j]?=some t->w.cell? ⟨g,o+(k*e.length+j),none⟩=some (f k j))
   (ht:∀ k j t,k<n->e[j]?=some t->VT w X K t (f k j)):VT w X K (.sl e) (.slice (some (f_ g o)) n c)
 | sat (p:Value->Prop) (v:Value) (h:v.oneCell'=true) (hp:p v):VT w X K (.sat p) v
 | lnil (p:VL->Prop) (e:List CT):VT w X K (.lst p e) (.slice none 0 0)
 | lst (p:VL->Prop) (e:List CT) (g o n c:Nat) (f:Nat->Nat->Value) (hg:g<w) (hX:¬X g) (hn:n<=K) (hc:n<=c) (hm:c<=9223372036854775807)
   (hf:∀ k j t,k<n->e[j]?=some t->w.cell? ⟨g,o+(k*e.length+j),none⟩=some (f k j))
   (ht:∀ k j t,k<n->e[j]?=some t->VT w X K t (f k j)) (hp:∀ k,k<n->p ((List.range e.length).map (f k))):VT w X K (.lst p e) (.slice (some (f_ g o)) n c)
structure Kp (X:NP) (w w':World):Prop where
 os:w'.os=w.os
 tape:w'.tape=w.tape
 output:w'.output=w.output
 size:(w:Nat)<=w'
 block:∀ k,k<w.heap.size->¬X k->w'.heap[k]?=w.heap[k]?
section
variable {X Y:NP} {w w' w2:World} {K K':Nat} {t:CT} {v:Value}
theorem Kp.refl (X:NP) (w:World):Kp X w w:=⟨rfl,rfl,rfl,l_,fun _ _ _=>rfl⟩
theorem Kp.trans (h:Kp X w w') (h2:Kp X w' w2):Kp X w w2:=⟨h2.os.trans h.os,h2.tape.trans h.tape,h2.output.trans h.output,Nat.le_trans h.size h2.size,fun k hk hx=>(h2.block k (lt_ hk h.size) hx).trans (h.block k hk hx)⟩
theorem Kp.mono (h:Kp X w w') (hXY:∀ k,k<w.heap.size->X k->Y k):Kp Y w w':=⟨h.os,h.tape,h.output,h.size,fun k hk hx=>h.block k hk (fun hX=>hx (hXY k hk hX))⟩
theorem Kp.of_below (h:Below w.heap.size w w'):Kp X w w':=⟨h.os,h.tape,h.output,h.size,fun k hk _=>h.block k hk⟩
theorem Kp.below (h:Kp X w w') {B:Nat} (hB:B<=w.heap.size) (hX:∀ k,k<B->¬X k):Below B w w':=⟨h.os,h.tape,h.output,h.size,fun k hk=>h.block k (lt_ hk hB) (hX k hk)⟩
theorem Kp.drew (h:Kp X w w'):Kp X w w'.drew:=⟨h.os,h.tape,h.output,h.size,h.block⟩
theorem Kp.drewN (h:Kp X w w') (m:Nat):Kp X w (w'.drewN m):=⟨h.os,h.tape,h.output,h.size,h.block⟩
theorem Kp.alloc (h:Kp X w w') (o:Obj):Kp X w (w'.alloc o):=h.trans ⟨rfl,rfl,rfl,zm_,fun k hk _=>Below.heap_alloc _ _ _ hk⟩
theorem Kp.setCell (h:Kp X w w') {p:Addr} (hp:X p.block\/w.heap.size<=p.block) (u:Value):Kp X w (w'.setCell p u) :=
 ⟨h.os,h.tape,h.output,by simpa [World.setCell] using h.size,fun k hk hx=>(Below.heap_setCell _ _ _ _ (fun e=>by subst e;rcases hp with hp | hp;exact hx hp;omega)).trans (h.block k hk hx)⟩
theorem Kp.grown {row:Option Nat} (h:Kp X w w') (hg:w'.grownBy w2 row) (hr:∀ k,row=some k->X k\/w.heap.size<=k):Kp X w w2 :=
 ⟨hg.os.trans h.os,hg.tape.trans h.tape,hg.output.trans h.output,Nat.le_trans h.size hg.size,fun k hk hx=>(hg.block k (lt_ hk h.size) (fun e=>by rcases hr k e.symm with hq | hq;exact hx hq;omega)).trans (h.block k hk hx)⟩
theorem Kp.ba_ (h:Kp X w w') (h2:Below w'.heap.size w' w2):Kp X w w2:=h.trans (.of_below h2)
theorem Kp.cell (h:Kp X w w') {b o:Nat} (hb:b<w.heap.size) (hx:¬X b):w'.cell? (f_ b o)=w.cell? (f_ b o):=World.cell?_of_block (w:=w) (h.block b hb hx)
theorem Kp.frozen (h:Kp X w w') {b o:Nat} (hb:b<w.heap.size) (hx:¬X b):w'.frozen? (f_ b o)=w.frozen? (f_ b o):=World.frozen?_of_block (w:=w) (h.block b hb hx)
theorem VT.kept (h:VT w X K t v) (hk:Kp X w w') (hXY:∀ k,k<w.heap.size->¬X k->¬Y k) (hK:K<=K'):VT w' Y K' t v:=by
 induction h with
 | num n=>exact .num n
 | tru x=>exact .tru x
 | txt x=>exact .txt x
 | nil e=>exact .nil e
 | sl e g o n c f hg hX hn hc hm hf ht ih =>
  exact .sl e g o n c f (lt_ hg hk.size) (hXY g hg hX) (Nat.le_trans hn hK) hc hm (fun k j t A0 hj=>(hk.cell hg hX).trans (hf k j t A0 hj)) ih
 | sat p v h hp=>exact .sat p v h hp
 | lnil p e=>exact .lnil p e
 | lst p e g o n c f hg hX hn hc hm hf ht hp ih =>
  exact .lst p e g o n c f (lt_ hg hk.size) (hXY g hg hX) (Nat.le_trans hn hK) hc hm (fun k j t A0 hj=>(hk.cell hg hX).trans (hf k j t A0 hj)) ih hp
theorem VT.up (h:VT w X K t v) (hk:Kp X w w') (hK:K<=K'):VT w' X K' t v:=h.kept hk (fun _ _ h=>h) hK
theorem VT.less (h:VT w X K t v) (hXY:∀ k,k<w.heap.size->Y k->X k):VT w Y K t v:=h.kept (Kp.refl _ _) (fun k hk hx hy=>hx (hXY k hk hy)) (l_)
theorem VT.int (h:VT w X K .num v):∃ n,v=i_ n:=by cases h;exact ⟨_,rfl⟩
theorem VT.bool (h:VT w X K .tru v):∃ x,v=.bool x:=by cases h;exact ⟨_,rfl⟩
theorem VT.str (h:VT w X K .txt v):∃ x,v=.string x:=by cases h;exact ⟨_,rfl⟩
structure SlT (w:World) (X:NP) (K:Nat) (e:List CT) (A:OA) (n c:Nat):Prop where
 le:n<=K
 cap:n<=c
 max:c<=9223372036854775807
 nul:A=none->n=0/\c=0
 at_:∀ ad,A=some ad->∃ g o,ad=(f_ g o)/\g<w/\¬X g/\∃ f:Nat->Nat->Value,(∀ k j t,k<n->e[j]?=some t->w.cell? ⟨g,o+(k*e.length+j),none⟩=some (f k j))/\(∀ k j t,k<n->e[j]?=some t->VT w X K t (f k j))
theorem VT.slice {e:List CT} (h:VT w X K (.sl e) v):∃ A n c,v=.slice A n c/\SlT w X K e A n c:=by
 cases h with
 | nil=>exact ⟨none,0,0,rfl,Nat.zero_le _,l_,o_,fun _=>⟨rfl,rfl⟩,fun _ h=>by cases h⟩
 | sl _ g o n c f hg hX hn hc hm hf ht=>exact ⟨_,n,c,rfl,hn,hc,hm,x_,(fun ad h=>by injection h with h;exact ⟨g,o,h.symm,hg,hX,f,hf,ht⟩)⟩
theorem SlT.vt {e:List CT} {A:OA} {n c:Nat} (h:SlT w X K e A n c):VT w X K (.sl e) (.slice A n c):=by
 cases A with
 | none=>obtain ⟨rfl,rfl⟩:=h.nul rfl;exact .nil e
 | some ad =>
  obtain ⟨g,o,rfl,hg,hX,f,hf,ht⟩:=h.at_ _ rfl;exact .sl e g o n c f hg hX h.le h.cap h.max hf ht
theorem SlT.up {e:List CT} {A:OA} {n c:Nat} (h:SlT w X K e A n c) (hk:Kp X w w') (hK:K<=K'):SlT w' X K' e A n c:=by
 obtain ⟨A',n',c',e',h'⟩:=(h.vt.up hk hK).slice;exact uh_
theorem SlT.kept {e:List CT} {A:OA} {n c:Nat} (h:SlT w X K e A n c) (hk:Kp X w w') (hXY:∀ k,k<w.heap.size->¬X k->¬Y k) (hK:K<=K'):SlT w' Y K' e A n c:=by
 obtain ⟨A',n',c',e',h'⟩:=(h.vt.kept hk hXY hK).slice;exact uh_
theorem SlT.el {e:List CT} {A:OA} {n c k:Nat} (h:SlT w X K e A n c) (hk:k<n):∃ g o,A=some (f_ g o)/\g<w/\¬X g/\∃ f:Nat->Value,(∀ j t,e[j]?=some t->w.cell? ⟨g,o+(k*e.length+j),none⟩=some (f j))/\(∀ j t,e[j]?=some t->VT w X K t (f j)):=by
 cases A with
 | none=>have:=(h.nul rfl).1;omega
 | some ad =>
  obtain ⟨g,o,rfl,hg,hX,f,hf,ht⟩:=h.at_ _ rfl;exact ⟨g,o,rfl,hg,hX,f k,fun j t hj=>hf k j t hk hj,fun j t hj=>ht k j t hk hj⟩
def VTs (w:World) (X:NP) (K:Nat) (ts:List CT) (vs:VL):Prop:=vs.length=ts.length/\∀ (j:Nat) (t:CT),ts[j]?=some t->∃ u,vs[j]?=some u/\VT w X K t u
theorem VTs.kept {ts:List CT} {vs:VL} (h:VTs w X K ts vs) (hk:Kp X w w') (hXY:∀ k,k<w.heap.size->¬X k->¬Y k) (hK:K<=K'):VTs w' Y K' ts vs:=⟨h.1,fun j t hj=>by obtain ⟨u,hu,hv⟩:=h.2 j t hj;exact ⟨u,hu,hv.kept hk hXY hK⟩⟩
theorem VTs.up {ts:List CT} {vs:VL} (h:VTs w X K ts vs) (hk:Kp X w w') (hK:K<=K'):VTs w' X K' ts vs:=h.kept hk (fun _ _ h=>h) hK
theorem VTs.less {ts:List CT} {vs:VL} (h:VTs w X K ts vs) (hXY:∀ k,k<w.heap.size->Y k->X k):VTs w Y K ts vs:=⟨h.1,fun j t hj=>by obtain ⟨u,hu,hv⟩:=h.2 j t hj;exact ⟨u,hu,hv.less hXY⟩⟩
theorem VTs.nil:VTs w X K [] []:=⟨rfl,fun j t h=>by simp at h⟩
theorem VTs.cons {ts:List CT} {vs:VL} (h:VT w X K t v) (hs:VTs w X K ts vs):VTs w X K (t :: ts) (v :: vs):=⟨by simp [hs.1],fun j u hj=>by
 match j,hj with
 | 0,hj=>simp at hj;subst hj;exact ⟨v,rfl,h⟩
 | j+1,hj=>exact hs.2 j u (by simpa using hj)⟩
theorem VTs.head {ts:List CT} {vs:VL} (h:VTs w X K (t :: ts) vs):∃ v us,vs=v :: us/\VT w X K t v/\VTs w X K ts us:=by
 cases vs with
 | nil=>have:=h.1;simp at this
 | cons v us =>
  obtain ⟨u,hu,hv⟩:=h.2 0 t rfl;simp at hu;subst hu;exact ⟨v,us,rfl,hv,by have:=h.1;simpa using this,fun j s hj=>h.2 (j+1) s hj⟩
theorem VTs.end {vs:VL} (h:VTs w X K [] vs):vs=[]:=List.eq_nil_of_length_eq_zero h.1
theorem VT.one (h:VT w X K t v):v.oneCell'=true:=by cases h <;> first | assumption | rfl
theorem VTs.one {ts:List CT} {vs:VL} (h:VTs w X K ts vs):∀ u ∈ vs,u.oneCell'=true:=fun u hu=>by
 obtain ⟨j,hj⟩:=List.getElem?_of_mem hu;have hl:=(e_ hj).1;obtain ⟨u',A0,hv⟩:=h.2 j _ (ge_ (by rw [<-h.1];exact hl));rw [hj] at A0;injection A0 with A0;subst A0;exact hv.one
theorem VTs.set {ts:List CT} {vs:VL} (h:VTs w X K ts vs) {j:Nat} (hj:ts[j]?=some t) (hv:VT w X K t v):VTs w X K ts (vs.set j v):=⟨by simp [h.1],fun i s hi=>by
 by_cases hij:j=i
 ·subst hij
  rw [hj] at hi;injection hi with hi;subst hi
  obtain ⟨u,hu,_⟩:=h.2 j t hj
  exact ⟨v,by rw [gs_,if_pos rfl,if_pos (e_ hu).1],hv⟩
 obtain ⟨u,hu,A0⟩:=h.2 i s hi
 exact ⟨u,by rw [gs_,if_neg hij];exact hu,A0⟩⟩
def MT (w:World) (X:NP) (K:Nat) (g o:Nat) (ts:List CT):Prop:=∃ vs,VTs w X K ts vs/\∀ (j:Nat) (u:Value),vs[j]?=some u->w.cell? ⟨g,o+j,none⟩=some u
theorem SlT.mt {e:List CT} {A:OA} {n c k:Nat} (h:SlT w X K e A n c) (hk:k<n):∃ g o,A=some (f_ g o)/\g<w/\¬X g/\MT w X K g (o+k*e.length) e:=by
 obtain ⟨g,o,hA,hg,hX,f,hf,ht⟩:=h.el hk;refine ⟨g,o,hA,hg,hX,(List.range e.length).map f,⟨zm_,fun j t hj=>⟨f j,?_,ht j t hj⟩⟩,fun j u hu=>?_⟩
 ·have:j<e.length:=(e_ hj).1;simp [this]
 have hj:j<e.length:=by have:=(e_ hu).1;simpa using this
 simp [hj] at hu;subst hu;rw [Nat.add_assoc];exact hf j _ (ge_ hj)
theorem MT.set {g o j:Nat} {ts:List CT} (h:MT w X K g o ts) (hx:X g) (hj:ts[j]?=some t) (hv:VT w X K t v):MT (w.setCell ⟨g,o+j,none⟩ v) X K g o ts:=by
 obtain ⟨vs,A1,hm⟩:=h;have hk:Kp X w (w.setCell ⟨g,o+j,none⟩ v):=(Kp.refl X w).setCell (.inl hx) v;refine ⟨vs.set j v,(A1.set hj hv).up hk (l_),fun i u hu=>?_⟩;obtain ⟨u0,A0,_⟩:=A1.2 j t hj;rw [gs_] at hu;by_cases hij:j=i
 ·subst hij;rw [if_pos rfl,if_pos (e_ A0).1] at hu;injection hu with hu;subst hu;exact World.cell?_setCell_same _ _ _ (hm j u0 A0)
 rw [if_neg hij] at hu;rw [bg_ _ _ _ _ zl_];exact hm i u hu
theorem SlT.cs_ {base:Nat} {et:TypeId} {e:List CT} {A:OA} {n c:Nat} {xs:VL} (ho:w.ownsRow base et e.length (.slice A n c) n xs) (hb:∀ k,X k->k<base) (hn:n<=K)
  (hx:∀ k j t,k<n->e[j]?=some t->∃ u,xs[k*e.length+j]?=some u/\VT w X K t u):SlT w X K e A n c:=by
 refine ⟨hn,(dp_ ho).1,own_cap ho,fun hA=>?_,fun ad hA=>?_⟩
 ·have h1:=(own_src ho).1 hA;exact ⟨h1,(dp_ ho).2 hA⟩
 subst hA;have A0:=(own_src ho).2 ad rfl;rcases ho.2 with ⟨h',_⟩ | ⟨g,cap,cur,h',hbg,hg,_⟩
 ·cases h'
 injection h' with h1 _ _;injection h1 with h1;subst h1;refine ⟨g,0,rfl,?_,fun A1=>by have:=hb g A1;omega,fun k j=>xs.getD (k*e.length+j) undef,fun k j t hk hj=>?_,fun k j t hk hj=>?_⟩
 ·rcases Nat.lt_or_ge g w with h2 | h2
  ·exact h2
  rw [Array.getElem?_eq_none h2] at hg;cases hg
 ·obtain ⟨u,hu,_⟩:=hx k j t hk hj;have:=A0 _ u hu;rw [Addr.add_lit] at this;show _=some (xs.getD (k*e.length+j) undef)
  rw [this,List.getD_eq_getElem?_getD,hu];rfl
 obtain ⟨u,hu,hv⟩:=hx k j t hk hj;show VT w X K t (xs.getD (k*e.length+j) undef)
 rw [List.getD_eq_getElem?_getD,hu];exact hv
end
end Go.Proofs.YtfolidlmgfhkiaaGreat
namespace Go.Proofs.YtfolidlmgfhkiaaGreat
open Go.RowKit Go.Proofs.Tryz
structure Hp (w:World) (B:Nat) (A:OA) (n:Nat) (l:List Ob):Prop where
 sl:Sl w B 2 Ob.cells A n l
 obs:∀ o ∈ l,Sl w B 2 Val.cells o.A o.n o.s/\o.n<=8796093021952
section
variable {w w':World} {B B' n:Nat} {A:OA} {l:List Ob}
theorem Hp.below (h:Hp w B A n l) (hb:Below B w w'):Hp w' B A n l:=⟨h.sl.below hb,fun o ho=>⟨(h.obs o ho).1.below hb,(h.obs o ho).2⟩⟩
theorem Hp.mono (h:Hp w B A n l) (hB:B<=B'):Hp w B' A n l:=⟨h.sl.mono hB,fun o ho=>⟨(h.obs o ho).1.mono hB,(h.obs o ho).2⟩⟩
theorem Hp.up (h:Hp w w A n l) (hb:Below w w w'):Hp w' w' A n l:=(h.below hb).mono hb.size
end
theorem index_any (A:OA) (n c:Nat) (l:List Ob) (id:Int) (w:World) (hs:Sl w w 2 Ob.cells A n l) (hn:n<=9000000000000) :
  Calls prog 149 #[.agg #[.slice A n c],i_ id] w fun e w'=>e=.returned (i_ (idxI id (l.map Ob.po)))/\Below w w w':=by
 have HL:=q_ hs.len;go_enter func149,ntmps149;go_wp2;go_step3;go_wp2;go_step3;go_wp2;go_loopw [5,11] (fun f i wr=>∃ k:Nat,k<=n/\f=i_ (-1)/\i=i_ k/\Hid (∀ (i:Nat) (x:Ob),i<k->l[i]?=some x->x.id≠id)/\Below w w wr) (fun _ i _=>n - (intOf i).toNat)
 case atStart=>exact ⟨0,Nat.zero_le _,rfl,rfl,q_ (fun i x h=>absurd h o_),(bel (b_))⟩
 obtain ⟨k,hk,rfl,rfl,A1,hb⟩:=hrel;have A3:=hb.size;by_cases hlt:k<n
 ·obtain ⟨ab,ao,rfl,A2,A0⟩:=hs.at_ o_;obtain ⟨x,hx⟩:∃ x,l[k]?=some x:=⟨_,ge_ w2_⟩;have c0:wr.cell? ⟨ab,ao+k*2,none⟩=some (i_ x.id):=(belc hb A2).trans (A0 k x hx 0 _ rfl);have c1:wr.cell? ⟨ab,ao+k*2+1,none⟩=some (.slice x.A x.n x.c):=(belc hb A2).trans (A0 k x hx 1 _ rfl);have HX:=q_ hx;clear A0 hx;by_cases he:x.id=id
  ·have HE:=q_ (show idxI id (l.map Ob.po)=k from by
    rw [idxI,idx_some (po_at HX.o) he (fun j y hj hy=>by obtain ⟨z,hz,rfl⟩:=po_at' hy;exact A1.o j z hj hz)])
   go_wp2;rw [Exit.noGoto_ret];go_ret;exact ⟨by rw [HE.o];rfl,(bel hb)⟩
  go_wp2;go_roundw
  case rel =>
   refine ⟨k+1,o_,rfl,zc_,q_ (fun i y hi hy=>?_),(bel hb)⟩;by_cases hik:i=k
   ·subst hik;rw [HX.o] at hy;injection hy with hy;subst hy;exact he
   exact A1.o i y o_ hy
  case measure=>exact me_
 obtain rfl:k=n:=by omega
 have HE:=q_ (show idxI id (l.map Ob.po)=-1 from by
  rw [idxI,idx_none (fun j y hy=>by
   obtain ⟨z,hz,rfl⟩:=po_at' hy
   exact A1.o j z (by have:=(e_ hz).1;rw [HL.o] at this;exact this) hz)])
 go_wp2;rw [Exit.noGoto_ret];go_ret;exact ⟨by rw [HE.o];rfl,hb⟩
theorem refat_any (A:OA) (n c:Nat) (l:List Ob) (id:Int) (w:World) (hs:Sl w w 2 Ob.cells A n l) (hn:n<=9000000000000) :
  Calls prog 57 #[.agg #[.slice A n c],i_ id] w fun e w'=>e=.returned (i_ (idxI id (l.map Ob.po)))/\Below w w w':=by
 have HL:=q_ hs.len;go_enter func57,ntmps57;go_wp2_with fail;go_loopw [10] (fun i wr=>∃ k:Nat,k<=n/\i=i_ k/\Hid (∀ (i:Nat) (x:Ob),i<k->l[i]?=some x->x.id≠id)/\Below w w wr) (fun i _=>n - (intOf i).toNat)
 case atStart=>exact ⟨0,Nat.zero_le _,rfl,q_ (fun i x h=>absurd h o_),(bel (b_))⟩
 obtain ⟨k,hk,rfl,A1,hb⟩:=hrel;have A3:=hb.size;by_cases hlt:k<n
 ·obtain ⟨ab,ao,rfl,A2,A0⟩:=hs.at_ o_;obtain ⟨x,hx⟩:∃ x,l[k]?=some x:=⟨_,ge_ w2_⟩;have c0:wr.cell? ⟨ab,ao+k*2,none⟩=some (i_ x.id):=(belc hb A2).trans (A0 k x hx 0 _ rfl);have c1:wr.cell? ⟨ab,ao+k*2+1,none⟩=some (.slice x.A x.n x.c):=(belc hb A2).trans (A0 k x hx 1 _ rfl);have HX:=q_ hx;clear A0 hx;by_cases he:x.id=id
  ·have HE:=q_ (show idxI id (l.map Ob.po)=k from by
    rw [idxI,idx_some (po_at HX.o) he (fun j y hj hy=>by obtain ⟨z,hz,rfl⟩:=po_at' hy;exact A1.o j z hj hz)])
   go_wp2;go_ret;exact ⟨by rw [HE.o];rfl,(bel hb)⟩
  go_wp2;go_roundw
  case rel =>
   refine ⟨k+1,o_,zc_,q_ (fun i y hi hy=>?_),(bel hb)⟩;by_cases hik:i=k
   ·subst hik;rw [HX.o] at hy;injection hy with hy;subst hy;exact he
   exact A1.o i y o_ hy
  case measure=>exact me_
 obtain rfl:k=n:=by omega
 have HE:=q_ (show idxI id (l.map Ob.po)=-1 from by
  rw [idxI,idx_none (fun j y hy=>by
   obtain ⟨z,hz,rfl⟩:=po_at' hy
   exact A1.o j z (by have:=(e_ hz).1;rw [HL.o] at this;exact this) hz)])
 go_wp2;go_ret;exact ⟨by rw [HE.o];rfl,hb⟩
def byteCells (x:Int):VL:=[.int .u8 x]
def Dice (w:World) (d:Nat):Prop:=d<w/\∃ S sn sc,∃ a:Nat,w.cell? (a_ d)=some (.slice S sn sc)/\w.cell? (f_ d 1)=some (i_ a)/\w.frozen? (f_ d 1)=false/\a<=sn/\sn<=200 ∧
 (∀ i,i<sn->∃ sb so x,S=some (f_ sb so)/\sb<d/\0<=x/\x<=255/\w.cell? ⟨sb,so+i,none⟩=some (.int .u8 x))
theorem Dice.below {w w':World} {d:Nat} (h:Dice w d) (hb:Below w w w'):Dice w' d:=by
 obtain ⟨hd,S,sn,sc,a,h0,h1,h2,h3,h4,h5⟩:=h;refine ⟨by have:=hb.size;omega,S,sn,sc,a,(belc hb hd).trans h0,(belc hb hd).trans h1,(belf hb hd).trans h2,h3,h4,fun i hi=>?_⟩;obtain ⟨sb,so,x,e,A0,h6,h7,h8⟩:=h5 i hi;exact ⟨sb,so,x,e,A0,h6,h7,(belc hb o_).trans h8⟩
theorem Dice.set {w:World} {d:Nat} (h:Dice w d) {p:Addr} (hp:d<p.block) (u:Value):Dice (w.setCell p u) d:=by
 obtain ⟨hd,S,sn,sc,a,h0,h1,h2,h3,h4,h5⟩:=h;have ne:∀ b o,b<=d->(w.setCell p u).cell? (f_ b o)=w.cell? (f_ b o):=fun b o hb=>World.cell?_setCell_other w p _ _ (fun e=>by rw [e] at hp;have:d<b:=hp;omega)
 refine ⟨by simpa using hd,S,sn,sc,a,(ne _ _ (l_)).trans h0,(ne _ _ (l_)).trans h1,by rw [World.frozen?_setCell];exact h2,h3,h4,fun i hi=>?_⟩;obtain ⟨sb,so,x,e,A0,h6,h7,h8⟩:=h5 i hi;exact ⟨sb,so,x,e,A0,h6,h7,(ne _ _ o_).trans h8⟩
theorem Dice.lt {w:World} {d:Nat} (h:Dice w d):d<w:=h.1
structure cf_ (w:World) (d:Nat) (w':World):Prop where
 dice:Dice w' d
 grown:w.grownBy w' (some d)
theorem cf_.cell {w w':World} {d:Nat} (h:cf_ w d w') {b o:Nat} (hb:b<w) (hne:b≠d):w'.cell? (f_ b o)=w.cell? (f_ b o):=(bx_ h.grown).1 b o hb (fun e=>hne (by injection e))
theorem cf_.frozen {w w':World} {d:Nat} (h:cf_ w d w') {b o:Nat} (hb:b<w) (hne:b≠d):w'.frozen? (f_ b o)=w.frozen? (f_ b o):=(bx_ h.grown).2 b o hb (fun e=>hne (by injection e))
theorem cf_.size {w w':World} {d:Nat} (h:cf_ w d w'):(w:Nat)<=w':=h.grown.size
theorem cf_.below {w w':World} {d B:Nat} (h:cf_ w d w') (h1:B<=d) (h2:B<=w):Below B w w':=(Below.refl B w).grown h.grown h2 (fun k hk=>by injection hk with hk;omega)
theorem cf_.trans {w w' w'':World} {d:Nat} (h:cf_ w d w') (h':cf_ w' d w''):cf_ w d w'':=⟨h'.dice,h.grown.trans h'.grown⟩
theorem cf_.of_below {w w':World} {d:Nat} (h:Dice w d) (hb:Below w w w'):cf_ w d w':=⟨h.below hb,cg_ hb _⟩
theorem thrown_at {w:World} {d sn sc a:Nat} {S:OA} (hd:d<w) (h0:w.cell? (a_ d)=some (.slice S sn sc)) (h1:w.cell? (f_ d 1)=some (i_ a)) (h2:w.frozen? (f_ d 1)=false) (h3:a<sn) (h4:sn<=200)
  (h5:∀ i,i<sn->∃ sb so x,S=some (f_ sb so)/\sb<d/\0<=x/\x<=255/\w.cell? ⟨sb,so+i,none⟩=some (.int .u8 x)) (i j:Nat) :
  cf_ w d (((w.drewN i).setCell (f_ d 1) (i_ (a+1))).drewN j):=by
 have hc:∀ q,(((w.drewN i).setCell (f_ d 1) (i_ (a+1))).drewN j).cell? q=(w.setCell (f_ d 1) (i_ (a+1))).cell? q:=fun q=>rfl
 have hz:(((w.drewN i).setCell (f_ d 1) (i_ (a+1))).drewN j).heap.size=w:=by show (w.setCell _ _).heap.size=_;simp
 refine ⟨⟨by rw [hz];exact hd,S,sn,sc,a+1,?_,?_,?_,h3,h4,fun k hk=>?_⟩,?_⟩
 ·rw [hc,bg_ _ _ _ _ zl_];exact h0
 ·rw [hc,World.cell?_setCell_same _ _ _ h1];rfl
 ·show (w.setCell _ _).frozen? _=false;rw [World.frozen?_setCell];exact h2
 ·obtain ⟨sb,so,x,e,h6,h7,h8,h9⟩:=h5 k hk;refine ⟨sb,so,x,e,h6,h7,h8,?_⟩;rw [hc,bg_ _ _ _ _ zl_];exact h9
 exact ⟨rfl,rfl,rfl,by rw [hz];exact l_,fun k hk A0=>Below.heap_setCell w (f_ d 1) _ k (fun e=>A0 x3_)⟩
structure Lv {α:Type} (w:World) (d sz:Nat) (cells:α->VL) (A:OA) (n:Nat) (l:List α):Prop where
 sl:Sl w w sz cells A n l
 hi:0<n->∀ ad,A=some ad->ad.block≠d
theorem Lv.below {α:Type} {w w':World} {d sz n:Nat} {cells:α->VL} {A:OA} {l:List α} (h:Lv w d sz cells A n l) (hb:Below w w w'):Lv w' d sz cells A n l:=⟨h.sl.up hb,h.hi⟩
theorem bo_ (d n:Nat) (w:World) (hD:Dice w d) (h1:1<=n) (hn:n<=1000000) :
  Calls prog 26 #[.pointer (some (a_ d)),i_ n] w fun e w'=>∃ r:Nat,r<n/\e=.returned (i_ r)/\cf_ w d w'/\(w':Nat)=w:=by
 have HD:=q_ hD;obtain ⟨hd,S,sn,sc,a,c0,c1,f1,ha,A0,hs⟩:=hD;by_cases hlt:a<sn
 ·obtain ⟨sb,so,x,rfl,A1,A2,A3,hx⟩:=hs a hlt;have hne:¬sb=d:=by omega
  have HS:=q_ hs;clear hs;go_enter func26,ntmps26;go_wp2;go_quiet (fail);go_wp2;go_quiet (fail);go_wp2;go_ret;obtain ⟨r,hr⟩:∃ r:Nat,x % n=r:=⟨(x % n).toNat,by have:=Int.emod_nonneg x (show (n:Int)≠0 by omega);omega⟩;refine ⟨r,by have:=Int.emod_lt_of_pos x (show (0:Int)<n by omega);omega,by rw [hr];rfl,thrown_at hd c0 c1 f1 hlt A0 HS.o _ _,?_⟩;show (w.setCell _ _).heap.size=_
  simp
 go_enter func26,ntmps26;go_wp2;go_quiet (fail);go_wp2;go_ret;exact ⟨0,h1,rfl,.of_below HD.o (bel (b_)),rfl⟩
theorem new_dice (A:OA) (n c:Nat) (l:List Int) (w:World) (hs:Sl w w 1 byteCells A n l) (hl:∀ (i:Nat) (x:Int),l[i]?=some x->0<=x/\x<=255) (hnc:n<=c) (hn:n<=9223372036854775807) (hc:c<=9223372036854775807) :
  Calls prog 10 #[.slice A n c] w fun e w'=>∃ d,e=.returned (pt d)/\Dice w' d/\w<=d/\Below w w w':=by
 have HL:=q_ hl;have HS:=q_ hs;clear hl hs;have A0:∀ (m:Nat) (o:Obj),m<=n->∀ i,i<m->∃ sb so x,A=some (f_ sb so)/\sb<w/\0<=x/\x<=255/\(w.alloc o).cell? ⟨sb,so+i,none⟩=some (.int .u8 x):=fun m o hm i hi=>by
  exact ud_
 have A1:=q_ A0;clear A0;by_cases h200:200<n
 ·go_enter func10,ntmps10;go_wp2_with go_in;exact tz_
 go_enter func10,ntmps10;go_wp2_with go_in;exact t3_
namespace CloneObj
theorem infoE:(prog.info? 90).map (fun i=>(i.zero,i.size,i.bytes))=some (some (.agg #[i_ 0,.slice none 0 0]),2,32):=by kernel_rfl
theorem any (A:OA) (n c:Nat) (xs:VL) (w:World) (hA:A=none->n=0) (hsrc:∀ ad,A=some ad->∀ (j:Nat) (u:Value),xs[j]?=some u->w.cell? (ad.add j)=some u)
  (hl:xs.length=n*2) (hn:n<=4398046510976) (h1:∀ u ∈ xs,u.oneCell'=true) :
  Calls prog 150 #[.slice A n c] w fun e w'=>∃ A' c',e=.returned (.slice A' n c')/\w'.ownsRow w 90 2 (.slice A' n c') n xs/\Below w w w':=by
 obtain ⟨i0,hi,A5,A6,A7⟩:=info_parts infoE;have HL:=q_ hl;clear hl;cases A with
 | none =>
  obtain rfl:=hA rfl;obtain rfl:xs=[]:=List.eq_nil_of_length_eq_zero (by simpa using HL.o);have A2:=fun (w:World)=>Lib.run_eql_slice_nil (P:=prog) w 33 90 none 0 c 0 0 underlying33
  go_enter func150,ntmps150;exact th_
 | some ad =>
  have HS:=q_ (hsrc ad rfl);clear hsrc hA;have A3:∀ (j:Nat) (u:Value),xs[j]?=some u->(w.alloc (.cells #[] 90)).cell? (ad.add j)=some u:=fun j u hu=>by
   exact ur_
  have A4:=q_ A3;clear A3;have A2:=fun (w:World)=>Lib.run_eql_slice_nil (P:=prog) w 33 90 (some ad) n c 0 0 underlying33
  go_enter func150,ntmps150;go_wp2_with (at_builtin;refine wpList_append_own _ rfl _ _ 33 rfl w 90 i0 _ 2 32 underlying33 hi A5 A6 A7 rfl d_ _ _ _ rfl (World.ownsRow_made w #[] 0 (l_) m_ rfl) ad n c xs rfl HL.o A4.o h1 m_ o_ t_ ?_;intro v' w1 A0 A1 _);go_ret;have hz:=A1.size;rw [Nat.zero_add,List.nil_append] at A0;have hb:Below w w w1:=((b_).alloc (l_) _).grown A1 t_ (fun k hk=>by injection hk with hk;subst hk;exact l_);rcases A0.2 with ⟨rfl,h0⟩ | ⟨g,cap,cur,rfl,_⟩
  ·subst h0;exact ⟨none,0,rfl,A0,hb⟩
  exact ⟨_,_,rfl,A0,hb⟩
end CloneObj
namespace CloneVal
theorem infoE:(prog.info? 38).map (fun i=>(i.zero,i.size,i.bytes))=some (some (.agg #[.bool false,i_ 0]),2,16):=by kernel_rfl
theorem any (A:OA) (n c:Nat) (xs:VL) (w:World) (hA:A=none->n=0) (hsrc:∀ ad,A=some ad->∀ (j:Nat) (u:Value),xs[j]?=some u->w.cell? (ad.add j)=some u)
  (hl:xs.length=n*2) (hn:n<=8796093021952) (h1:∀ u ∈ xs,u.oneCell'=true) :
  Calls prog 151 #[.slice A n c] w fun e w'=>∃ A' c',e=.returned (.slice A' n c')/\w'.ownsRow w 38 2 (.slice A' n c') n xs/\Below w w w':=by
 obtain ⟨i0,hi,A5,A6,A7⟩:=info_parts infoE;have HL:=q_ hl;clear hl;cases A with
 | none =>
  obtain rfl:=hA rfl;obtain rfl:xs=[]:=List.eq_nil_of_length_eq_zero (by simpa using HL.o);have A2:=fun (w:World)=>Lib.run_eql_slice_nil (P:=prog) w 88 38 none 0 c 0 0 underlying88
  go_enter func151,ntmps151;exact th_
 | some ad =>
  have HS:=q_ (hsrc ad rfl);clear hsrc hA;have A3:∀ (j:Nat) (u:Value),xs[j]?=some u->(w.alloc (.cells #[] 38)).cell? (ad.add j)=some u:=fun j u hu=>by
   exact ur_
  have A4:=q_ A3;clear A3;have A2:=fun (w:World)=>Lib.run_eql_slice_nil (P:=prog) w 88 38 (some ad) n c 0 0 underlying88
  go_enter func151,ntmps151;go_wp2_with (at_builtin;refine wpList_append_own _ rfl _ _ 88 rfl w 38 i0 _ 2 16 underlying88 hi A5 A6 A7 rfl d_ _ _ _ rfl (World.ownsRow_made w #[] 0 (l_) m_ rfl) ad n c xs rfl HL.o A4.o h1 m_ o_ t_ ?_;intro v' w1 A0 A1 _);go_ret;have hz:=A1.size;rw [Nat.zero_add,List.nil_append] at A0;have hb:Below w w w1:=((b_).alloc (l_) _).grown A1 t_ (fun k hk=>by injection hk with hk;subst hk;exact l_);rcases A0.2 with ⟨rfl,h0⟩ | ⟨g,cap,cur,rfl,_⟩
  ·subst h0;exact ⟨none,0,rfl,A0,hb⟩
  exact ⟨_,_,rfl,A0,hb⟩
end CloneVal
end Go.Proofs.YtfolidlmgfhkiaaGreat
namespace Go.Proofs.YtfolidlmgfhkiaaGreat
open Go.ChangeShapes Go.WideShapes Go.ChangeAt Go.RowKit Go.Deep
theorem Tryz.own:ownKnob Tryz.prog.godebug=none:=by kernel_rfl
theorem Tryz.laidOut:laidOutB Tryz.prog=true:=by kernel_rfl
section
variable {H:Type} {enc:TypeId × Value->H} {P:Program} {W W':World}
theorem trodAll_below (hl:laidOutB P=true) (hb:Below W W W'):∀ (ts:List TypeId) (vs:VL) (ds:List (DataW H)) (ps:List MemPlace),
  (∀ t ∈ ts,P.readableRec t=true/\t<P.types.size)->DataW.TrodAll enc P W 0 (fun _=>true) true ts vs ds ps->(∀ x ∈ ps,x.block<W) →
  DataW.TrodAll enc P W' 0 (fun b=>decide (b<W)) true ts vs ds ps
 | [],[],[],_,_,h,_=>h
 | t :: ts,v :: vs,d :: ds,ps,hr,h,hlt=>by
  obtain ⟨p,q,h1,h2,rfl⟩:=h;have A0:=hr t t_;exact ⟨p,q,Below.trod hl A0.1 A0.2 h1 hb (fun x hx=>hlt x (List.mem_append_left _ hx)),
   trodAll_below hl hb ts vs ds q (fun t ht=>hr t (by simp [ht])) h2 (fun x hx=>hlt x (List.mem_append_right _ hx)),rfl⟩
 | [],_ :: _,_,_,_,h,_=>h.elim
 | [],[],_ :: _,_,_,h,_=>h.elim
 | _ :: _,[],_,_,_,h,_=>h.elim
 | _ :: _,_ :: _,[],_,_,h,_=>h.elim
theorem law_post {fn:Func} {s:ChangeSpec} {args:Array Value} {ds:List (DataW H)} {before:List MemPlace} {tb:TypeId}
  (hl:laidOutB P=true) (hread:∀ t ∈ fn.params.toList,P.readableRec t=true/\t<P.types.size)
  (hW:DataW.Whole enc P fn.params.toList s.vars false W args.toList ds [] before) (hvars:s.vars=[])
  (hres:fn.resultTypes=#[tb]) (hub:P.underlying tb=some .bool)
  (hfn:s.fn H (ds ++ [])={ results:=[.lit (.bool true)],args:=ds }) (hb:Below W W W') :
  s.post enc P fn false true false false W args (.bool true) W':=by
 have A0:=hW;obtain ⟨p,q,hA,hV,rfl,_,_⟩:=hW;have A1:=A0.lt;rw [hvars] at hV;obtain ⟨_,rfl⟩:=trodVars_none hV;refine ⟨ds,[],_,[],p,[],A0,?_,?_,?_,hb.frame _,fun h=>by cases h⟩
 ·rw [hfn,hres];exact trodAll_mk1 (shut_bool hub true)
 ·rw [hfn];exact trodAll_below hl hb _ _ _ _ hread hA (fun x hx=>A1 x (List.mem_append_left _ hx))
 rw [hfn,hvars];rfl
theorem open_sl {α:Type} {cells:α->VL} {sz:Nat} {Ok:α->Prop} {t e:TypeId} {v:Value} {d:DataW H} {p:List MemPlace} {b0:Nat} (ht:P.underlying t=some (.slice e)) (hC:P.cellsOf e=sz) (hs:0<sz)
  (hval:Value.okWide P W .any b0 t v) (h:DataW.Trod enc P W 0 (fun _=>true) true t v d p)
  (hel:∀ n cs y,cs.length=sz->DataW.trod enc P W 0 (fun _=>true) true n e cs=some y->∃ x:α,cs=cells x/\Ok x) :
  ∃ A n c l,v=.slice A n c/\n<=c/\c<=9223372036854775807/\Sl W W sz cells A n l/\∀ x ∈ l,Ok x:=by
 obtain ⟨A,n,c,rfl⟩:=okWide_slice ht hval;obtain ⟨A5,hf⟩:=h;rcases open_slice ht hf with ⟨hcs,_⟩ | ⟨a,len,cap,m,k,D,Pl,hcs,_,hlc,hcm,hmm,_,hi⟩
 ·simp [Value.cells] at hcs;obtain ⟨rfl,rfl,rfl⟩:=hcs;exact ⟨none,0,0,[],rfl,l_,o_,Sl.nil,zm_⟩
 simp [Value.cells] at hcs;obtain ⟨rfl,rfl,rfl⟩:=hcs;simp only [if_true] at hmm;subst hmm;have Aa:∀ k',k'<=n->∃ l:List α,l.length=k'/\∀ (i:Nat) (x:α),l[i]?=some x->Ok x/\W.cells? 0 (a.add (i*sz)) sz=some (cells x):=by
  intro k'
  induction k' with
  | zero=>intro _;exact ⟨[],rfl,zm_⟩
  | succ k' ih =>
   intro Ag;obtain ⟨l,hl,A1⟩:=ih o_;obtain ⟨A4,h1,h2⟩:=hi k' o_;rw [hC] at h1;obtain ⟨_,A3,_⟩:=World.cells?_some h1;obtain ⟨x,rfl,Ad⟩:=hel k A4 _ A3 h2;refine ⟨l ++ [x],by simp [hl],fun i y hy=>?_⟩;by_cases hik:i<k'
   ·rw [List.getElem?_append_left o_] at hy;exact A1 i y hy
   have Ac:=(e_ hy).1;simp [hl] at Ac;obtain rfl:i=k':=by omega
   rw [List.getElem?_append_right o_,hl] at hy;simp at hy;subst hy;exact ⟨Ad,h1⟩
 obtain ⟨l,hl,A1⟩:=Aa n (l_);refine ⟨some a,_,_,l,rfl,hlc,by unfold maxLen at hcm;omega,⟨hl,fun hn=>?_⟩,fun x hx=>?_⟩
 ·have A0:∀ (i:Nat) (x:α),l[i]?=some x->∀ (j:Nat) (u:Value),(cells x)[j]?=some u->W.cell? ((a.add (i*sz)).add j)=some u:=fun i x hx j u hu=>by
   obtain ⟨_,h1⟩:=A1 i x hx;obtain ⟨_,A3,A7⟩:=World.cells?_some h1;have hj:=(e_ hu).1;rw [A7 j o_];exact hu
  have h0:0<l.length:=by omega
  obtain ⟨Ae,A8⟩:=A1 0 _ (ge_ h0);obtain ⟨_,A9,_⟩:=World.cells?_some A8;have hz:=A0 0 _ (ge_ h0) 0 _ (ge_ o_);have A6:(a.add (0*sz)).add 0=a:=by simp [Addr.add]
  rw [A6] at hz;obtain ⟨ab,ao,A2⟩:=a;have Af:A2=none:=by
   cases A2 with
   | none=>rfl
   | some _=>unfold World.cell? at hz;simp at hz;split at hz <;> simp at hz
  subst Af;refine ⟨ab,ao,rfl,World.block_lt_of_cell? W _ hz,fun i x hx j u hu=>?_⟩;have h:=A0 i x hx j u hu;rw [Addr.add_lit,Addr.add_lit] at h
  rwa [Nat.add_assoc] at h
 obtain ⟨i,Ab⟩:=List.getElem?_of_mem hx;exact (A1 i x Ab).1
theorem trod_fields {e:TypeId} {fs:Array Field} {fuel:Nat} {cs:VL} {x:DataW H × List MemPlace} {sp:Nat->Bool} {held:Bool} (he:P.underlying e=some (.struct fs)) (hone:oneCellFields P fs=true) (hcs:cs.length=fs.size)
  (h:DataW.trod enc P W 0 sp held fuel e cs=some x):∀ (j:Nat) (f:Field),fs[j]?=some f->∃ (v:Value) (y:DataW H × List MemPlace) (n:Nat),cs[j]?=some v/\DataW.trod enc P W 0 sp held n f.type [v]=some y:=by
 intro j f hj;obtain ⟨ys,n',A4,hy,A1,A5,hf⟩:=DataW.trod_struct he h;obtain ⟨ho,hk⟩:=hone_of hone j f hj;have A3:j<fs.size:=(Array.getElem?_eq_some_iff.1 hj).1;have h1:=hf j f hj;rw [ho,hk] at h1;have A0:(cs.drop j).take 1=[cs[j]'o_]:=by
  rw [List.drop_eq_getElem_cons o_];rfl
 rw [A0] at h1;have A2:ys[j]?=some (ys[j]'o_):=ge_ o_;exact ⟨_,_,_,ge_ o_,h1.trans A2⟩
theorem args_of {args:Array Value} {l:VL} (h:args.toList=l):args=l.toArray:=by rw [<-h]
theorem wf_i64 {n:Int} (h:(Lit.int .i64 n).wf=true):-9223372036854775808<=n/\n<=9223372036854775807:=by
 have h1:IntKind.i64.min=-9223372036854775808:=rfl;have h2:IntKind.i64.max=9223372036854775807:=rfl;exact uu_
theorem wf_u8 {n:Int} (h:(Lit.int .u8 n).wf=true):0<=n/\n<=255:=by
 have h1:IntKind.u8.min=0:=rfl;have h2:IntKind.u8.max=255:=rfl;exact uu_
end
end Go.Proofs.YtfolidlmgfhkiaaGreat
namespace Go.Proofs.YtfolidlmgfhkiaaGreat.Pr
open Go.RowKit Go.Proofs.Tryz
theorem key_any (s f:Int) (w:World) :
  Calls prog 56 #[i_ s,i_ f] w fun e w'=>e=.returned (keyV s f)/\Below w w w':=by
 by_cases h1:-1<=s <;> by_cases h2:s<=2047 <;> by_cases h3:0<=f <;> by_cases h4:f<=255
 all_goals
  have H:=h_ (keyV s f=_) ys_;go_enter func56,ntmps56;go_wp2;go_ret2;exact ⟨congrArg Ending.returned H.o.symm,b_⟩
theorem refkey_any (s f:Int) (w:World) :
  Calls prog 59 #[i_ s,i_ f] w fun e w'=>e=.returned (keyV s f)/\Below w w w':=by
 by_cases h1:-1<=s <;> by_cases h2:s<=2047 <;> by_cases h3:0<=f <;> by_cases h4:f<=255
 all_goals
  have H:=h_ (keyV s f=_) ys_;go_enter func59,ntmps59;go_wp2;all_goals
   go_ret2;exact ⟨congrArg Ending.returned H.o.symm,b_⟩
theorem ret_found {ts:List Trk} {key:Int} {k:Nat} {t:Trk} (hL:lowb ts key=k) (ht:ts[k]?=some t) :
  Ending.returned (.tuple #[i_ k,.bool (t.key == key)])=.returned (.tuple #[i_ (lowb ts key),.bool (hit ts key)]):=by
 rw [hit_at (by rw [hL];exact ht),hL]
theorem ret_miss {ts:List Trk} {key:Int} {n:Nat} (hL:lowb ts key=n) (hl:ts.length<=lowb ts key) :
  Ending.returned (.tuple #[i_ n,.bool false])=.returned (.tuple #[i_ (lowb ts key),.bool (hit ts key)]):=by
 rw [hit_none hl,hL]
theorem at_any (A:OA) (n c:Nat) (ts:List Trk) (key:Int) (w:World) (hs:Sl w w 5 Trk.cells A n ts) (hn:n<=1000000) :
  Calls prog 102 #[.agg #[.slice A n c],i_ key] w fun e w'=>e=.returned (.tuple #[i_ (lowb ts key),.bool (hit ts key)])/\Below w w w':=by
 go_enter func102,ntmps102;go_wp2_with fail;go_loopw [11] (fun i wr=>∃ k:Nat,k<=n/\i=i_ k/\(∀ j u,j<k->ts[j]?=some u->u.key<key)/\Below w w wr/\(w:Nat)<wr/\wr.cell? (a_ w)=some (.slice A n c)) (fun i _=>n - (intOf i).toNat)
 case atStart=>exact ⟨0,Nat.zero_le _,rfl,by intros;omega,(b_).alloc (l_) _,zm_,zm_⟩
 obtain ⟨k,hk,rfl,A0,hb,hz,A3⟩:=hrel;by_cases hlt:k<n
 ·obtain ⟨ab,ao,rfl,A2,A1⟩:=hs.at_ o_;have A4:k<ts.length:=by rw [hs.len];exact hlt
  obtain ⟨t,ht⟩:∃ t,ts[k]?=some t:=⟨_,ge_ A4⟩;have c0:wr.cell? ⟨ab,ao+k*5,none⟩=some (i_ t.key):=(hb.cell (p:=(f_ ab _)) A2).trans (A1 k t ht 0 _ rfl);have c1:wr.cell? ⟨ab,ao+k*5+1,none⟩=some (.bool t.last.ref):=(hb.cell (p:=(f_ ab _)) A2).trans (A1 k t ht 1 _ rfl);have c2:wr.cell? ⟨ab,ao+k*5+2,none⟩=some (i_ t.last.n):=(hb.cell (p:=(f_ ab _)) A2).trans (A1 k t ht 2 _ rfl);have c3:wr.cell? ⟨ab,ao+k*5+3,none⟩=some (i_ t.stride):=(hb.cell (p:=(f_ ab _)) A2).trans (A1 k t ht 3 _ rfl);have c4:wr.cell? ⟨ab,ao+k*5+4,none⟩=some (i_ t.seen):=(hb.cell (p:=(f_ ab _)) A2).trans (A1 k t ht 4 _ rfl);have HT:=q_ ht;have HA:=q_ A0;have HH:=q_ A1
  clear ht A0 A1
  by_cases hge:key<=t.key
  ·go_wp2;go_quiet (fail);go_wp2;go_ret2;have hL:lowb ts key=k:=lowb_of o_ HA.o (fun u hu=>by rw [HT.o] at hu;cases hu;exact hge);exact ⟨ret_found hL HT.o,below_drewN (hb.alloc o_ _) _⟩
  go_wp2;go_roundw
  case rel =>
   refine ⟨k+1,o_,zc_,fun j u hj hu=>?_,hb.alloc o_ _,za_,by simp [World.cell?_alloc_lt,hz,A3]⟩;by_cases hjk:j=k
   ·subst hjk;rw [HT.o] at hu;cases hu;omega
   exact HA.o j u o_ hu
  case measure=>exact me_
 obtain rfl:k=n:=by omega
 have HA:=q_ A0;clear A0;go_wp2;go_ret2;have hL:lowb ts key=ts.length:=lowb_end (fun j u hj hu=>HA.o j u (by rw [<-hs.len];exact hj) hu);exact ⟨ret_miss (by rw [hL,hs.len]) o_,hb⟩
end Go.Proofs.YtfolidlmgfhkiaaGreat.Pr
namespace Go.Proofs.YtfolidlmgfhkiaaGreat.Pr
open Go.RowKit
theorem train_len (ts:List Trk) (k:Int) (v:Val):(cl_ ts k v).length<=ts.length+1:=by
 unfold cl_;split
 ·rw [List.length_modify];omega
 simp only [List.length_append,List.length_take,List.length_cons,List.length_drop];omega
theorem insert_get {ts:List Trk} {i:Nat} {t:Trk} (hi:i<=ts.length) (j:Nat):(ts.take i ++ t :: ts.drop i)[j]?=if j<i then ts[j]? else if j=i then some t else ts[j - 1]?:=by
 rw [List.getElem?_append,List.length_take,Nat.min_eq_left hi];by_cases h:j<i
 ·rw [if_pos h,if_pos h,List.getElem?_take,if_pos h]
 rw [if_neg h,if_neg h];by_cases h2:j=i
 ·subst h2;simp
 rw [if_neg h2,show j - i=(j - i - 1)+1 by omega,List.getElem?_cons_succ,List.getElem?_drop,show i+(j - i - 1)=j - 1 by omega]
theorem good_nil:Good []:=⟨fun i j u v _ h _=>by simp at h,fun i t h=>by simp at h⟩
theorem train_good {ts:List Trk} (h:Good ts) (k:Int) (v:Val):Good (cl_ ts k v):=by
 unfold cl_;cases hh:hit ts k
 ·rw [if_neg t_];have A3:=lowb_le ts k;have A0:∀ t,ts[lowb ts k]?=some t->k<t.key:=fun t ht=>by
   have h1:=lowb_ge ts k t ht;have h2:=hit_at ht;rw [hh] at h2;have:¬t.key=k:=by simpa using h2.symm
   omega
  refine ⟨fun i j u w A2 hu hw=>?_,fun i t ht=>?_⟩
  ·rw [insert_get A3] at hu hw;by_cases h1:j<lowb ts k
   ·rw [if_pos h1] at hw;rw [if_pos o_] at hu;exact h.1 i j u w A2 hu hw
   rw [if_neg h1] at hw;by_cases h2:j=lowb ts k
   ·rw [if_pos h2] at hw;injection hw with hw;subst hw;rw [if_pos o_] at hu;exact lowb_lt ts k i u o_ hu
   rw [if_neg h2] at hw;by_cases h3:i<lowb ts k
   ·rw [if_pos h3] at hu;exact h.1 i (j - 1) u w o_ hu hw
   rw [if_neg h3] at hu;by_cases h4:i=lowb ts k
   ·rw [if_pos h4] at hu;injection hu with hu;subst hu;show k<w.key
    by_cases h5:j - 1=lowb ts k
    ·rw [h5] at hw;exact A0 w hw
    have hl:lowb ts k<ts.length:=by have:=(e_ hw).1;omega
    have h6:=A0 _ (ge_ hl);have h7:=h.1 (lowb ts k) (j - 1) _ w o_ (ge_ hl) hw;omega
   rw [if_neg h4] at hu;exact h.1 (i - 1) (j - 1) u w o_ hu hw
  rw [insert_get A3] at ht;split at ht
  ·exact h.2 _ t ht
  split at ht
  ·injection ht with ht;subst ht;exact ⟨by show (0:Int)<=1;omega,by show (1:Int)<=1073741824;omega⟩
  exact h.2 _ t ht
 rw [if_pos rfl];have A1:∀ (i:Nat) (t:Trk),(ts.modify (lowb ts k) (upd · v))[i]?=some t->∃ u,ts[i]?=some u/\t.key=u.key/\(0<=t.seen/\t.seen<=1073741824):=fun i t ht=>by
  rw [List.getElem?_modify] at ht;cases hu:ts[i]? with
  | none=>rw [hu] at ht;simp at ht
  | some u =>
   rw [hu] at ht;have hb:=h.2 i u hu;by_cases hi:lowb ts k=i
   ·simp [hi] at ht;subst ht;refine ⟨u,rfl,rfl,?_⟩;simp only [upd];split <;> omega
   simp [hi] at ht;subst ht;exact ⟨u,rfl,rfl,hb⟩
 refine ⟨fun i j u w A2 hu hw=>?_,fun i t ht=>?_⟩
 ·obtain ⟨u',A4,e1,_⟩:=A1 i u hu;obtain ⟨w',A5,e2,_⟩:=A1 j w hw;rw [e1,e2];exact h.1 i j u' w' A2 A4 A5
 obtain ⟨_,_,_,hb⟩:=A1 i t ht;exact hb
def trn (ks:List Int) (vs:List Val):Nat->List Trk
 | 0=>[]
 | k+1=>cl_ (trn ks vs k) (ks.getD k 0 % 16) (vs.getD k ⟨false,0⟩)
theorem trn_good (ks:List Int) (vs:List Val):∀ k,Good (trn ks vs k)/\(trn ks vs k).length<=k
 | 0=>⟨good_nil,by simp [trn]⟩
 | k+1=>by
  have ih:=trn_good ks vs k;exact ⟨train_good ih.1 _ _,by have:=train_len (trn ks vs k) (ks.getD k 0 % 16) (vs.getD k ⟨false,0⟩);simp only [trn];omega⟩
def exA:List Trk:=cl_ [] 9 ⟨false,3⟩
def exB:List Trk:=cl_ exA 9 ⟨false,5⟩
theorem exB_stride:et_ exB 9=⟨false,7⟩:=by with_unfolding_all rfl
theorem exB_hit:hit exB 9=true:=by rfl
theorem exB_last:lastV exB 9=⟨false,5⟩:=by rfl
theorem exB_no:hit exB 8=false:=by rfl
theorem exB_last8:lastV exB 8=⟨false,0⟩:=by rfl
theorem exA_good:Good exA:=train_good good_nil _ _
theorem exB_good:Good exB:=train_good exA_good _ _
end Go.Proofs.YtfolidlmgfhkiaaGreat.Pr
namespace Go.Proofs.YtfolidlmgfhkiaaGreat
open Go.RowKit Go.Proofs.Tryz
theorem read_any (A:OA) (n c:Nat) (l:List Ob) (id f:Int) (w:World) (hs:Hp w w A n l) (hn:n<=9000000000000) :
  Calls prog 93 #[.agg #[.slice A n c],i_ id,i_ f] w fun e w'=>e=.returned (.tuple #[.agg #[.bool (readD id f (l.map Ob.po)).ref,i_ (readD id f (l.map Ob.po)).n],.bool (readB id f (l.map Ob.po))])/\Below w w w':=by
 have HO:=q_ hs.obs;obtain ⟨w2,A0⟩:=ex_ ((w.alloc (.cells #[.slice A n c] 35)).alloc (.cells #[.bool false,i_ 0] 38));have A7:Below w w w2:=by rw [A0];exact (bel (b_))
 have Aj:(w2:Nat)=w+2:=by rw [A0];simp
 have HC:=h_ (w2.cell? (a_ w)=some (.slice A n c)) vb_;have Ab:=h_ (w2.cell? (a_ (w+1))=some (.bool false)) yn_;have Ac:=h_ (w2.cell? (f_ (w+1) 1)=some (i_ 0)) yn_;have HF:=h_ (∀ j,w2.frozen? (f_ (w+1) j)=false) (fun j=>by rw [A0,cp_ _ _ _ _ _ t_]);have Ad:=q_ (hs.sl.up A7);go_enter func93,ntmps93;go_wp2_with fail;rw [<-A0];have HW:=q_ A0;clear A0;refine (index_any A n c l id w2 Ad.o hn).mono ?_;rintro e w3 ⟨rfl,A5⟩;have e0:w3.cell? (a_ w)=some (.slice A n c):=(belc A5 o_).trans HC.o;have e1:w3.cell? (a_ (w+1))=some (.bool false):=(belc A5 o_).trans Ab.o;have e2:w3.cell? (f_ (w+1) 1)=some (i_ 0):=(belc A5 o_).trans Ac.o;have f0:w3.frozen? (a_ (w+1))=false:=(belf A5 o_).trans (HF.o 0);have f1:w3.frozen? (f_ (w+1) 1)=false:=(belf A5 o_).trans (HF.o 1);have A3:Below w w w3:=A7.trans (A5.mono A7.size);rcases ek_ id (l.map Ob.po) with ⟨hi,_⟩ | ⟨i,x,hi,hx,_,_⟩
 ·obtain ⟨r1,r2⟩:=read_no (f:=f) hi;have A1:=q_ r1;have A2:=q_ r2;have HI:=h_ (idxI id (l.map Ob.po)=-1) y5_;clear r1 r2 hi;rw [HI.o];go_wp2;refine bodyPost_ret (v:=.tuple #[.agg #[.bool false,i_ 0],.bool false]) yz_ rfl ?_;exact ⟨y6_,(bel A3)⟩
 obtain ⟨o,ho,rfl⟩:=po_at' hx;have hin:i<n:=by rw [<-hs.sl.len];exact (e_ ho).1
 obtain ⟨o1,o2⟩:=HO.o o (List.mem_of_getElem? ho);obtain ⟨ab,ao,rfl,Ag,Aa⟩:=hs.sl.at_ o_;have c1:w3.cell? ⟨ab,ao+i*2+1,none⟩=some (.slice o.A o.n o.c):=(belc A3 Ag).trans (Aa i o ho 1 _ rfl);have HI:=h_ (idxI id (l.map Ob.po)=i) y5_;have HX:=q_ hx;have A8:=q_ hi;have A9:=q_ o1.len;have Ah:¬(i:Int)<0:=by omega
 clear Aa hx ho hi;rw [HI.o];by_cases hf0:f<0
 ·obtain ⟨r1,r2⟩:=read_neg (id:=id) (l:=l.map Ob.po) hf0;exact u1_
 by_cases hfn:(o.n:Int)<=f
 ·obtain ⟨r1,r2⟩:=read_far A8.o HX.o (f:=f) (by show (o.s.length:Int)<=f;rw [A9.o];exact hfn);exact u1_
 obtain ⟨j,rfl⟩:∃ j:Nat,f=j:=⟨f.toNat,o_⟩;have Af:j<o.n:=by omega
 have Ai:(j:Int)<(o.n:Int):=by omega
 obtain ⟨v,hv⟩:∃ v,o.s[j]?=some v:=⟨_,ge_ (by rw [A9.o];exact Af)⟩;obtain ⟨fb,fo,Ae,A6,A4⟩:=o1.at_ o_;rw [Ae] at c1;have d0:w3.cell? ⟨fb,fo+j*2,none⟩=some (.bool v.ref):=(belc A3 A6).trans (A4 j v hv 0 _ rfl);have d1:w3.cell? ⟨fb,fo+j*2+1,none⟩=some (i_ v.n):=(belc A3 A6).trans (A4 j v hv 1 _ rfl);obtain ⟨r1,r2⟩:=read_at A8.o HX.o (j:=j) hv;have A1:=q_ r1;have A2:=q_ r2;have HV:=q_ hv;clear r1 r2 hv A4
 go_wp2;refine bodyPost_ret (v:=.tuple #[.agg #[.bool v.ref,i_ v.n],.bool true]) yz_ rfl ?_;exact ⟨y6_,(bel A3)⟩
theorem refread_any (A:OA) (n c:Nat) (l:List Ob) (id f:Int) (w:World) (hs:Hp w w A n l) (hn:n<=9000000000000) :
  Calls prog 17 #[.agg #[.slice A n c],i_ id,i_ f] w fun e w'=>e=.returned (.tuple #[.agg #[.bool (readD id f (l.map Ob.po)).ref,i_ (readD id f (l.map Ob.po)).n],.bool (readB id f (l.map Ob.po))])/\Below w w w':=by
 have HO:=q_ hs.obs;obtain ⟨w2,A0⟩:=ex_ ((w.alloc (.cells #[.slice A n c] 35)).alloc (.cells #[.bool false,i_ 0] 38));have A7:Below w w w2:=by rw [A0];exact (bel (b_))
 have Aj:(w2:Nat)=w+2:=by rw [A0];simp
 have HC:=h_ (w2.cell? (a_ w)=some (.slice A n c)) vb_;have Ab:=h_ (w2.cell? (a_ (w+1))=some (.bool false)) yn_;have Ac:=h_ (w2.cell? (f_ (w+1) 1)=some (i_ 0)) yn_;have HF:=h_ (∀ j,w2.frozen? (f_ (w+1) j)=false) (fun j=>by rw [A0,cp_ _ _ _ _ _ t_]);have Ad:=q_ (hs.sl.up A7);go_enter func17,ntmps17;go_wp2_with fail;rw [<-A0];have HW:=q_ A0;clear A0;refine (refat_any A n c l id w2 Ad.o hn).mono ?_;rintro e w3 ⟨rfl,A5⟩;have e0:w3.cell? (a_ w)=some (.slice A n c):=(belc A5 o_).trans HC.o;have e1:w3.cell? (a_ (w+1))=some (.bool false):=(belc A5 o_).trans Ab.o;have e2:w3.cell? (f_ (w+1) 1)=some (i_ 0):=(belc A5 o_).trans Ac.o;have f0:w3.frozen? (a_ (w+1))=false:=(belf A5 o_).trans (HF.o 0);have f1:w3.frozen? (f_ (w+1) 1)=false:=(belf A5 o_).trans (HF.o 1);have A3:Below w w w3:=A7.trans (A5.mono A7.size);rcases ek_ id (l.map Ob.po) with ⟨hi,_⟩ | ⟨i,x,hi,hx,_,_⟩
 ·obtain ⟨r1,r2⟩:=read_no (f:=f) hi;have A1:=q_ r1;have A2:=q_ r2;have HI:=h_ (idxI id (l.map Ob.po)=-1) y5_;clear r1 r2 hi;rw [HI.o];go_wp2;refine bodyPost_ret (v:=.tuple #[.agg #[.bool false,i_ 0],.bool false]) y0_ rfl ?_;exact ⟨y6_,(bel A3)⟩
 obtain ⟨o,ho,rfl⟩:=po_at' hx;have hin:i<n:=by rw [<-hs.sl.len];exact (e_ ho).1
 obtain ⟨o1,o2⟩:=HO.o o (List.mem_of_getElem? ho);obtain ⟨ab,ao,rfl,Ag,Aa⟩:=hs.sl.at_ o_;have c1:w3.cell? ⟨ab,ao+i*2+1,none⟩=some (.slice o.A o.n o.c):=(belc A3 Ag).trans (Aa i o ho 1 _ rfl);have HI:=h_ (idxI id (l.map Ob.po)=i) y5_;have HX:=q_ hx;have A8:=q_ hi;have A9:=q_ o1.len;have Ah:¬(i:Int)<0:=by omega
 clear Aa hx ho hi;rw [HI.o];by_cases hf0:f<0
 ·obtain ⟨r1,r2⟩:=read_neg (id:=id) (l:=l.map Ob.po) hf0;exact u0_
 by_cases hfn:(o.n:Int)<=f
 ·obtain ⟨r1,r2⟩:=read_far A8.o HX.o (f:=f) (by show (o.s.length:Int)<=f;rw [A9.o];exact hfn);exact u0_
 obtain ⟨j,rfl⟩:∃ j:Nat,f=j:=⟨f.toNat,o_⟩;have Af:j<o.n:=by omega
 have Ai:(j:Int)<(o.n:Int):=by omega
 obtain ⟨v,hv⟩:∃ v,o.s[j]?=some v:=⟨_,ge_ (by rw [A9.o];exact Af)⟩;obtain ⟨fb,fo,Ae,A6,A4⟩:=o1.at_ o_;rw [Ae] at c1;have d0:w3.cell? ⟨fb,fo+j*2,none⟩=some (.bool v.ref):=(belc A3 A6).trans (A4 j v hv 0 _ rfl);have d1:w3.cell? ⟨fb,fo+j*2+1,none⟩=some (i_ v.n):=(belc A3 A6).trans (A4 j v hv 1 _ rfl);obtain ⟨r1,r2⟩:=read_at A8.o HX.o (j:=j) hv;have A1:=q_ r1;have A2:=q_ r2;have HV:=q_ hv;clear r1 r2 hv A4
 go_wp2;refine bodyPost_ret (v:=.tuple #[.agg #[.bool v.ref,i_ v.n],.bool true]) y0_ rfl ?_;exact ⟨y6_,(bel A3)⟩
end Go.Proofs.YtfolidlmgfhkiaaGreat
namespace Go.Proofs.YtfolidlmgfhkiaaGreat.Pr
open Go.RowKit
structure Cl where
 id:Int
 field:Int
 v:Val
def Cl.cells (c:Cl):VL:=[i_ c.id,i_ c.field,.bool c.v.ref,i_ c.v.n]
theorem Cl.size (c:Cl):c.cells.length=4:=rfl
def kOf (s f:Int):Int:=(s+1)*256+f
def lcond (s fr:Int) (c:Cl):Bool:=c.id == fr && decide (3<=c.field) && bv_ s c.field
def lstep (s fr:Int) (p:List Trk) (c:Cl):List Trk:=if lcond s fr c then cl_ p (kOf s c.field) c.v else p
def bz_ (s fr:Int) (p:List Trk) (cs:List Cl):List Trk:=cs.foldl (lstep s fr) p
def Small (ts:List Trk):Prop:=∀ t ∈ ts,0<=t.key/\t.key<524544
theorem small_nil:Small []:=fun t h=>by cases h
theorem key_ge {ts:List Trk} (h:Sorted ts) (hs:Small ts):∀ (i:Nat) (t:Trk),ts[i]?=some t->(i:Int)<=t.key
 | 0,t,ht=>by have:=(hs t (List.mem_of_getElem? ht)).1;omega
 | i+1,t,ht=>by
  have A0:=(e_ ht).1;have h1:=key_ge h hs i _ (ge_ (show i<ts.length by omega));have h2:=h i (i+1) _ t o_ (ge_ (show i<ts.length by omega)) ht;omega
theorem en_ {ts:List Trk} (h:Sorted ts) (hs:Small ts):ts.length<=524544:=Nat.le_of_not_lt fun A0=>by
 have ht:=ge_ A0;have h1:=key_ge h hs 524544 _ ht;have h2:=(hs _ (List.mem_of_getElem? ht)).2;omega
theorem train_mem {ts:List Trk} {k:Int} {v:Val} {t:Trk} (h:t ∈ cl_ ts k v):t.key=k\/∃ u ∈ ts,t.key=u.key:=by
 unfold cl_ at h;split at h
 ·obtain ⟨i,hi⟩:=List.mem_iff_getElem?.1 h;rw [List.getElem?_modify] at hi;cases hu:ts[i]? with
  | none=>rw [hu] at hi;cases hi
  | some u =>
   rw [hu] at hi;refine .inr ⟨u,List.mem_of_getElem? hu,?_⟩;have A0:(if lowb ts k=i then upd u v else u)=t:=by simpa using hi
   rw [<-A0];split <;> rfl
 rcases List.mem_append.1 h with h | h
 ·exact .inr ⟨t,List.mem_of_mem_take h,rfl⟩
 rcases List.mem_cons.1 h with h | h
 ·subst h;exact .inl rfl
 exact .inr ⟨t,List.mem_of_mem_drop h,rfl⟩
theorem kOf_range {s f:Int} (h:bv_ s f=true):0<=kOf s f/\kOf s f<524544:=by
 simp only [bv_,Bool.and_eq_true,decide_eq_true_eq] at h;unfold kOf;omega
theorem lstep_good {s fr:Int} {p:List Trk} {c:Cl} (h:Good p) (hs:Small p):Good (lstep s fr p c)/\Small (lstep s fr p c):=by
 unfold lstep;split
 ·rename_i hc
  simp only [lcond,Bool.and_eq_true] at hc;have hr:=kOf_range hc.2;refine ⟨train_good h _ _,fun t ht=>?_⟩;rcases train_mem ht with e | ⟨u,hu,e⟩
  ·rw [e];exact hr
  rw [e];exact hs u hu
 exact ⟨h,hs⟩
theorem ea_ {s fr:Int}:∀ (cs:List Cl) {p:List Trk},Good p->Small p->Good (bz_ s fr p cs)/\Small (bz_ s fr p cs)
 | [],_,h,hs=>⟨h,hs⟩
 | c :: r,p,h,hs=>ea_ r (p:=lstep s fr p c) (lstep_good h hs).1 (lstep_good h hs).2
theorem learn_next {s fr:Int} {p:List Trk} {cs:List Cl} {k:Nat} {c:Cl} (hc:cs[k]?=some c):bz_ s fr p (cs.take (k+1))=lstep s fr (bz_ s fr p (cs.take k)) c:=by
 rw [List.take_add_one,hc];simp [bz_]
theorem learn_yes {s fr:Int} {p:List Trk} {c:Cl} (h:lcond s fr c=true):lstep s fr p c=cl_ p (kOf s c.field) c.v:=by unfold lstep;rw [if_pos h]
theorem learn_no {s fr:Int} {p:List Trk} {c:Cl} (h:lcond s fr c=false):lstep s fr p c=p:=by unfold lstep;rw [h];rfl
def sayV (ts:List Trk) (st:Bool) (k:Int):Val:=if st then et_ ts k else lastV ts k
def guessAt (ts:List Trk) (s fr:Int) (st:Bool) (i:Nat):Option Cl:=if hit ts (kOf s (3+i)) then some ⟨fr,3+i,sayV ts st (kOf s (3+i))⟩ else none
def as_ (ts:List Trk) (s fr:Int) (st:Bool) (k:Nat):List Cl:=(List.range k).filterMap (guessAt ts s fr st)
def guessP (ts:List Trk) (s fr n:Int) (st:Bool):List Cl:=if n<1\/64<n\/bv_ s 3=false then [] else as_ ts s fr st n.toNat
theorem guess_yes {ts:List Trk} {s fr:Int} {st:Bool} {k:Nat} (h:hit ts (kOf s (3+k))=true):as_ ts s fr st (k+1)=as_ ts s fr st k ++ [⟨fr,3+k,sayV ts st (kOf s (3+k))⟩]:=by
 simp [as_,List.range_succ,guessAt,h]
theorem guess_no {ts:List Trk} {s fr:Int} {st:Bool} {k:Nat} (h:hit ts (kOf s (3+k))=false):as_ ts s fr st (k+1)=as_ ts s fr st k:=by
 simp [as_,List.range_succ,guessAt,h]
theorem guess_len (ts:List Trk) (s fr:Int) (st:Bool) (k:Nat):(as_ ts s fr st k).length<=k:=Nat.le_trans (List.length_filterMap_le _ _) t_
theorem keyOk_at {s:Int} {k:Nat} (hk:k<=64):bv_ s (3+k)=bv_ s 3:=by
 have h1:decide (0<=(3:Int)+k)=true:=decide_eq_true o_;have h2:decide ((3:Int)+k<=255)=true:=decide_eq_true o_;simp only [bv_,h1,h2];simp
theorem guess_out {ts:List Trk} {s fr n:Int} {st:Bool} (h:n<1\/64<n\/bv_ s 3=false):guessP ts s fr n st=[]:=if_pos h
theorem guess_in {ts:List Trk} {s fr n:Int} {st:Bool} (h1:1<=n) (h2:n<=64) (h3:bv_ s 3=true):guessP ts s fr n st=as_ ts s fr st n.toNat:=if_neg (by rw [h3];simp;omega)
theorem guessP_len (ts:List Trk) (s fr n:Int) (st:Bool):(guessP ts s fr n st).length<=64:=by
 by_cases h:n<1\/64<n\/bv_ s 3=false
 ·rw [guess_out h];simp
 have h1:1<=n:=by omega
 have h2:n<=64:=by omega
 have h3:bv_ s 3=true:=by cases h4:bv_ s 3;exact absurd (.inr (.inr h4)) h;rfl
 rw [guess_in h1 h2 h3];exact Nat.le_trans (guess_len _ _ _ _ _) o_
end Go.Proofs.YtfolidlmgfhkiaaGreat.Pr
namespace Go.Proofs.YtfolidlmgfhkiaaGreat
open Go.RowKit Go.Proofs.Tryz
theorem made_dice (A:OA) (n c:Nat) (l:List Int) (w:World) (hs:Sl w w 1 byteCells A n l) (hl:∀ (i:Nat) (x:Int),l[i]?=some x->0<=x/\x<=255) (hnc:n<=c) (hn:n<=9223372036854775807) (hc:c<=9223372036854775807) :
  Calls prog 16 #[.slice A n c] w fun e w'=>∃ d,e=.returned (pt d)/\Dice w' d/\w<=d/\Below w w w':=by
 have HL:=q_ hl;have HS:=q_ hs;clear hl hs;have A0:∀ (m:Nat) (o:Obj),m<=n->∀ i,i<m->∃ sb so x,A=some (f_ sb so)/\sb<w/\0<=x/\x<=255/\(w.alloc o).cell? ⟨sb,so+i,none⟩=some (.int .u8 x):=fun m o hm i hi=>by
  exact ud_
 have A1:=q_ A0;clear A0;by_cases h200:200<n
 ·go_enter func16,ntmps16;go_wp2;exact tz_
 go_enter func16,ntmps16;go_wp2;exact t3_
end Go.Proofs.YtfolidlmgfhkiaaGreat
namespace Go.Proofs.YtfolidlmgfhkiaaGreat
open Go.ChangeShapes Go.WideShapes Go.ChangeAt Go.RowKit Go.Deep
section
variable {H:Type} {enc:TypeId × Value->H} {W:World}
theorem el_byte {sp:Nat->Bool}:∀ n cs y,cs.length=1->DataW.trod enc Tryz.prog W 0 sp true n 5 cs=some y->∃ x:Int,cs=byteCells x/\(0<=x/\x<=255):=by
 intro n cs y _ h;obtain ⟨x,rfl,_,hw⟩:=DataW.trod_int Tryz.underlying5 h;exact ⟨x,rfl,wf_u8 hw⟩
end
end Go.Proofs.YtfolidlmgfhkiaaGreat
namespace Go.Proofs.YtfolidlmgfhkiaaGreat.Pr
open Go.RowKit Go.Proofs.Tryz
theorem less_any (i n c:Nat) (z:Int) (hz:z=i) (ab ao:Nat) (t:Trk) (key:Int) (p q:Nat) (w:World) (hi:i<n) (_hn:n<=1000000)
   (hp:w.cell? (a_ p)=some (.slice (some (f_ ab ao)) n c)) (hq:w.cell? (a_ q)=some (i_ key))
   (hk:w.cell? ⟨ab,ao+i*5,none⟩=some (i_ t.key)) :
  Calls prog 153 #[i_ z,.pointer (some (a_ p)),.pointer (some (a_ q))] w fun e w'=>e=.returned (.bool (decide (key<=t.key)))/\Below w w w':=by
 subst hz;go_enter func153,ntmps153;go_wp2_with fail;go_quiet (fail);go_wp2;go_ret;exact ⟨rfl,below_drewN (b_) _⟩
def Mid (ts:List Trk) (key:Int) (i j:Nat):Prop:=i<=j/\j<=ts.length/\(∀ (x:Nat) (u:Trk),x<i->ts[x]?=some u->u.key<key)/\(∀ (x:Nat) (u:Trk),j<=x->ts[x]?=some u->key<=u.key)
theorem search_any (n c:Nat) (A:OA) (ts:List Trk) (key:Int) (p q:Nat) (w:World) (hs:Sl w w 5 Trk.cells A n ts) (hn:n<=1000000) (hsort:Sorted ts)
   (hpb:p<w) (hqb:q<w)
   (hp:w.cell? (a_ p)=some (.slice A n c)) (hq:w.cell? (a_ q)=some (i_ key)) :
  Calls prog 152 #[i_ n,.func (.func 153) #[] #[.pointer (some (a_ p)),.pointer (some (a_ q))]] w fun e w'=>e=.returned (i_ (lowb ts key))/\Below w w w':=by
 have hl:=hs.len;have HS:=q_ hsort;have HL:=q_ hl;clear hsort hl;go_enter func152,ntmps152;go_wp2_with fail;go_loopw [5,6] (fun i j wr=>∃ a b:Nat,i=i_ a/\j=i_ b/\a<=b/\b<=n/\Hid (Mid ts key a b)/\Below w w wr) (fun i j _=>(intOf j - intOf i).toNat)
 case atStart=>exact ⟨0,n,rfl,rfl,o_,o_,⟨o_,z8_,by intros;omega,fun x u hx hu=>by rw [List.getElem?_eq_none (by rw [HL.o];exact hx)] at hu;cases hu⟩,b_⟩
 obtain ⟨a,b,rfl,rfl,A5,A6,hM,hb⟩:=hrel;by_cases hlt:a<b
 ·obtain ⟨ab,ao,rfl,A4,A0⟩:=hs.at_ o_;obtain ⟨t,ht⟩:∃ t,ts[(a+b) / 2]?=some t:=⟨_,ge_ z8_⟩;have c0:wr.cell? ⟨ab,ao+((a+b) / 2)*5,none⟩=some (i_ t.key):=(hb.cell (p:=(f_ ab _)) A4).trans (A0 _ t ht 0 _ rfl);have A2:=(hb.cell (p:=(a_ p)) hpb).trans hp;have A3:=(hb.cell (p:=(a_ q)) hqb).trans hq;have HT:=q_ ht;have HA:=q_ A0
  clear ht A0
  by_cases hge:key<=t.key
  ·have HD:=h_ (decide (key<=t.key)=true) (by simpa using hge);go_wp2_with fail;refine (less_any ((a+b) / 2) n c _ o_ ab ao t key p q _ o_ hn A2 A3 c0).mono ?_;rintro e w' ⟨rfl,A1⟩;rw [HD.o];go_wp2;go_roundw
   case rel =>
    refine ⟨a,(a+b) / 2,rfl,zc_,o_,o_,⟨o_,z8_,hM.o.2.2.1,fun x u hx hu=>?_⟩,hb.trans (A1.mono hb.size)⟩;by_cases hxm:x=(a+b) / 2
    ·subst hxm;rw [HT.o] at hu;cases hu;exact hge
    have:=HS.o _ _ t u (show (a+b) / 2<x by omega) HT.o hu;omega
   case measure=>exact me_
  have HD:=h_ (decide (key<=t.key)=false) (by simpa using hge);go_wp2_with fail;refine (less_any ((a+b) / 2) n c _ o_ ab ao t key p q _ o_ hn A2 A3 c0).mono ?_;rintro e w' ⟨rfl,A1⟩;rw [HD.o];go_wp2;go_roundw
  case rel =>
   refine ⟨(a+b) / 2+1,b,zc_,rfl,o_,o_,⟨o_,z8_,fun x u hx hu=>?_,hM.o.2.2.2⟩,hb.trans (A1.mono hb.size)⟩;by_cases hxm:x=(a+b) / 2
   ·subst hxm;rw [HT.o] at hu;cases hu;omega
   have:=HS.o _ _ u t (show x<(a+b) / 2 by omega) hu HT.o;omega
  case measure=>exact me_
 obtain rfl:a=b:=by omega
 go_wp2;go_ret;refine ⟨?_,hb⟩;have E:lowb ts key=a:=lowb_of z8_ hM.o.2.2.1 (fun u hu=>hM.o.2.2.2 a u o_ hu);rw [E];rfl
theorem find_any (A:OA) (n c:Nat) (ts:List Trk) (key:Int) (w:World) (hs:Sl w w 5 Trk.cells A n ts) (hn:n<=1000000) (hsort:Sorted ts) :
  Calls prog 100 #[.agg #[.slice A n c],i_ key] w fun e w'=>e=.returned (.tuple #[i_ (lowb ts key),.bool (hit ts key)])/\Below w w w':=by
 have HS:=q_ hsort;have HN:=q_ hs.len;clear hsort;go_enter func100,ntmps100;go_wp2_with fail;refine (search_any n c A ts key w (w+1) _ ((hs.below (((b_).alloc (l_) _).alloc t_ _)).mono y_) hn HS.o y_ t_ x1_ t_).mono ?_;rintro e w' ⟨rfl,hb⟩;have A0:Below w w w':=(((b_).alloc (l_) _).alloc t_ _).trans (hb.mono za_);have hz:=hb.size;simp only [World.size_alloc] at hz;have hp:w'.cell? (a_ w)=some (.slice A n c):=(hb.cell (p:=(a_ w)) y_).trans x1_;have hq:w'.cell? (a_ (w+1))=some (i_ key):=(hb.cell (p:=(a_ (w+1))) t_).trans t_;have A2:=lowb_le ts key;rw [hs.len] at A2;obtain ⟨k,hk⟩:=ex_ (lowb ts key);have HK:=q_ hk;rw [<-hk] at A2;rw [<-hk];clear hk;by_cases hlt:k<n
 ·obtain ⟨ab,ao,rfl,A3,A1⟩:=hs.at_ o_;obtain ⟨t,ht⟩:∃ t,ts[k]?=some t:=⟨_,ge_ (by rw [HN.o];omega)⟩;have c0:w'.cell? ⟨ab,ao+k*5,none⟩=some (i_ t.key):=(A0.cell (p:=(f_ ab _)) A3).trans (A1 _ t ht 0 _ rfl);have HT:=q_ ht;clear ht A1
  go_wp2;go_quiet (fail);go_wp2;go_ret2;exact ⟨ret_found HK.o.symm HT.o,below_drewN A0 _⟩
 have hd:decide (k<n)=false:=by simpa using hlt
 obtain rfl:k=n:=by omega
 go_wp2;go_quiet (fail);go_wp2;go_ret2;exact ⟨ret_miss HK.o.symm (by rw [<-HK.o,HN.o];omega),below_drewN A0 _⟩
end Go.Proofs.YtfolidlmgfhkiaaGreat.Pr
namespace Go.Proofs.YtfolidlmgfhkiaaGreat
open Go.RowKit Go.Proofs.Tryz
def GivesO (x:PO) (w:World) (e:Ending) (w':World):Prop:=∃ (A:OA) (n c:Nat),e=.returned (.agg #[i_ x.id,.slice A n c])/\Hid (w'.ownsRow w 38 2 (.slice A n c) n (x.s.flatMap Val.cells))/\n=x.s.length/\Below w w w'
def getO (id:Int) (l:List PO):PO:=match idx id l with | some i=>(match l[i]? with | some x=>x | none=>⟨0,[]⟩) | none=>⟨0,[]⟩
def getB (id:Int) (l:List PO):Bool:=(idx id l).isSome
def GivesB (x:PO) (b:Bool) (w:World) (e:Ending) (w':World):Prop:=∃ (A:OA) (n c:Nat),e=.returned (.tuple #[.agg #[i_ x.id,.slice A n c],.bool b])/\n<=8796093021952/\Hid (Sl w' w' 2 Val.cells A n x.s)/\Hid (∀ ad,A=some ad->w<=ad.block)/\Below w w w'
theorem object_any (x:Ob) (w:World) (hx:Sl w w 2 Val.cells x.A x.n x.s) (hn:x.n<=8796093021952) :
  Calls prog 179 #[.agg #[i_ x.id,.slice x.A x.n x.c]] w (GivesO x.po w):=by
 obtain ⟨id,A,n,c,s⟩:=x;simp only at hx hn ⊢;obtain ⟨i0,hi,A9,Aa,Ab⟩:=info_parts CloneVal.infoE;obtain ⟨w2,A0⟩:=ex_ ((w.alloc (.cells #[i_ id,.slice A n c] 90)).alloc (.cells #[i_ 0,.slice none 0 0] 90));have A5:Below w w w2:=by rw [A0];exact (bel (b_))
 have Ac:(w2:Nat)=w+2:=by rw [A0];simp
 have c0:w2.cell? (a_ w)=some (i_ id):=by rw [A0,ai_ _ _ _ _ t_,ay_ _ _ _ _ _ rfl];rfl
 have c1:w2.cell? (f_ w 1)=some (.slice A n c):=by rw [A0,ai_ _ _ _ _ t_,ay_ _ _ _ _ _ rfl];rfl
 have d0:w2.cell? (a_ (w+1))=some (i_ 0):=by rw [A0,ay_ _ _ _ _ _ t_];rfl
 have d1:w2.cell? (f_ (w+1) 1)=some (.slice none 0 0):=by rw [A0,ay_ _ _ _ _ _ t_];rfl
 have f0:∀ j,w2.frozen? (f_ (w+1) j)=false:=fun j=>by rw [A0,cp_ _ _ _ _ _ t_]
 have f1:∀ j,w2.frozen? (f_ w j)=false:=fun j=>by rw [A0,cq_ _ _ _ _ t_,cp_ _ _ _ _ _ t_]
 have A7:=q_ (hx.up A5);have HS:=q_ (A7.o.src Val.size);have HL:=q_ hx.len;clear hx;go_enter func179,ntmps179;go_wp2_with (at_builtin;rw [<-A0];refine av_ rfl _ _ 88 rfl w2 38 i0 _ 2 16 underlying88 hi A9 Aa Ab rfl d_ (.slice none 0 0) 0 [] zb_ (World.ownsRow_nil _ _ _ _) A n c (s.flatMap Val.cells) zb_ HS.o.1 (by rw [ds_ Val.size,HL.o]) HS.o.2 (val_one s) m_ o_ (l_) ?_;intro A3 c3 w3 A2 A4 A8;have H3:=q_ A2;have A1:Below w2 w2 w3:=(b_).grown A4 (l_) (fun k hk=>by cases hk);have e0:=(belc A1 (b:=w) (o:=0) o_).trans c0;have e1:=(belc A1 (b:=w) (o:=1) o_).trans c1;have e2:=(belc A1 (b:=w+1) (o:=0) o_).trans d0;have e3:=(belc A1 (b:=w+1) (o:=1) o_).trans d1;have g0:=(belf A1 (b:=w+1) (o:=0) o_).trans (f0 0);have g1:=(belf A1 (b:=w+1) (o:=1) o_).trans (f0 1);have g2:=(belf A1 (b:=w) (o:=1) o_).trans (f1 1);clear A2 A4 A8);refine bodyPost_ret (v:=.agg #[i_ id,.slice A3 n c3]) (by simp [results,results179,go_sem,e2,e3]) rfl ?_;have A6:∀ p:Addr,p.block<w2->(Value.slice A3 n c3).ownBlock≠some p.block:=fun p hp h=>by
  have:=(am_ (own_eq (Nat.zero_add n) H3.o) h).1;omega
 refine ⟨A3,n,c3,rfl,q_ (own_mono (bp_ (bp_ (bp_ (own_eq (Nat.zero_add n) H3.o) _ (A6 _ xz_)) _ (A6 _ (by show (w:Nat)+1<_;omega))) _ (A6 _ (by show (w:Nat)+1<_;omega))) o_),HL.o.symm,?_⟩;exact (((A5.trans (A1.mono A5.size)).setCell t_ _).setCell t_ _).setCell t_ _
theorem refget_any (A:OA) (n c:Nat) (l:List Ob) (id:Int) (w:World) (hs:Hp w w.heap.size A n l) (hn:n<=9000000000000) :
  Calls prog 133 #[.agg #[.slice A n c],i_ id] w (GivesB (getO id (l.map Ob.po)) (getB id (l.map Ob.po)) w):=by
 have HO:=q_ hs.obs;obtain ⟨w2,A1⟩:=ex_ ((w.alloc (.cells #[.slice A n c] 35)).alloc (.cells #[i_ 0,.slice none 0 0] 90));have A9:Below w.heap.size w w2:=by rw [A1];exact (bel (b_))
 have Al:w2.heap.size=w.heap.size+2:=by rw [A1];simp
 have HC:=h_ (w2.cell? (a_ w.heap.size)=some (.slice A n c)) (by rw [A1,ai_ _ _ _ _ t_,ay_ _ _ _ _ _ rfl];rfl);have Ae:=h_ (w2.cell? (a_ (w.heap.size+1))=some (i_ 0)) (by rw [A1,ay_ _ _ _ _ _ t_];rfl);have Af:=h_ (w2.cell? (f_ (w.heap.size+1) 1)=some (.slice none 0 0)) (by rw [A1,ay_ _ _ _ _ _ t_];rfl);have HF:=h_ (∀ j,w2.frozen? (f_ (w.heap.size+1) j)=false) (fun j=>by rw [A1,cp_ _ _ _ _ _ t_]);have Ag:=q_ (hs.sl.up A9);go_enter func133,ntmps133;go_wp2_with fail;rw [<-A1];have HW:=q_ A1;clear A1;refine (refat_any A n c l id w2 Ag.o hn).mono ?_;rintro e w3 ⟨rfl,A2⟩;have e0:w3.cell? (a_ w.heap.size)=some (.slice A n c):=(belc A2 o_).trans HC.o;have e1:w3.cell? (a_ (w.heap.size+1))=some (i_ 0):=(belc A2 o_).trans Ae.o;have e2:w3.cell? (f_ (w.heap.size+1) 1)=some (.slice none 0 0):=(belc A2 o_).trans Af.o;have f0:w3.frozen? (a_ (w.heap.size+1))=false:=(belf A2 o_).trans (HF.o 0);have f1:w3.frozen? (f_ (w.heap.size+1) 1)=false:=(belf A2 o_).trans (HF.o 1);have A3:Below w.heap.size w w3:=A9.trans (A2.mono A9.size);have Am:=A2.size;rcases ek_ id (l.map Ob.po) with ⟨hi,_⟩ | ⟨i,x,hi,hx,hxid,hfst⟩
 ·have A6:=h_ (getO id (l.map Ob.po)=⟨0,[]⟩) (by rw [getO,hi]);have A7:=h_ (getB id (l.map Ob.po)=false) (by rw [getB,hi];rfl);have HI:=h_ (idxI id (l.map Ob.po)=-1) y5_;clear hi;rw [HI.o];go_wp2;refine bodyPost_ret (v:=.tuple #[.agg #[i_ 0,.slice none 0 0],.bool false]) (by simp [results,results133,go_sem,e1,e2]) rfl ?_;rw [A6.o,A7.o];exact ⟨none,0,0,rfl,o_,q_ Sl.nil,q_ (fun _ h=>by cases h),(bel A3)⟩
 clear hxid hfst;obtain ⟨o,ho,rfl⟩:=po_at' hx;have hin:i<n:=by rw [<-hs.sl.len];exact (e_ ho).1
 obtain ⟨o1,o2⟩:=HO.o o (List.mem_of_getElem? ho);obtain ⟨ab,ao,rfl,Ac,A8⟩:=hs.sl.at_ o_;have c0:w3.cell? ⟨ab,ao+i*2,none⟩=some (i_ o.id):=(belc A3 Ac).trans (A8 i o ho 0 _ rfl);have c1:w3.cell? ⟨ab,ao+i*2+1,none⟩=some (.slice o.A o.n o.c):=(belc A3 Ac).trans (A8 i o ho 1 _ rfl);have HI:=h_ (idxI id (l.map Ob.po)=i) y5_;have A6:=h_ (getO id (l.map Ob.po)=o.po) (by rw [getO,hi];simp only [hx]);have A7:=h_ (getB id (l.map Ob.po)=true) (by rw [getB,hi];rfl);have O3:=q_ (o1.up A3);have Ah:=q_ o1.len;have Ak:¬(i:Int)<0:=by omega
 clear A8 hx ho hi o1;rw [HI.o];go_wp2_with fail;refine (object_any o w3 O3.o o2).mono ?_;rintro e w4 ⟨A4,n4,c4,rfl,A0,Ad,A5⟩;have g1:w4.cell? (a_ (w.heap.size+1))=some (i_ 0):=(belc A5 o_).trans e1;have g2:w4.cell? (f_ (w.heap.size+1) 1)=some (.slice none 0 0):=(belc A5 o_).trans e2;have k0:w4.frozen? (a_ (w.heap.size+1))=false:=(belf A5 o_).trans f0;have k1:w4.frozen? (f_ (w.heap.size+1) 1)=false:=(belf A5 o_).trans f1;have Aj:=A3.trans (A5.mono A3.size);have Aa:=q_ Ad;clear Ad;go_wp2;refine bodyPost_ret (v:=.tuple #[.agg #[i_ o.id,.slice A4 n4 c4],.bool true]) (by simp [results,results133,go_sem,g1,g2,Ob.po]) rfl ?_;rw [A6.o,A7.o];have Ab:(Value.slice A4 n4 c4).ownBlock≠some (w.heap.size+1):=fun h=>by
  have:=(am_ A0.o h).1;omega
 refine ⟨A4,n4,c4,rfl,?_,q_ (Sl.cs_ Val.size Aa.o.symm (bp_ (bp_ A0.o _ Ab) _ Ab)),q_ (fun ad Ai=>by subst Ai;have:=(am_ A0.o (k:=ad.block) rfl).1;omega),(bel Aj)⟩;have h1:=Aa.o;have h2:o.s.length=o.n:=Ah.o;have h3:o.po.s.length=o.s.length:=rfl;omega
end Go.Proofs.YtfolidlmgfhkiaaGreat
namespace Go.Proofs.YtfolidlmgfhkiaaGreat
open Go.RowKit
def Bx (w:World) (b:Nat) (cs:VL):Prop:=b<w/\(∀ (j:Nat) (v:Value),cs[j]?=some v->w.cell? (f_ b j)=some v)/\∀ j,w.frozen? (f_ b j)=false
section
variable {X Y:NP} {w w':World} {b K K':Nat} {cs:VL}
theorem Bx.new (w:World) (cs:VL) (t:TypeId):Bx (w.alloc (.cells cs.toArray t)) w cs :=
 ⟨zm_,fun j v hv=>by rw [ay_ _ _ _ _ _ rfl];simpa using hv,fun j=>cp_ _ _ _ _ _ rfl⟩
theorem Bx.kp (h:Bx w b cs) (hk:Kp X w w') (hx:¬X b):Bx w' b cs:=⟨lt_ h.1 hk.size,fun j v hv=>(hk.cell h.1 hx).trans (h.2.1 j v hv),fun j=>(hk.frozen h.1 hx).trans (h.2.2 j)⟩
theorem Bx.below (h:Bx w b cs) (hb:Below w w w'):Bx w' b cs:=h.kp (X:=fun _=>False) (.of_below hb) (fun h=>h)
theorem Bx.alloc (h:Bx w b cs) (o:Obj):Bx (w.alloc o) b cs:=h.kp ((Kp.refl (fun _=>False) w).alloc o) (fun h=>h)
theorem Bx.drew (h:Bx w b cs):Bx w.drew b cs:=h.kp ((Kp.refl (fun _=>False) w).drew) (fun h=>h)
theorem Bx.set (h:Bx w b cs) (k:Nat) (u:Value):Bx (w.setCell (f_ b k) u) b (cs.set k u):=by
 refine ⟨by simpa [World.setCell] using h.1,fun j v hv=>?_,fun j=>by rw [World.frozen?_setCell];exact h.2.2 j⟩;rw [gs_] at hv;by_cases hk:k=j
 ·subst hk;rw [if_pos rfl] at hv;split at hv
  ·rename_i hlt
   injection hv with hv;subst hv;exact World.cell?_setCell_same _ _ _ (h.2.1 k _ (ge_ hlt))
  cases hv
 rw [if_neg hk] at hv;rw [bg_ _ _ _ _ (by intro e;injection e with _ e;exact hk e)];exact h.2.1 j v hv
theorem Bx.far (h:Bx w b cs) {p:Addr} (hp:p.block≠b) (u:Value):Bx (w.setCell p u) b cs :=
 ⟨by simpa [World.setCell] using h.1,fun j v hv=>(World.cell?_setCell_other w p _ u (fun e=>hp x3_)).trans (h.2.1 j v hv),fun j=>by rw [World.frozen?_setCell];exact h.2.2 j⟩
theorem Bx.there (h:Bx w b cs) {o n:Nat} (ho:o+n<=cs.length):w.there b o n:=fun j hj=>by
 refine ⟨?_,h.2.2 _⟩;rw [h.2.1 (o+j) _ (ge_ o_)];rfl
theorem Bx.range (h:Bx w b cs) (o n:Nat):w.rangeAt b o ((cs.drop o).take n):=fun j v hv=>by
 rw [List.getElem?_take] at hv;split at hv
 ·rw [List.getElem?_drop] at hv;exact h.2.1 _ v hv
 cases hv
theorem Bx.whole (h:Bx w b cs):w.rangeAt b 0 cs:=fun j v hv=>by rw [Nat.zero_add];exact h.2.1 j v hv
theorem setCells_size (b:Nat):∀ (vs:VL) (o:Nat) (w:World),(w.setCells b o vs).heap.size=w
 | [],_,_=>rfl
 | v :: r,o,w=>by rw [World.setCells,setCells_size b r (o+1)];simp [World.setCell]
theorem ah_ {X:NP} (b:Nat):∀ (vs:VL) (o:Nat) {w0 w:World},Kp X w0 w->(X b\/w0<=b)->Kp X w0 (w.setCells b o vs)
 | [],_,_,_,h,_=>h
 | v :: r,o,w0,w,h,hb=>by rw [World.setCells];exact ah_ b r (o+1) (h.setCell (p:=⟨b,o,none⟩) hb v) hb
theorem Bx.put (h:Bx w b cs) (o:Nat) (vs:VL) (hv:o+vs.length<=cs.length):Bx (w.setCells b o vs) b (splice cs o vs):=by
 refine ⟨by rw [setCells_size];exact h.1,fun j v hj=>?_,fun j=>by rw [World.frozen?_setCells];exact h.2.2 j⟩;unfold splice at hj;have A0:(cs.take o).length=o:=by rw [List.length_take];omega
 by_cases h1:j<o
 ·rw [List.getElem?_append_left (by rw [A0];exact h1),List.getElem?_take,if_pos h1] at hj;rw [World.cell?_setCells_out b vs o w (f_ b j) (fun _ _=>.inl h1)];exact h.2.1 j v hj
 rw [List.getElem?_append_right yi_,A0] at hj;by_cases h2:j - o<vs.length
 ·rw [List.getElem?_append_left h2] at hj;have:=World.rangeAt_setCells_same w b o vs (h.there hv) (j - o) v hj
  rwa [show o+(j - o)=j from by omega] at this
 rw [List.getElem?_append_right o_,List.getElem?_drop] at hj;rw [World.cell?_setCells_out b vs o w (f_ b j) (fun _ _=>.inr (by show o+vs.length<=j;omega))];rw [show o+vs.length+(j - o - vs.length)=j from by omega] at hj;exact h.2.1 j v hj
theorem splice_all {α:Type} {cs vs:List α} (h:vs.length=cs.length):splice cs 0 vs=vs:=by
 unfold splice;simp [<-h]
theorem Bx.all (h:Bx w b cs) (vs:VL) (hv:vs.length=cs.length):Bx (w.setCells b 0 vs) b vs:=by
 have:=h.put 0 vs o_
 rwa [splice_all hv] at this
theorem Bx.others (h:Bx w b cs) {b' o:Nat} (hb:b'≠b) (vs:VL):Bx (w.setCells b' o vs) b cs :=
 ⟨by rw [setCells_size];exact h.1,fun j v hv=>by rw [World.cell?_setCells_out b' vs o w (f_ b j) (fun e _=>absurd e.symm hb)];exact h.2.1 j v hv,fun j=>by rw [World.frozen?_setCells];exact h.2.2 j⟩
theorem VTs.part {ts:List CT} {vs:VL} (h:VTs w X K ts vs) (o n:Nat):VTs w X K ((ts.drop o).take n) ((vs.drop o).take n):=by
 refine ⟨by simp [h.1],fun j t hj=>?_⟩;rw [List.getElem?_take] at hj;split at hj
 ·rename_i hlt
  rw [List.getElem?_drop] at hj;obtain ⟨u,hu,hv⟩:=h.2 _ t hj;exact ⟨u,by rw [List.getElem?_take,if_pos hlt,List.getElem?_drop];exact hu,hv⟩
 cases hj
end
section
variable {P:Program} {ops:Array Oper} {rest:List Oper} {op:Oper} {a:Act} {w:World} {Q:Exit->Act->World->Prop} {b o:Nat} {cs:VL}
theorem ac_ (hgd:op.guard=none) (ty:TypeId) (x:Operand) (ho:op.op=.load ty x) (d:TypeDesc) (hu:P.underlying ty=some d) (hd:d.isRow=true) (hx:a.eval x=.pointer (some (f_ b o))) (hc:w.rangeAt b o cs) (hi:(P.info? ty).map (·.size)=some cs.length)
  (h:wpList P ops Q rest (a.put op.dst (.agg cs.toArray)) w):wpList P ops Q (op :: rest) a w :=
 wpList_load_mid hgd ty x ho b o hx cs d hc hu hd hi h
theorem ab_ (hgd:op.guard=none) (ty:TypeId) (x y:Operand) (ho:op.op=.store ty x y) (vs:VL) (hx:a.eval x=.pointer (some (f_ b o))) (hy:a.eval y=.agg vs.toArray) (ht:w.there b o vs.length) (hi:(P.info? ty).map (·.size)=some vs.length) (h1:∀ u ∈ vs,u.oneCell'=true)
  (h:wpList P ops Q rest (a.put op.dst undef) (w.setCells b o vs)):wpList P ops Q (op :: rest) a w :=
 wpList_store_mid hgd ty x y ho b o vs.toArray hx hy (by rw [List.size_toArray];exact ht) (by rw [List.size_toArray];exact hi) (by simpa using h1) xt_
end
def RB (e:Ending):Prop:=∃ b,e=.returned (.bool b)
def RN (e:Ending):Prop:=∃ n:Int,e=.returned (i_ n)
def RA (X:NP) (K:Nat) (ts:List CT) (e:Ending) (w:World):Prop:=∃ vs,e=.returned (.agg vs.toArray)/\VTs w X K ts vs
def RAT (X:NP) (K:Nat) (ts:List CT) (t:CT) (e:Ending) (w:World):Prop:=∃ vs v,e=.returned (.tuple #[.agg vs.toArray,v])/\VTs w X K ts vs/\VT w X K t v
/- Results that stand in cells. -/
section
variable {P:Program} {fn:Func} {R:Ending->World->Prop} {a:Act} {w:World} {b o:Nat} {cs:VL} {p u t:Nat} {d:TypeDesc}
theorem results_C (h:fn.results=#[.cell p t]) {tmps:Array Value} (ha:tmps.getD p undef=.pointer (some (f_ b o))) (hu:P.underlying t=some d) (hd:d.isRow=true) (hi:(P.info? t).map (·.size)=some cs.length) (hc:w.rangeAt b o cs) :
  (results fn tmps).run P w=.ok (.agg cs.toArray) w:=by
 exact uv_
theorem results_CT (h:fn.results=#[.cell p t,.tmp u]) {tmps:Array Value} (ha:tmps.getD p undef=.pointer (some (f_ b o))) (hu:P.underlying t=some d) (hd:d.isRow=true) (hi:(P.info? t).map (·.size)=some cs.length) (hc:w.rangeAt b o cs) :
  (results fn tmps).run P w=.ok (.tuple #[.agg cs.toArray,tmps.getD u undef]) w:=by
 exact uv_
theorem retC (h:fn.results=#[.cell p t]) (ha:a.tmps.getD p undef=.pointer (some (f_ b o))) (hu:P.underlying t=some d) (hd:d.isRow=true) (hi:(P.info? t).map (·.size)=some cs.length) (hc:w.rangeAt b o cs) (hf:a.defers=[]) (hR:R (.returned (.agg cs.toArray)) w):bodyPost P fn R .ret a w :=
 bodyPost_ret (results_C h ha hu hd hi hc) hf hR
theorem ce_ (h:fn.results=#[.cell p t,.tmp u]) (ha:a.tmps.getD p undef=.pointer (some (f_ b o))) (hu:P.underlying t=some d) (hd:d.isRow=true) (hi:(P.info? t).map (·.size)=some cs.length) (hc:w.rangeAt b o cs) (hf:a.defers=[]) (hR:R (.returned (.tuple #[.agg cs.toArray,a.tmps.getD u undef])) w):bodyPost P fn R .ret a w :=
 bodyPost_ret (results_CT h ha hu hd hi hc) hf hR
end
/- The blocks that a function makes at its beginning. -/
theorem af_ (w:World) (c0:VL) (t0:TypeId):∃ W,W=w.alloc (.cells c0.toArray t0)/\Below w w W/\(W:Nat)=w+1/\Bx W w c0 :=
 ⟨_,rfl,(b_).alloc (l_) _,zm_,Bx.new w c0 t0⟩
theorem cn_ (w:World) (c0:VL) (t0:TypeId) (c1:VL) (t1:TypeId):∃ W,W=(w.alloc (.cells c0.toArray t0)).alloc (.cells c1.toArray t1)/\Below w w W/\(W:Nat)=w+2/\Bx W w c0/\Bx W (w+1) c1:=by
 obtain ⟨V,rfl,hb,hz,b0⟩:=af_ w c0 t0;refine ⟨_,rfl,hb.alloc o_ _,zm_,b0.alloc _,?_⟩;have:=Bx.new (w.alloc (.cells c0.toArray t0)) c1 t1
 rwa [hz] at this
theorem dw_ (w:World) (c0:VL) (t0:TypeId) (c1:VL) (t1:TypeId) (c2:VL) (t2:TypeId):∃ W,W=((w.alloc (.cells c0.toArray t0)).alloc (.cells c1.toArray t1)).alloc (.cells c2.toArray t2)/\Below w w W/\(W:Nat)=w+3/\Bx W w c0/\Bx W (w+1) c1/\Bx W (w+2) c2:=by
 obtain ⟨V,rfl,hb,hz,b0,b1⟩:=cn_ w c0 t0 c1 t1;refine ⟨_,rfl,hb.alloc o_ _,zm_,b0.alloc _,b1.alloc _,?_⟩;have:=Bx.new ((w.alloc (.cells c0.toArray t0)).alloc (.cells c1.toArray t1)) c2 t2
 rwa [hz] at this
theorem blocks4 (w:World) (c0:VL) (t0:TypeId) (c1:VL) (t1:TypeId) (c2:VL) (t2:TypeId) (c3:VL) (t3:TypeId):∃ W,W=(((w.alloc (.cells c0.toArray t0)).alloc (.cells c1.toArray t1)).alloc (.cells c2.toArray t2)).alloc (.cells c3.toArray t3)/\Below w w W/\(W:Nat)=w+4/\Bx W w c0/\Bx W (w+1) c1/\Bx W (w+2) c2/\Bx W (w+3) c3:=by
 obtain ⟨V,rfl,hb,hz,b0,b1,b2⟩:=dw_ w c0 t0 c1 t1 c2 t2;refine ⟨_,rfl,hb.alloc o_ _,zm_,b0.alloc _,b1.alloc _,b2.alloc _,?_⟩;have:=Bx.new (((w.alloc (.cells c0.toArray t0)).alloc (.cells c1.toArray t1)).alloc (.cells c2.toArray t2)) c3 t3
 rwa [hz] at this
end Go.Proofs.YtfolidlmgfhkiaaGreat
