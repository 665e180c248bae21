/- Lemmas: each says what a function of the program leaves, under the conditions that it states. -/
import Derived.Test.YtfolidlmgfhkiaaGreatZ00
import Derived.Deep.Cut
import Derived.Deep.RegionHeld
set_option linter.unusedVariables false
set_option linter.unusedSimpArgs false
set_option maxRecDepth 100000
set_option maxHeartbeats 4000000
namespace Go.Proofs.YtfolidlmgfhkiaaGreat
open Go.RowKit
/-- A world where a number is asked: the size of its heap. -/
instance : Coe World Nat := ⟨fun w => w.heap.size⟩
theorem l_ {n : Nat} : n ≤ n := Nat.le_refl n
theorem e_ {α : Type} {l : List α} {i : Nat} {a : α} (h : l[i]? = some a) : ∃ h : i < l.length, l[i] = a := List.getElem?_eq_some_iff.1 h
theorem b_ {B : Nat} {w : World} : Below B w w := Below.refl B w
theorem q_ {p : Prop} (h : p) : Hid p := h
theorem sA {α : Type} {l : List α} {i : Nat} {a : α} : l.toArray.setIfInBounds i a = (l.set i a).toArray := by simp
theorem s0 {α : Type} {x a : α} {l : List α} : (x :: l).set 0 a = a :: l := rfl
theorem s1 {α : Type} {x a : α} {l : List α} {i : Nat} : (x :: l).set (i + 1) a = x :: l.set i a := rfl
theorem bel {B : Nat} {w w0 w' : World} (h : Below B w w0) (f : Below B w w0 → Below B w w' := by (intro h; repeat (first | (with_reducible exact h) | (with_reducible refine Below.drew ?_) | (with_reducible refine below_drewN ?_ _) | (with_reducible refine Below.setCell ?_ ?_ _; rotate_left; (first | omega | (simp <;> omega))) | (with_reducible refine Below.alloc ?_ ?_ _; rotate_left; (first | omega | (simp <;> omega)))))) : Below B w w' := f h
theorem o_ {p : Prop} (h : p := by omega) : p := h
theorem d_ {p : Prop} (h : p := by decide) : p := h
theorem k_ {p : Prop} (h : p := by kernel_rfl) : p := h
theorem v_ {p : Prop} (h : p := by simp [Act.eval, Act.put]) : p := h
theorem w_ {p : Prop} (h : p := by simp [Act.eval, Act.put] <;> rfl) : p := h
abbrev pt (b : Nat) : Value := .pointer (some ⟨b, 0, none⟩)
abbrev a_ (b : Nat) : Addr := ⟨b, 0, none⟩
abbrev f_ (b i : Nat) : Addr := ⟨b, i, none⟩
abbrev i_ (n : Int) : Value := .int .i64 n
theorem h_ (p : Prop) (h : p) : Hid p := h
theorem x_ {p : Prop} (h : p := by (intro h; cases h)) : p := h
theorem m_ {p : Prop} (h : p := by (unfold maxLen; omega)) : p := h
theorem t_ {p : Prop} (h : p := by simp) : p := h
theorem y_ {p : Prop} (h : p := by simp <;> omega) : p := h
theorem n_ {α : Type} {l : Array α} {i : Nat} {x : α} {p : Prop} (ho : l[i]? = some x) (h : ¬ i < l.size := by simp) : p := absurd (Array.getElem?_eq_some_iff.1 ho).1 h
theorem cfL {p : Prop} (h : p := by (go_wp2_with (first | (go_at_call 168;first | (refine (ax_ x.a _ _).mono ?_;rintro e Y ⟨⟨rA,rfl,hA⟩,hY⟩;have HV2:=q_ (HV.o.trans (hY.mono HV.o.size));clear HV hY c0 c1 c2 x0 x1 x2 x3 x4 s0 s1 s2 s3 hbw hsl;have HV:=HV2;clear HV2;obtain ⟨⟨c0,c1,c2⟩,⟨x0,x1,x2,x3,x4⟩,⟨s0,s1,s2,s3⟩,hbw2,hsl2⟩:=HQ.o Y HV.o;have hbw:=q_ hbw2;have hsl:=q_ hsl2;clear hbw2 hsl2) | (refine (ax_ x.b _ _).mono ?_;rintro e Y ⟨⟨rB,rfl,hB⟩,hY⟩;have HV2:=q_ (HV.o.trans (hY.mono HV.o.size));clear HV hY c0 c1 c2 x0 x1 x2 x3 x4 s0 s1 s2 s3 hbw hsl;have HV:=HV2;clear HV2;obtain ⟨⟨c0,c1,c2⟩,⟨x0,x1,x2,x3,x4⟩,⟨s0,s1,s2,s3⟩,hbw2,hsl2⟩:=HQ.o Y HV.o;have hbw:=q_ hbw2;have hsl:=q_ hsl2;clear hbw2 hsl2) | (refine (ax_ x.c _ _).mono ?_;rintro e Y ⟨⟨rC,rfl,hC⟩,hY⟩;have HV2:=q_ (HV.o.trans (hY.mono HV.o.size));clear HV hY c0 c1 c2 x0 x1 x2 x3 x4 s0 s1 s2 s3 hbw hsl;have HV:=HV2;clear HV2;obtain ⟨⟨c0,c1,c2⟩,⟨x0,x1,x2,x3,x4⟩,⟨s0,s1,s2,s3⟩,hbw2,hsl2⟩:=HQ.o Y HV.o;have hbw:=q_ hbw2;have hsl:=q_ hsl2;clear hbw2 hsl2)) | (go_at_call 128;refine (op_any (some ⟨ab,ao,none⟩) n c v s _ l _ hsl.o o_).mono ?_;rintro e Y ⟨⟨q,rfl,hq⟩,hY⟩;have HV2:=q_ (HV.o.trans (hY.mono HV.o.size));clear HV hY c0 c1 c2 x0 x1 x2 x3 x4 s0 s1 s2 s3 hbw hsl;have HV:=HV2;clear HV2;obtain ⟨⟨c0,c1,c2⟩,⟨x0,x1,x2,x3,x4⟩,⟨s0,s1,s2,s3⟩,hbw2,hsl2⟩:=HQ.o Y HV.o;have hbw:=q_ hbw2;have hsl:=q_ hsl2;clear hbw2 hsl2) | (go_at_call 169;refine (eu_ _ _).mono ?_;rintro e Y ⟨⟨ba,rfl⟩,hY⟩;have HV2:=q_ (HV.o.trans (hY.mono HV.o.size));clear HV hY c0 c1 c2 x0 x1 x2 x3 x4 s0 s1 s2 s3 hbw hsl;have HV:=HV2;clear HV2;obtain ⟨⟨c0,c1,c2⟩,⟨x0,x1,x2,x3,x4⟩,⟨s0,s1,s2,s3⟩,hbw2,hsl2⟩:=HQ.o Y HV.o;have hbw:=q_ hbw2;have hsl:=q_ hsl2;clear hbw2 hsl2) | (go_at_call 170;refine (Name_any _ _).mono ?_;rintro e Y ⟨⟨ns,nb,rfl⟩,hY⟩;have HV2:=q_ (HV.o.trans (hY.mono HV.o.size));clear HV hY c0 c1 c2 x0 x1 x2 x3 x4 s0 s1 s2 s3 hbw hsl;have HV:=HV2;clear HV2;obtain ⟨⟨c0,c1,c2⟩,⟨x0,x1,x2,x3,x4⟩,⟨s0,s1,s2,s3⟩,hbw2,hsl2⟩:=HQ.o Y HV.o;have hbw:=q_ hbw2;have hsl:=q_ hsl2;clear hbw2 hsl2)); all_goals (go_ret; exact ⟨rfits_no l i x, hbw.o⟩))) : p := h
theorem H0_{p:Prop}(h:p:=by exact hin 0 rfl _ _ rfl rfl):p:=h
theorem H1_{p:Prop}(h:p:=by exact hin 1 rfl _ _ rfl rfl):p:=h
theorem H2_{p:Prop}(h:p:=by exact hin 2 rfl _ _ rfl rfl):p:=h
theorem H3_{p:Prop}(h:p:=by exact hin 3 rfl _ _ rfl rfl):p:=h
theorem H4_{p:Prop}(h:p:=by exact hin 4 rfl _ _ rfl rfl):p:=h
theorem H5_{p:Prop}(h:p:=by exact hin 5 rfl _ _ rfl rfl):p:=h
theorem H6_{p:Prop}(h:p:=by exact hin 6 rfl _ _ rfl rfl):p:=h
theorem H7_{p:Prop}(h:p:=by exact hin 7 rfl _ _ rfl rfl):p:=h
theorem H8_{p:Prop}(h:p:=by exact hin 8 rfl _ _ rfl rfl):p:=h
theorem H9_{p:Prop}(h:p:=by exact hin 9 rfl _ _ rfl rfl):p:=h
theorem H10_{p:Prop}(h:p:=by exact hin 10 rfl _ _ rfl rfl):p:=h
theorem H11_{p:Prop}(h:p:=by exact hin 11 rfl _ _ rfl rfl):p:=h
theorem H12_{p:Prop}(h:p:=by exact hin 12 rfl _ _ rfl rfl):p:=h
theorem H13_{p:Prop}(h:p:=by exact hin 13 rfl _ _ rfl rfl):p:=h
theorem H14_{p:Prop}(h:p:=by exact hin 14 rfl _ _ rfl rfl):p:=h
theorem H15_{p:Prop}(h:p:=by exact hin 15 rfl _ _ rfl rfl):p:=h
theorem H16_{p:Prop}(h:p:=by exact hin 16 rfl _ _ rfl rfl):p:=h
theorem H17_{p:Prop}(h:p:=by exact hin 17 rfl _ _ rfl rfl):p:=h
theorem H18_{p:Prop}(h:p:=by exact hin 18 rfl _ _ rfl rfl):p:=h
theorem H19_{p:Prop}(h:p:=by exact hin 19 rfl _ _ rfl rfl):p:=h
theorem M0_{p:Prop}(h:p:=by exact bm_ (.inl rfl) (show (kV _ (pt b)).p w _ from (hout 0 d_)) hI):p:=h
theorem cuF{p:Prop}(h:p:=by (go_region_law fail; all_goals (go_wp2_with fail; go_meet; exact ⟨V.heap.size, rfl, l_, q_ ((Bx.new V [.bool rt, i_ rn] _).drew), q_ (((b_).alloc (l_) _).drew)⟩))):p:=h
abbrev zl1:VL:=[.int .i64 0,.int .i64 0,.bool false,.int .i64 0,.bool false,.int .i64 0,.bool false,.int .i64 0,.bool false,.int .i64 0,.bool false,.int .i64 0,.bool false,.int .i64 0,.bool false,.int .i64 0,.bool false,.int .i64 0,.bool false,.int .i64 0,.bool false,.int .i64 0,.bool false,.int .i64 0,.bool false,.int .i64 0,.bool false,.int .i64 0,.bool false,.int .i64 0,.bool false,.int .i64 0,.bool false,.int .i64 0,.bool false,.int .i64 0,.slice none 0 0,.slice none 0 0,.slice none 0 0,.slice none 0 0,.slice none 0 0,.slice none 0 0,.int .i64 0,.int .i64 0,.bool false,.bool false,.int .i64 0,.int .i64 0]
abbrev zl2:VL:=[.slice none 0 0,.int .i64 0,.bool false,.int .i64 0,.bool false,.int .i64 0,.bool false,.int .i64 0,.bool false,.int .i64 0,.bool false,.int .i64 0,.bool false,.int .i64 0,.bool false,.int .i64 0,.bool false,.int .i64 0,.bool false,.int .i64 0,.bool false,.int .i64 0,.bool false,.int .i64 0,.bool false,.int .i64 0,.bool false,.int .i64 0,.bool false,.int .i64 0,.bool false,.int .i64 0,.bool false,.int .i64 0,.int .i64 0,.int .i64 0,.slice none 0 0,.bool false,.bool false,.bool false,.int .i64 0,.int .i64 0]
abbrev zl3:VL:=[.slice none 0 0,.int .i64 0,.int .i64 0,.slice none 0 0,.bool false,.bool false,.bool false,.int .i64 0,.int .i64 0,.int .i64 0]
abbrev zl4:VL:=[.bool false,.int .i64 0,.bool false,.int .i64 0,.bool false,.int .i64 0,.bool false,.int .i64 0,.bool false,.int .i64 0,.bool false,.int .i64 0,.bool false,.int .i64 0,.bool false,.int .i64 0,.bool false,.int .i64 0,.bool false,.int .i64 0,.bool false,.int .i64 0,.bool false,.int .i64 0,.bool false,.int .i64 0,.bool false,.int .i64 0,.bool false,.int .i64 0,.bool false,.int .i64 0]
abbrev zl5:VL:=[.slice none 0 0,.int .i64 0,.int .i64 0,.int .i64 0,.bool false,.int .i64 0,.bool false,.int .i64 0,.bool false,.int .i64 0,.bool false,.int .i64 0,.bool false,.int .i64 0,.bool false,.int .i64 0,.bool false,.int .i64 0,.bool false,.int .i64 0,.bool false,.int .i64 0,.bool false,.int .i64 0,.bool false,.int .i64 0,.bool false,.int .i64 0,.bool false,.int .i64 0,.bool false,.int .i64 0,.bool false,.int .i64 0,.bool false,.int .i64 0,.slice none 0 0,.int .i64 0,.int .i64 0,.int .i64 0,.bool false,.int .i64 0,.bool false,.int .i64 0,.bool false,.int .i64 0,.bool false,.int .i64 0,.bool false,.int .i64 0,.bool false,.int .i64 0,.bool false,.int .i64 0,.bool false,.int .i64 0,.bool false,.int .i64 0,.bool false,.int .i64 0,.bool false,.int .i64 0,.bool false,.int .i64 0,.bool false,.int .i64 0,.bool false,.int .i64 0,.bool false,.int .i64 0,.bool false,.int .i64 0,.slice none 0 0,.slice none 0 0,.slice none 0 0,.slice none 0 0,.slice none 0 0,.int .i64 0,.bool false,.bool false,.int .i64 0,.bool false]
abbrev zl6:VL:=[.int .i64 0,.int .i64 0,.bool false,.int .i64 0,.bool false,.int .i64 0,.bool false,.int .i64 0,.bool false,.int .i64 0,.bool false,.int .i64 0,.bool false,.int .i64 0,.bool false,.int .i64 0,.bool false,.int .i64 0,.bool false,.int .i64 0,.bool false,.int .i64 0,.bool false,.int .i64 0,.bool false,.int .i64 0,.bool false,.int .i64 0,.bool false,.int .i64 0,.bool false,.int .i64 0,.bool false,.int .i64 0,.slice none 0 0,.slice none 0 0,.slice none 0 0,.slice none 0 0,.slice none 0 0,.int .i64 0,.bool false,.bool false,.int .i64 0]
abbrev zl7:VL:=[.slice none 0 0,.int .i64 0,.int .i64 0,.slice none 0 0,.slice none 0 0,.slice none 0 0,.int .i64 0,.int .i64 0,.slice none 0 0,.bool false,.bool false,.bool false,.int .i64 0,.int .i64 0,.int .i64 0,.slice none 0 0,.int .i64 0]
section
variable {P : Program} {ops : Array Oper} {Q : Exit → Act → World → Prop} {md : Region.Mode}
/-- An operation is taken first; its temporary is named. -/
theorem takeP (i : Nat) (d : Option Tmp) (v : Value) {S : World → Prop} {oi : Oper} {fuel : Nat} {listed : Array Bool} {a : Act} {w : World} (hi : ops[i]? = some oi) (hd : oi.dst = d) (hs : Region.noSelect ops = true) (hf : Region.free md ops listed i = true)
    (hr : (Region.ready md ops listed).contains i = true) (hQ : ∀ c a w, Q (.panic c) (a.put oi.dst v) w → Q (.panic c) a w) (hy : YieldsIf P ops S oi v a) (hS : S w)
    (h : wpAnyH P md ops Q S fuel (listed.setIfInBounds i true) (a.put d v) w) : wpAnyH P md ops Q S (fuel + 1) listed a w := by
  subst hd
  exact wpAnyH_take hi hs hf hr hQ hy hS h
/-- One operation alone can come next: it is carried out; S is shown anew. -/
theorem ba_ (i : Nat) {S : World → Prop} {oi : Oper} {fuel : Nat} {listed : Array Bool} {a : Act} {w : World} (hr : Region.ready md ops listed = [i]) (hi : ops[i]? = some oi)
    (h : ∀ K' : Act → World → Prop, Shut (∀ a w, S w → (S w → wpAnyH P md ops Q S fuel (listed.setIfInBounds i true) a w) → K' a w) → if Region.wanted oi (yielded ops a.tmps) = true then Oper.wp P oi a w K' Q else K' (a.put oi.dst undef) w) :
    wpAnyH P md ops Q S (fuel + 1) listed a w :=
  wpAnyH_ready hr (by simp) (AllReadyH.cons hi h AllReadyH.nil)
/-- The same, with all that is alike left to Lean. -/
theorem aa_ (i d : Nat) {v : Value} {S : World → Prop} {oi : Oper} {fuel : Nat} {listed : Array Bool} {a a' : Act} {w : World} (h : wpAnyH P md ops Q S fuel (listed.setIfInBounds i true) a' w)
    (hi : ops[i]? = some oi := by rfl) (hd : oi.dst = some d := by rfl) (hs : Region.noSelect ops = true := by kernel_rfl) (hf : Region.free md ops listed i = true := by kernel_rfl) (hr : (Region.ready md ops listed).contains i = true := by kernel_rfl)
    (hQ : ∀ c a w, Q (.panic c) (a.put oi.dst v) w → Q (.panic c) a w := by exact fun _ _ _ h => h) (hw : Region.wanted oi (yielded ops a.tmps) = true := by rfl)
    (hy : ∀ w', S w' → (execOp a.eval oi).run P w' = .ok (.value v) w' := by (intro w' hSw; (try dsimp only at hSw); first | (go_simp; first | done | with_reducible rfl) | (simp only [List.getElem_toArray, List.getElem_cons_zero, List.getElem_cons_succ]; go_simp; first | done | with_reducible rfl))) (hS : S w := by assumption)
    (ha : a.put (some d) v = a' := by (first | (simp only [Act.put, List.setIfInBounds_toArray, List.set_cons_zero, List.set_cons_succ]; rfl) | (simp only [Act.put, List.setIfInBounds_toArray, List.set_cons_zero, List.set_cons_succ]) | rfl)) : wpAnyH P md ops Q S (fuel + 1) listed a w := by
  subst ha
  exact takeP i (some d) v hi hd hs hf hr hQ (.inl ⟨hw, hy⟩) hS h
theorem ag_ (i d : Nat) {S : World → Prop} {oi : Oper} {fuel : Nat} {listed : Array Bool} {a a' : Act} {w : World} (h : wpAnyH P md ops Q S fuel (listed.setIfInBounds i true) a' w)
    (hi : ops[i]? = some oi := by rfl) (hd : oi.dst = some d := by rfl) (hs : Region.noSelect ops = true := by kernel_rfl) (hf : Region.free md ops listed i = true := by kernel_rfl) (hr : (Region.ready md ops listed).contains i = true := by kernel_rfl)
    (hQ : ∀ c a w, Q (.panic c) (a.put oi.dst undef) w → Q (.panic c) a w := by exact fun _ _ _ h => h) (hw : Region.wanted oi (yielded ops a.tmps) = false := by rfl) (hS : S w := by assumption)
    (ha : a.put (some d) undef = a' := by (first | (simp only [Act.put, List.setIfInBounds_toArray, List.set_cons_zero, List.set_cons_succ]; rfl) | (simp only [Act.put, List.setIfInBounds_toArray, List.set_cons_zero, List.set_cons_succ]) | rfl)) : wpAnyH P md ops Q S (fuel + 1) listed a w := by
  subst ha
  exact takeP i (some d) undef hi hd hs hf hr hQ (.inr ⟨hw, rfl⟩) hS h
theorem bb_ (i : Nat) {S : World → Prop} {oi : Oper} {fuel : Nat} {listed : Array Bool} {a a' : Act} {w : World} (h : ∀ K' : Act → World → Prop, Shut (∀ a w, S w → (S w → wpAnyH P md ops Q S fuel (listed.setIfInBounds i true) a w) → K' a w) → if Region.wanted oi (yielded ops a'.tmps) = true then Oper.wp P oi a' w K' Q else K' (a'.put oi.dst undef) w)
    (hr : Region.ready md ops listed = [i] := by kernel_rfl) (hi : ops[i]? = some oi := by rfl) (ha : a = a' := by (first | (simp only [Act.put, sA, s0, s1]; rfl) | (simp only [Act.put, sA, s0, s1]) | rfl)) :
    wpAnyH P md ops Q S (fuel + 1) listed a w := by
  subst ha
  exact ba_ i hr hi h
/-- The beginning. -/
theorem ar_ {id : Nat} {a : Act} {w : World} {S : World → Prop} (hm : P.follows .mixedOrders = true) (hS : S w.drew)
    (h : S w.drew → wpAnyH P .any ops Q S ops.size (Array.replicate ops.size false) a w.drew) : (Code.region id ops true).wp P Q a w :=
  wp_region_held_drew hm hS h
end
inductive CT where
 | num | tru | txt
 | sl (e:List CT)
 | lst (p:VL->Prop) (e:List CT)
 | sat (p:Value->Prop)
inductive VT (w:World) (X:NP) (K:Nat):CT->Value->Prop
 | num (n:Int):VT w X K .num (.int .i64 n)
 | tru (x:Bool):VT w X K .tru (.bool x)
 | txt (x:ByteArray):VT w X K .txt (.string x)
 | nil (e:List CT):VT w X K (.sl e) (.slice none 0 0)
 | sl (e:List CT) (g o n c:Nat) (f:Nat->Nat->Value) (hg:g<w) (hX:¬X g) (hn:n<=K) (hc:n<=c) (hm:c<=9223372036854775807)
   (hf:∀ k j t,k<n->e[j]?=some t->w.cell? ⟨g,o+(k*e.length+j),none⟩=some (f k j))
   (ht:∀ k j t,k<n->e[j]?=some t->VT w X K t (f k j)):VT w X K (.sl e) (.slice (some (f_ g o)) n c)
 | sat (p:Value->Prop) (v:Value) (h:v.oneCell'=true) (hp:p v):VT w X K (.sat p) v
 | lnil (p:VL->Prop) (e:List CT):VT w X K (.lst p e) (.slice none 0 0)
 | lst (p:VL->Prop) (e:List CT) (g o n c:Nat) (f:Nat->Nat->Value) (hg:g<w) (hX:¬X g) (hn:n<=K) (hc:n<=c) (hm:c<=9223372036854775807)
   (hf:∀ k j t,k<n->e[j]?=some t->w.cell? ⟨g,o+(k*e.length+j),none⟩=some (f k j))
   (ht:∀ k j t,k<n->e[j]?=some t->VT w X K t (f k j)) (hp:∀ k,k<n->p ((List.range e.length).map (f k))):VT w X K (.lst p e) (.slice (some (f_ g o)) n c)
structure Kp (X:NP) (w w':World):Prop where
 os:w'.os=w.os
 tape:w'.tape=w.tape
 output:w'.output=w.output
 size:(w:Nat)<=w'
 block:∀ k,k<w.heap.size->¬X k->w'.heap[k]?=w.heap[k]?
section
variable {X Y:NP} {w w' w2:World} {K K':Nat} {t:CT} {v:Value}
theorem Kp.refl (X:NP) (w:World):Kp X w w:=⟨rfl,rfl,rfl,l_,fun _ _ _=>rfl⟩
theorem Kp.trans (h:Kp X w w') (h2:Kp X w' w2):Kp X w w2:=⟨h2.os.trans h.os,h2.tape.trans h.tape,h2.output.trans h.output,Nat.le_trans h.size h2.size,fun k hk hx=>(h2.block k (lt_ hk h.size) hx).trans (h.block k hk hx)⟩
theorem Kp.mono (h:Kp X w w') (hXY:∀ k,k<w.heap.size->X k->Y k):Kp Y w w':=⟨h.os,h.tape,h.output,h.size,fun k hk hx=>h.block k hk (fun hX=>hx (hXY k hk hX))⟩
theorem Kp.of_below (h:Below w.heap.size w w'):Kp X w w':=⟨h.os,h.tape,h.output,h.size,fun k hk _=>h.block k hk⟩
theorem Kp.below (h:Kp X w w') {B:Nat} (hB:B<=w.heap.size) (hX:∀ k,k<B->¬X k):Below B w w':=⟨h.os,h.tape,h.output,h.size,fun k hk=>h.block k (lt_ hk hB) (hX k hk)⟩
theorem Kp.drew (h:Kp X w w'):Kp X w w'.drew:=⟨h.os,h.tape,h.output,h.size,h.block⟩
theorem Kp.drewN (h:Kp X w w') (m:Nat):Kp X w (w'.drewN m):=⟨h.os,h.tape,h.output,h.size,h.block⟩
theorem Kp.alloc (h:Kp X w w') (o:Obj):Kp X w (w'.alloc o):=h.trans ⟨rfl,rfl,rfl,by simp,fun k hk _=>Below.heap_alloc _ _ _ hk⟩
theorem Kp.setCell (h:Kp X w w') {p:Addr} (hp:X p.block∨w.heap.size<=p.block) (u:Value):Kp X w (w'.setCell p u) :=
 ⟨h.os,h.tape,h.output,by simpa [World.setCell] using h.size,fun k hk hx=>(Below.heap_setCell _ _ _ _ (fun e=>by subst e;rcases hp with hp | hp;exact hx hp;omega)).trans (h.block k hk hx)⟩
theorem Kp.grown {row:Option Nat} (h:Kp X w w') (hg:w'.grownBy w2 row) (hr:∀ k,row=some k->X k∨w.heap.size<=k):Kp X w w2 :=
 ⟨hg.os.trans h.os,hg.tape.trans h.tape,hg.output.trans h.output,Nat.le_trans h.size hg.size,fun k hk hx=>(hg.block k (lt_ hk h.size) (fun e=>by rcases hr k e.symm with hq | hq;exact hx hq;omega)).trans (h.block k hk hx)⟩
theorem Kp.bc_ (h:Kp X w w') (h2:Below w'.heap.size w' w2):Kp X w w2:=h.trans (.of_below h2)
theorem Kp.cell (h:Kp X w w') {b o:Nat} (hb:b<w.heap.size) (hx:¬X b):w'.cell? (f_ b o)=w.cell? (f_ b o):=World.cell?_of_block (w:=w) (h.block b hb hx)
theorem Kp.frozen (h:Kp X w w') {b o:Nat} (hb:b<w.heap.size) (hx:¬X b):w'.frozen? (f_ b o)=w.frozen? (f_ b o):=World.frozen?_of_block (w:=w) (h.block b hb hx)
theorem VT.kept (h:VT w X K t v) (hk:Kp X w w') (hXY:∀ k,k<w.heap.size->¬X k->¬Y k) (hK:K<=K'):VT w' Y K' t v:=by
 induction h with
 | num n=>exact .num n
 | tru x=>exact .tru x
 | txt x=>exact .txt x
 | nil e=>exact .nil e
 | sl e g o n c f hg hX hn hc hm hf ht ih =>
  exact .sl e g o n c f (lt_ hg hk.size) (hXY g hg hX) (Nat.le_trans hn hK) hc hm (fun k j t A0 hj=>(hk.cell hg hX).trans (hf k j t A0 hj)) ih
 | sat p v h hp=>exact .sat p v h hp
 | lnil p e=>exact .lnil p e
 | lst p e g o n c f hg hX hn hc hm hf ht hp ih =>
  exact .lst p e g o n c f (lt_ hg hk.size) (hXY g hg hX) (Nat.le_trans hn hK) hc hm (fun k j t A0 hj=>(hk.cell hg hX).trans (hf k j t A0 hj)) ih hp
theorem VT.up (h:VT w X K t v) (hk:Kp X w w') (hK:K<=K'):VT w' X K' t v:=h.kept hk (fun _ _ h=>h) hK
theorem VT.less (h:VT w X K t v) (hXY:∀ k,k<w.heap.size->Y k->X k):VT w Y K t v:=h.kept (Kp.refl _ _) (fun k hk hx hy=>hx (hXY k hk hy)) (l_)
theorem VT.int (h:VT w X K .num v):∃ n,v=i_ n:=by cases h;exact ⟨_,rfl⟩
theorem VT.bool (h:VT w X K .tru v):∃ x,v=.bool x:=by cases h;exact ⟨_,rfl⟩
theorem VT.str (h:VT w X K .txt v):∃ x,v=.string x:=by cases h;exact ⟨_,rfl⟩
structure SlT (w:World) (X:NP) (K:Nat) (e:List CT) (A:OA) (n c:Nat):Prop where
 le:n<=K
 cap:n<=c
 max:c<=9223372036854775807
 nul:A=none->n=0/\c=0
 at_:∀ ad,A=some ad->∃ g o,ad=(f_ g o)/\g<w/\¬X g/\∃ f:Nat->Nat->Value,(∀ k j t,k<n->e[j]?=some t->w.cell? ⟨g,o+(k*e.length+j),none⟩=some (f k j))/\(∀ k j t,k<n->e[j]?=some t->VT w X K t (f k j))
theorem VT.slice {e:List CT} (h:VT w X K (.sl e) v):∃ A n c,v=.slice A n c/\SlT w X K e A n c:=by
 cases h with
 | nil=>exact ⟨none,0,0,rfl,Nat.zero_le _,l_,o_,fun _=>⟨rfl,rfl⟩,fun _ h=>by cases h⟩
 | sl _ g o n c f hg hX hn hc hm hf ht=>exact ⟨_,n,c,rfl,hn,hc,hm,x_,(fun ad h=>by injection h with h;exact ⟨g,o,h.symm,hg,hX,f,hf,ht⟩)⟩
theorem SlT.vt {e:List CT} {A:OA} {n c:Nat} (h:SlT w X K e A n c):VT w X K (.sl e) (.slice A n c):=by
 cases A with
 | none=>obtain ⟨rfl,rfl⟩:=h.nul rfl;exact .nil e
 | some ad =>
  obtain ⟨g,o,rfl,hg,hX,f,hf,ht⟩:=h.at_ _ rfl;exact .sl e g o n c f hg hX h.le h.cap h.max hf ht
theorem SlT.up {e:List CT} {A:OA} {n c:Nat} (h:SlT w X K e A n c) (hk:Kp X w w') (hK:K<=K'):SlT w' X K' e A n c:=by
 obtain ⟨A',n',c',e',h'⟩:=(h.vt.up hk hK).slice;injection e' with e1 e2 e3;subst e1 e2 e3;exact h'
theorem SlT.kept {e:List CT} {A:OA} {n c:Nat} (h:SlT w X K e A n c) (hk:Kp X w w') (hXY:∀ k,k<w.heap.size->¬X k->¬Y k) (hK:K<=K'):SlT w' Y K' e A n c:=by
 obtain ⟨A',n',c',e',h'⟩:=(h.vt.kept hk hXY hK).slice;injection e' with e1 e2 e3;subst e1 e2 e3;exact h'
theorem SlT.el {e:List CT} {A:OA} {n c k:Nat} (h:SlT w X K e A n c) (hk:k<n):∃ g o,A=some (f_ g o)/\g<w/\¬X g/\∃ f:Nat->Value,(∀ j t,e[j]?=some t->w.cell? ⟨g,o+(k*e.length+j),none⟩=some (f j))/\(∀ j t,e[j]?=some t->VT w X K t (f j)):=by
 cases A with
 | none=>have:=(h.nul rfl).1;omega
 | some ad =>
  obtain ⟨g,o,rfl,hg,hX,f,hf,ht⟩:=h.at_ _ rfl;exact ⟨g,o,rfl,hg,hX,f k,fun j t hj=>hf k j t hk hj,fun j t hj=>ht k j t hk hj⟩
def VTs (w:World) (X:NP) (K:Nat) (ts:List CT) (vs:VL):Prop:=vs.length=ts.length/\∀ (j:Nat) (t:CT),ts[j]?=some t->∃ u,vs[j]?=some u/\VT w X K t u
theorem VTs.kept {ts:List CT} {vs:VL} (h:VTs w X K ts vs) (hk:Kp X w w') (hXY:∀ k,k<w.heap.size->¬X k->¬Y k) (hK:K<=K'):VTs w' Y K' ts vs:=⟨h.1,fun j t hj=>by obtain ⟨u,hu,hv⟩:=h.2 j t hj;exact ⟨u,hu,hv.kept hk hXY hK⟩⟩
theorem VTs.up {ts:List CT} {vs:VL} (h:VTs w X K ts vs) (hk:Kp X w w') (hK:K<=K'):VTs w' X K' ts vs:=h.kept hk (fun _ _ h=>h) hK
theorem VTs.less {ts:List CT} {vs:VL} (h:VTs w X K ts vs) (hXY:∀ k,k<w.heap.size->Y k->X k):VTs w Y K ts vs:=⟨h.1,fun j t hj=>by obtain ⟨u,hu,hv⟩:=h.2 j t hj;exact ⟨u,hu,hv.less hXY⟩⟩
theorem VTs.nil:VTs w X K [] []:=⟨rfl,fun j t h=>by simp at h⟩
theorem VTs.cons {ts:List CT} {vs:VL} (h:VT w X K t v) (hs:VTs w X K ts vs):VTs w X K (t :: ts) (v :: vs):=⟨by simp [hs.1],fun j u hj=>by
 match j,hj with
 | 0,hj=>simp at hj;subst hj;exact ⟨v,rfl,h⟩
 | j+1,hj=>exact hs.2 j u (by simpa using hj)⟩
theorem VTs.head {ts:List CT} {vs:VL} (h:VTs w X K (t :: ts) vs):∃ v us,vs=v :: us/\VT w X K t v/\VTs w X K ts us:=by
 cases vs with
 | nil=>have:=h.1;simp at this
 | cons v us =>
  obtain ⟨u,hu,hv⟩:=h.2 0 t rfl;simp at hu;subst hu;exact ⟨v,us,rfl,hv,by have:=h.1;simpa using this,fun j s hj=>h.2 (j+1) s hj⟩
theorem VTs.end {vs:VL} (h:VTs w X K [] vs):vs=[]:=List.eq_nil_of_length_eq_zero h.1
theorem VT.one (h:VT w X K t v):v.oneCell'=true:=by cases h <;> first | assumption | rfl
theorem VTs.one {ts:List CT} {vs:VL} (h:VTs w X K ts vs):∀ u ∈ vs,u.oneCell'=true:=fun u hu=>by
 obtain ⟨j,hj⟩:=List.getElem?_of_mem hu;have hl:=(e_ hj).1;obtain ⟨u',A0,hv⟩:=h.2 j _ (ge_ (by rw [←h.1];exact hl));rw [hj] at A0;injection A0 with A0;subst A0;exact hv.one
theorem VTs.set {ts:List CT} {vs:VL} (h:VTs w X K ts vs) {j:Nat} (hj:ts[j]?=some t) (hv:VT w X K t v):VTs w X K ts (vs.set j v):=⟨by simp [h.1],fun i s hi=>by
 by_cases hij:j=i
 ·subst hij
  rw [hj] at hi;injection hi with hi;subst hi
  obtain ⟨u,hu,_⟩:=h.2 j t hj
  exact ⟨v,by rw [gs_,if_pos rfl,if_pos (e_ hu).1],hv⟩
 obtain ⟨u,hu,A0⟩:=h.2 i s hi
 exact ⟨u,by rw [gs_,if_neg hij];exact hu,A0⟩⟩
def MT (w:World) (X:NP) (K:Nat) (g o:Nat) (ts:List CT):Prop:=∃ vs,VTs w X K ts vs/\∀ (j:Nat) (u:Value),vs[j]?=some u->w.cell? ⟨g,o+j,none⟩=some u
theorem SlT.mt {e:List CT} {A:OA} {n c k:Nat} (h:SlT w X K e A n c) (hk:k<n):∃ g o,A=some (f_ g o)/\g<w/\¬X g/\MT w X K g (o+k*e.length) e:=by
 obtain ⟨g,o,hA,hg,hX,f,hf,ht⟩:=h.el hk;refine ⟨g,o,hA,hg,hX,(List.range e.length).map f,⟨by simp,fun j t hj=>⟨f j,?_,ht j t hj⟩⟩,fun j u hu=>?_⟩
 ·have:j<e.length:=(e_ hj).1;simp [this]
 have hj:j<e.length:=by have:=(e_ hu).1;simpa using this
 simp [hj] at hu;subst hu;rw [Nat.add_assoc];exact hf j _ (ge_ hj)
theorem SlT.ee_ {base:Nat} {et:TypeId} {e:List CT} {A:OA} {n c:Nat} {xs:VL} (ho:w.ownsRow base et e.length (.slice A n c) n xs) (hb:∀ k,X k->k<base) (hn:n<=K)
  (hx:∀ k j t,k<n->e[j]?=some t->∃ u,xs[k*e.length+j]?=some u/\VT w X K t u):SlT w X K e A n c:=by
 refine ⟨hn,(dc_ ho).1,own_cap ho,fun hA=>?_,fun ad hA=>?_⟩
 ·have h1:=(own_src ho).1 hA;exact ⟨h1,(dc_ ho).2 hA⟩
 subst hA;have A0:=(own_src ho).2 ad rfl;rcases ho.2 with ⟨h',_⟩ | ⟨g,cap,cur,h',hbg,hg,_⟩
 ·cases h'
 injection h' with h1 _ _;injection h1 with h1;subst h1;refine ⟨g,0,rfl,?_,fun A1=>by have:=hb g A1;omega,fun k j=>xs.getD (k*e.length+j) undef,fun k j t hk hj=>?_,fun k j t hk hj=>?_⟩
 ·rcases Nat.lt_or_ge g w with h2 | h2
  ·exact h2
  rw [Array.getElem?_eq_none h2] at hg;cases hg
 ·obtain ⟨u,hu,_⟩:=hx k j t hk hj;have:=A0 _ u hu;rw [Addr.add_lit] at this;show _=some (xs.getD (k*e.length+j) undef)
  rw [this,List.getD_eq_getElem?_getD,hu];rfl
 obtain ⟨u,hu,hv⟩:=hx k j t hk hj;show VT w X K t (xs.getD (k*e.length+j) undef)
 rw [List.getD_eq_getElem?_getD,hu];exact hv
end
end Go.Proofs.YtfolidlmgfhkiaaGreat
