/- Lemmas: each says what a function of the program leaves, under the conditions that it states. -/
import Derived.Test.YtfolidlmgfhkiaaGreatZ02
import Derived.Lib.AppendZerosOnto
import Derived.Laws.Externs
set_option linter.unusedVariables false
set_option linter.unusedSimpArgs false
set_option maxRecDepth 100000
set_option maxHeartbeats 4000000
namespace Go.Proofs.YtfolidlmgfhkiaaGreat.Dl
open Go.RowKit
theorem nan_any (x : Int) (w : World) : Calls Tryz.prog 184 #[.int .i64 x] w fun e w' => e = .returned (.bool false) ∧ Below w.heap.size w w' := by
  go_enter Tryz.func184, Tryz.ntmps184
  go_wp2
  go_ret
  exact ⟨by simp, Below.refl _ _⟩
def cmpI (x y : Int) : Int := if x < y then -1 else if y < x then 1 else 0
theorem cmp_any (x y : Int) (w : World) : Calls Tryz.prog 157 #[.int .i64 x, .int .i64 y] w fun e w' => e = .returned (.int .i64 (cmpI x y)) ∧ Below w.heap.size w w' := by
  by_cases h1 : x < y
  · have HE := Lib.hid (show cmpI x y = -1 by simp [cmpI, h1])
    go_enter Tryz.func157, Tryz.ntmps157
    go_wp2_with fail
    refine (nan_any x _).mono ?_
    rintro e w1 ⟨rfl, hb1⟩
    go_wp2_with fail
    refine (nan_any y _).mono ?_
    rintro e w2 ⟨rfl, hb2⟩
    have hb := hb1.trans (hb2.mono hb1.size)
    go_wp2
    go_ret
    exact ⟨by rw [HE.out]; rfl, hb⟩
  · by_cases h2 : y < x
    · have HE := Lib.hid (show cmpI x y = 1 by simp [cmpI, h1, h2])
      go_enter Tryz.func157, Tryz.ntmps157
      go_wp2_with fail
      refine (nan_any x _).mono ?_
      rintro e w1 ⟨rfl, hb1⟩
      go_wp2_with fail
      refine (nan_any y _).mono ?_
      rintro e w2 ⟨rfl, hb2⟩
      have hb := hb1.trans (hb2.mono hb1.size)
      go_wp2
      go_ret
      exact ⟨by rw [HE.out]; rfl, hb⟩
    · have HE := Lib.hid (show cmpI x y = 0 by simp [cmpI, h1, h2])
      go_enter Tryz.func157, Tryz.ntmps157
      go_wp2_with fail
      refine (nan_any x _).mono ?_
      rintro e w1 ⟨rfl, hb1⟩
      go_wp2_with fail
      refine (nan_any y _).mono ?_
      rintro e w2 ⟨rfl, hb2⟩
      have hb := hb1.trans (hb2.mono hb1.size)
      go_wp2
      go_ret
      exact ⟨by rw [HE.out]; rfl, hb⟩
def orI (x y : Int) : Int := if x = 0 then y else x
theorem or_any (b : Nat) (x y : Int) (w : World) (hb : b < w.heap.size) (h0 : w.cell? ⟨b, 0, none⟩ = some (.int .i64 x)) (h1 : w.cell? ⟨b, 1, none⟩ = some (.int .i64 y)) :
    Calls Tryz.prog 156 #[.slice (some ⟨b, 0, none⟩) 2 2] w fun e w' => e = .returned (.int .i64 (orI x y)) ∧ Below w.heap.size w w' := by
  go_enter Tryz.func156, Tryz.ntmps156
  go_wp2_with fail
  go_loop [8] (fun i => ∃ k : Nat, k ≤ 2 ∧ i = .int .i64 k ∧ (1 ≤ k → x = 0) ∧ (2 ≤ k → y = 0)) (fun i => 2 - (intOf i).toNat)
  case atStart => exact ⟨0, by omega, rfl, by omega, by omega⟩
  case round =>
    obtain ⟨k, hk, rfl, hx, hy⟩ := hrel
    have HX := Lib.hid hx
    have HY := Lib.hid hy
    clear hx hy
    have hk3 : k = 0 ∨ k = 1 ∨ k = 2 := by omega
    rcases hk3 with rfl | rfl | rfl
    · by_cases hx0 : x = 0
      · have g : (x != 0) = false := by simpa using hx0
        have HX0 := Lib.hid hx0
        clear hx0
        go_wp2
        go_round
        case rel => exact ⟨1, by omega, by go_num, fun _ => HX0.out, by omega⟩
        case measure => simp [intOf]
      · have g : (x != 0) = true := by simpa using hx0
        have HO := Lib.hid (show orI x y = x by simp [orI, hx0])
        clear hx0
        go_wp2
        go_ret
        exact ⟨by rw [HO.out]; rfl, Below.refl _ _⟩
    · by_cases hy0 : y = 0
      · have g : (y != 0) = false := by simpa using hy0
        have HY0 := Lib.hid hy0
        clear hy0
        go_wp2
        go_round
        case rel => exact ⟨2, by omega, by go_num, fun _ => HX.out (by omega), fun _ => HY0.out⟩
        case measure => simp [intOf]
      · have g : (y != 0) = true := by simpa using hy0
        have HO := Lib.hid (show orI x y = y by simp [orI, HX.out (by omega)])
        clear hy0
        go_wp2
        go_ret
        exact ⟨by rw [HO.out]; rfl, Below.refl _ _⟩
    · have HO := Lib.hid (show orI x y = 0 by simp [orI, HX.out (by omega), HY.out (by omega)])
      go_wp2
      go_ret
      exact ⟨by rw [HO.out]; rfl, Below.refl _ _⟩
def cmpP (x : Pr) (a b : Int) : Int := orI (cmpI x.a a) (cmpI x.b b)
theorem compare_any (x : Pr) (a b k : Int) (w : World) : Calls Tryz.prog 104 #[.agg #[.int .i64 x.a, .int .i64 x.b, .int .i64 x.cnt], .agg #[.int .i64 a, .int .i64 b, .int .i64 k]] w fun e w' => e = .returned (.int .i64 (cmpP x a b)) ∧ Below w.heap.size w w' := by
  obtain ⟨W, hW⟩ : ∃ W, W = (w.alloc (.cells #[.int .i64 x.a, .int .i64 x.b, .int .i64 x.cnt] 85)).alloc (.cells #[.int .i64 a, .int .i64 b, .int .i64 k] 85) := ⟨_, rfl⟩
  have hbW : Below w.heap.size w W := by rw [hW]; exact (by repeat (first | (with_reducible exact (Below.refl _ _)) | (with_reducible refine Below.drew ?_) | (with_reducible refine below_drewN ?_ _) | (with_reducible refine Below.setCell ?_ ?_ _; rotate_left; (first | omega | (simp <;> omega))) | (with_reducible refine Below.alloc ?_ ?_ _; rotate_left; (first | omega | (simp <;> omega)))))
  have hz : W.heap.size = w.heap.size + 2 := by rw [hW]; simp
  have p0 : W.cell? ⟨w.heap.size, 0, none⟩ = some (.int .i64 x.a) := (by rw [hW, ak_ _ _ _ _ (by simp <;> omega), aj_ _ _ _ _ _ (by simp <;> omega)]; rfl)
  have p1 : W.cell? ⟨w.heap.size, 1, none⟩ = some (.int .i64 x.b) := (by rw [hW, ak_ _ _ _ _ (by simp <;> omega), aj_ _ _ _ _ _ (by simp <;> omega)]; rfl)
  have q0 : W.cell? ⟨w.heap.size + 1, 0, none⟩ = some (.int .i64 a) := (by rw [hW, aj_ _ _ _ _ _ (by simp <;> omega)]; rfl)
  have q1 : W.cell? ⟨w.heap.size + 1, 1, none⟩ = some (.int .i64 b) := (by rw [hW, aj_ _ _ _ _ _ (by simp <;> omega)]; rfl)
  have hl0 : w.heap.size < W.heap.size := by omega
  have hl1 : w.heap.size + 1 < W.heap.size := by omega
  go_enter Tryz.func104, Tryz.ntmps104
  go_wp2_with fail
  rw [← hW]
  clear hW hz
  go_region_held3 (fun w' => w'.cell? ⟨w.heap.size, 0, none⟩ = some (.int .i64 x.a) ∧ w'.cell? ⟨w.heap.size, 1, none⟩ = some (.int .i64 x.b) ∧ w'.cell? ⟨w.heap.size + 1, 0, none⟩ = some (.int .i64 a) ∧ w'.cell? ⟨w.heap.size + 1, 1, none⟩ = some (.int .i64 b))
    (first | exact ⟨p0, p1, q0, q1⟩ | exact ⟨p01, p11, q01, q11⟩ | exact ⟨p02, p12, q02, q12⟩ | exact ⟨p04, p14, q04, q14⟩ | exact ⟨p03 _, p13 _, q03 _, q13 _⟩)
    (first
      | (go_at_call_of 157 (Value.int IntKind.i64 x.a); refine (cmp_any x.a a W.drew).mono ?_; rintro e w1 ⟨rfl, hb1⟩; have hb1 : Below W.heap.size W w1 := (Below.drew (Below.refl _ _)).trans hb1; have p01 := (belc hb1 hl0).trans p0; have p11 := (belc hb1 hl0).trans p1; have q01 := (belc hb1 hl1).trans q0; have q11 := (belc hb1 hl1).trans q1)
      | (go_at_call_of 157 (Value.int IntKind.i64 x.b); refine (cmp_any x.b b w1).mono ?_; rintro e w2 ⟨rfl, hb2⟩; have hz1 := hb1.size; have hb2 : Below W.heap.size W w2 := hb1.trans (hb2.mono hz1); have p02 := (belc hb2 hl0).trans p0; have p12 := (belc hb2 hl0).trans p1; have q02 := (belc hb2 hl1).trans q0; have q12 := (belc hb2 hl1).trans q1; have hl02 : w.heap.size < w2.heap.size := lt_ hl0 hb2.size; have hl12 : w.heap.size + 1 < w2.heap.size := lt_ hl1 hb2.size; have p03 := fun o => (ak_ w2 o _ _ hl02).trans p02; have p13 := fun o => (ak_ w2 o _ _ hl02).trans p12; have q03 := fun o => (ak_ w2 o _ _ hl12).trans q02; have q13 := fun o => (ak_ w2 o _ _ hl12).trans q12)
      | (go_at_call 156; refine (or_any w2.heap.size (cmpI x.a a) (cmpI x.b b) _ (by simp) (by simp) (by simp)).mono ?_; rintro e w4 ⟨rfl, hb4⟩; have hz2 := hb2.size; have hb4 : Below W.heap.size W w4 := (hb2.alloc hz2 _).trans (hb4.mono (by simp; omega)); have p04 := (belc hb4 hl0).trans p0; have p14 := (belc hb4 hl0).trans p1; have q04 := (belc hb4 hl1).trans q0; have q14 := (belc hb4 hl1).trans q1))
  all_goals
    go_wp2
    go_ret
    exact ⟨rfl, hbW.trans (hb4.mono hbW.size)⟩
end Go.Proofs.YtfolidlmgfhkiaaGreat.Dl
namespace Go.Proofs.YtfolidlmgfhkiaaGreat.Dl
open Go.RowKit Go.Proofs.Tryz
theorem cmpP_neg {x:Pr} {a b:Int} (h:Bef x a b):cmpP x a b=-1:=by
 unfold Bef at h;unfold cmpP orI;rcases h with h | ⟨h,h2⟩
 ·have:cmpI x.a a=-1:=by simp [cmpI,h]
  simp [this]
 have e:cmpI x.a a=0:=by simp only [cmpI];rw [if_neg o_,if_neg o_]
 have:cmpI x.b b=-1:=by simp [cmpI,h2]
 simp [e,this]
theorem cmpP_nn {x:Pr} {a b:Int} (h:¬Bef x a b):(cmpP x a b=0/\isB x a b=true)∨(cmpP x a b=1/\isB x a b=false):=by
 unfold Bef at h;unfold cmpP orI isB;by_cases h1:x.a=a
 ·have e:cmpI x.a a=0:=by simp only [cmpI];rw [if_neg o_,if_neg o_]
  rw [if_pos e];by_cases h2:x.b=b
  ·left;refine ⟨?_,by simp [h1,h2]⟩;simp only [cmpI];rw [if_neg o_,if_neg o_]
  right;refine ⟨?_,by simp [h2]⟩;simp only [cmpI];rw [if_neg o_,if_pos o_]
 have e:cmpI x.a a=1:=by simp only [cmpI];rw [if_neg o_,if_pos o_]
 right;refine ⟨by rw [if_neg o_];exact e,by simp [h1]⟩
theorem bsearch_any (A:OA) (n c:Nat) (l:List Pr) (ma mb:Int) (w:World) (hs:Sl w w 3 Pr.cells A n l) (hasc:Sorted l) (hn:n<=1000000) :
  Calls prog 103 #[.slice A n c,.agg #[i_ ma,i_ mb,i_ 0],.func (.func 104) #[] #[]] w fun e w'=>e=.returned (.tuple #[i_ (lowb l ma mb),.bool (hit l ma mb)])/\Below w w w':=by
 have HL:=q_ hs.len;have HA:=q_ hasc;clear hasc;obtain ⟨W,hW⟩:=ex_ (w.alloc (.cells #[i_ ma,i_ mb,i_ 0] 85));have Ag:Below w w W:=by rw [hW];exact (b_).alloc (l_) _
 have Ac:(w:Nat)<W:=by rw [hW];simp
 have T0:=h_ (W.cell? (a_ w)=some (i_ ma)) (by rw [hW,aj_ _ _ _ _ _ y_];rfl);have T1:=h_ (W.cell? (f_ w 1)=some (i_ mb)) (by rw [hW,aj_ _ _ _ _ _ y_];rfl);have T2:=h_ (W.cell? (f_ w 2)=some (i_ 0)) (by rw [hW,aj_ _ _ _ _ _ y_];rfl);go_enter func103,ntmps103;go_wp2_with fail;rw [←hW];clear hW;go_loopw [9,10,11] (fun i j h wr=>∃ a b:Nat,a<=b/\b<=n/\i=i_ a/\j=i_ b/\Hid (∀ (k:Nat) (x:Pr),k<a->l[k]?=some x->Bef x ma mb)/\Hid (∀ (k:Nat) (x:Pr),b<=k->l[k]?=some x->¬Bef x ma mb)/\Below W W wr) (fun i j _ _=>(intOf j).toNat - (intOf i).toNat)
 case atStart=>exact ⟨0,n,o_,o_,rfl,rfl,by intro k x h;omega,by intro k x h hx;have:=(e_ hx).1;rw [HL.o] at this;omega,b_⟩
 obtain ⟨a,b,Ap,Aq,rfl,rfl,Aj,Ab,hb⟩:=hrel;have t0:=(belc hb Ac).trans T0.o;have t1:=(belc hb Ac).trans T1.o;have t2:=(belc hb Ac).trans T2.o;have A6:(w:Nat)<wr:=by have:=hb.size;omega
 have A4:Below w w wr:=Ag.trans (hb.mono Ag.size);by_cases hlt:a<b
 ·have Al:(a:Int)<b:=by omega
  obtain ⟨h,hh⟩:∃ h:Nat,h=(a+b) / 2:=⟨_,rfl⟩;have Am:((a:Int)+(b:Int)) / 2=(h:Int):=by omega
  have h0:a<=h:=by omega
  have h1:h<b:=by omega
  obtain ⟨ab,ao,rfl,A1,A5⟩:=hs.at_ o_;obtain ⟨x,hx⟩:∃ x,l[h]?=some x:=⟨_,ge_ (by rw [HL.o];omega)⟩;have c0:wr.cell? ⟨ab,ao+h*3,none⟩=some (i_ x.a):=(belc A4 A1).trans (A5 h x hx 0 _ rfl);have c1:wr.cell? ⟨ab,ao+h*3+1,none⟩=some (i_ x.b):=(belc A4 A1).trans (A5 h x hx 1 _ rfl);have c2:wr.cell? ⟨ab,ao+h*3+2,none⟩=some (i_ x.cnt):=(belc A4 A1).trans (A5 h x hx 2 _ rfl);have HX:=q_ hx;have As:(h:Int)<(n:Int):=by omega
  have Ar:(0:Int)<=(h:Int):=by omega
  clear A5 hx hh;obtain ⟨z,hz⟩:=ex_ (cmpP x ma mb);have HZ:=q_ hz;clear hz;go_upto_region 5 with fail;go_cut [31] (fun An wx=>An=.bool (decide (z<0))/\Hid (Below wr wr wx))
  case first =>
   go_region_held3 (fun w'=>w'.cell? ⟨ab,ao+h*3,none⟩=some (i_ x.a)/\w'.cell? ⟨ab,ao+h*3+1,none⟩=some (i_ x.b)/\w'.cell? ⟨ab,ao+h*3+2,none⟩=some (i_ x.cnt)/\w'.cell? (a_ w)=some (i_ ma)/\w'.cell? (f_ w 1)=some (i_ mb)/\w'.cell? (f_ w 2)=some (i_ 0))
    (first | exact ⟨c0,c1,c2,t0,t1,t2⟩ | exact ⟨A8,A9,Aa,Ad,Ae,Af⟩)
    (first | (go_at_call 104;refine (compare_any x ma mb 0 wr.drew).mono ?_;rintro e w1 ⟨rfl,A0⟩;rw [←HZ.o];have A0:Below wr wr w1:=(Below.drew (b_)).trans A0;have A2:ab<wr:=lt_ A1 A4.size;have A8:=(belc A0 A2).trans c0;have A9:=(belc A0 A2).trans c1;have Aa:=(belc A0 A2).trans c2;have Ad:=(belc A0 A6).trans t0;have Ae:=(belc A0 A6).trans t1;have Af:=(belc A0 A6).trans t2))
   all_goals
    go_wp2_with fail;go_meet;exact ⟨rfl,A0⟩
  obtain ⟨rfl,Ah⟩:=hcut
  rename World=>w1
  by_cases hxm:Bef x ma mb
  ·have g:decide (z<0)=true:=by rw [HZ.o,cmpP_neg hxm];rfl
   have A7:=q_ hxm;rw [g];clear hxm g;go_wp2;go_roundw
   case rel =>
    refine ⟨h+1,b,o_,o_,by go_num,rfl,fun k y hk hy=>?_,Ab,hb.trans (Ah.o.mono hb.size)⟩;by_cases hkh:k=h
    ·subst hkh;rw [HX.o] at hy;injection hy with hy;subst hy;exact A7.o
    have h1:=HA.o k h y x o_ hy HX.o;have h2:=A7.o;unfold Bef at *;omega
   case measure=>simp [intOf];omega
  have g:decide (z<0)=false:=by rw [HZ.o];rcases cmpP_nn hxm with ⟨e,_⟩ | ⟨e,_⟩ <;> rw [e] <;> rfl
  have A7:=q_ hxm;rw [g];clear hxm g;go_wp2;go_roundw
  case rel =>
   refine ⟨a,h,o_,o_,rfl,by go_num,Aj,fun k y hk hy=>?_,hb.trans (Ah.o.mono hb.size)⟩;by_cases hkh:k=h
   ·subst hkh;rw [HX.o] at hy;injection hy with hy;subst hy;exact A7.o
   have h1:=HA.o h k x y o_ HX.o hy;have h2:=A7.o;unfold Bef at *;omega
  case measure=>simp [intOf];omega
 obtain rfl:a=b:=by omega
 have A3:lowb l ma mb=a:=lowb_of (by rw [HL.o];omega) Aj.o (fun x hx=>Ab.o a x (l_) hx);by_cases han:a<n
 ·have Ak:(a:Int)<n:=by omega
  obtain ⟨ab,ao,rfl,A1,A5⟩:=hs.at_ o_;obtain ⟨x,hx⟩:∃ x,l[a]?=some x:=⟨_,ge_ (by rw [HL.o];omega)⟩;have c0:wr.cell? ⟨ab,ao+a*3,none⟩=some (i_ x.a):=(belc A4 A1).trans (A5 a x hx 0 _ rfl);have c1:wr.cell? ⟨ab,ao+a*3+1,none⟩=some (i_ x.b):=(belc A4 A1).trans (A5 a x hx 1 _ rfl);have c2:wr.cell? ⟨ab,ao+a*3+2,none⟩=some (i_ x.cnt):=(belc A4 A1).trans (A5 a x hx 2 _ rfl);have Ai:¬Bef x ma mb:=Ab.o a x (l_) hx;obtain ⟨z,hz⟩:=ex_ (cmpP x ma mb);have HT:=q_ (show hit l ma mb=(z == 0) by
   rw [hit_at (by rw [A3];exact hx),hz]
   rcases cmpP_nn Ai with ⟨e,f⟩ | ⟨e,f⟩ <;> rw [e,f] <;> rfl)
  have HP:=q_ A3;have HZ:=q_ hz;have Ao:(0:Int)<=(a:Int):=by omega
  clear A5 hx A3 Ai hz;go_wp2_with fail;go_region_held3 (fun w'=>w'.cell? ⟨ab,ao+a*3,none⟩=some (i_ x.a)/\w'.cell? ⟨ab,ao+a*3+1,none⟩=some (i_ x.b)/\w'.cell? ⟨ab,ao+a*3+2,none⟩=some (i_ x.cnt)/\w'.cell? (a_ w)=some (i_ ma)/\w'.cell? (f_ w 1)=some (i_ mb)/\w'.cell? (f_ w 2)=some (i_ 0))
   (first | exact ⟨c0,c1,c2,t0,t1,t2⟩ | exact ⟨A8,A9,Aa,Ad,Ae,Af⟩)
   (first | (go_at_call 104;refine (compare_any x ma mb 0 wr.drew).mono ?_;rintro e w1 ⟨rfl,A0⟩;rw [←HZ.o];have A0:Below wr wr w1:=(Below.drew (b_)).trans A0;have A2:ab<wr:=lt_ A1 A4.size;have A8:=(belc A0 A2).trans c0;have A9:=(belc A0 A2).trans c1;have Aa:=(belc A0 A2).trans c2;have Ad:=(belc A0 A6).trans t0;have Ae:=(belc A0 A6).trans t1;have Af:=(belc A0 A6).trans t2))
  all_goals
   go_wp2;go_ret2;exact ⟨by rw [HT.o,HP.o];rfl,A4.trans (A0.mono A4.size)⟩
 obtain rfl:a=n:=by omega
 have HT:=h_ (hit l ma mb=false) (hit_none (by rw [A3,HL.o];exact l_));have HP:=q_ A3;clear A3;go_wp2;go_quiet (fail);go_wp2;go_ret2;exact ⟨by rw [HT.o,HP.o];rfl,below_drewN A4 _⟩
theorem search_any (A:OA) (n c:Nat) (l:List Pr) (a b:Int) (w:World) (hs:Sl w w 3 Pr.cells A n l) (hasc:Sorted l) (hn:n<=1000000) :
  Calls prog 65 #[.agg #[.slice A n c],i_ a,i_ b] w fun e w'=>e=.returned (.tuple #[i_ (lowb l a b),.bool (hit l a b)])/\Below w w w':=by
 go_enter func65,ntmps65;go_wp2_with fail;refine (bsearch_any A n c l a b _ ((hs.below ((b_).alloc (l_) _)).mono t_) hasc hn).mono ?_;rintro e w1 ⟨rfl,A0⟩;have hb:Below w w w1:=((b_).alloc (l_) _).trans (A0.mono t_);go_wp2;go_ret2;exact ⟨rfl,hb⟩
theorem ew_ (A:OA) (n c:Nat) (ts:List Pr) (a b:Int) (w:World) (hs:Sl w w 3 Pr.cells A n ts) (hsort:Sorted ts) (hn:n<=1000000) :
  Calls prog 30 #[.agg #[.slice A n c],i_ a,i_ b] w fun e w'=>e=.returned (i_ (countP ts a b))/\Below w w w':=by
 have HS:=q_ hsort;have HN:=q_ hs.len;clear hsort;go_enter func30,ntmps30;go_wp2_with fail;refine (search_any A n c ts a b _ ((hs.below ((b_).alloc (l_) _)).mono t_) HS.o hn).mono ?_;rintro e w' ⟨rfl,hb⟩;have A0:Below w w w':=((b_).alloc (l_) _).trans (hb.mono t_);have hz:=hb.size;simp only [World.size_alloc] at hz;have hp:w'.cell? (a_ w)=some (.slice A n c):=(hb.cell (p:=(a_ w)) t_).trans t_;by_cases hh:hit ts a b=true
 ·obtain ⟨t,ht,_,_⟩:=hit_some hh;have A2:lowb ts a b<n:=by rw [←HN.o];exact (e_ ht).1
  have HV:=q_ (count_hit ht hh);obtain ⟨k,hk⟩:=ex_ (lowb ts a b);rw [←hk] at ht A2;rw [←hk];obtain ⟨ab,ao,rfl,A3,A1⟩:=hs.at_ o_;have c1:w'.cell? ⟨ab,ao+k*3+2,none⟩=some (i_ t.cnt):=(A0.cell (p:=(f_ ab _)) A3).trans (A1 k t ht 2 _ rfl);have HH:=q_ hh;clear ht A1 hk hh;rw [HH.o];go_wp2;go_ret;exact ⟨by rw [HV.o];rfl,A0⟩
 have hh:hit ts a b=false:=by simpa using hh
 have HV:=q_ (count_miss hh);have HH:=q_ hh;clear hh;rw [HH.o];go_wp2;go_ret;exact ⟨by rw [HV.o];rfl,A0⟩
end Go.Proofs.YtfolidlmgfhkiaaGreat.Dl
namespace Go.Proofs.YtfolidlmgfhkiaaGreat
open Go.RowKit Go.Proofs.Tryz
namespace InsTrk
theorem infoE:(prog.info? 85).map (fun i=>(i.zero,i.size,i.bytes))=some (some (.agg #[i_ 0,i_ 0,i_ 0]),3,24):=by kernel_rfl
theorem sizeE:(prog.info? 85).map (·.size)=some 3:=by kernel_rfl
theorem end_nil (cs:VL) (base vb:Nat) (w:World) (hbase:base<=w) (hcs:cs.length=3) (hvb:w.heap[vb]?=some (.cells cs.toArray 85 (0,0))) (h1:∀ u ∈ cs,u.oneCell'=true) :
  Calls prog 66 #[.slice none 0 0,i_ 0,.slice (some (a_ vb)) 1 1] w fun e w'=>∃ v',e=.returned v'/\w'.ownsRow base 85 3 v' 1 cs/\w.grownBy w' none:=by
 obtain ⟨i0,hi,A2,A3,A4⟩:=info_parts infoE;have HC:=q_ hcs;have HV:=q_ hvb;clear hcs hvb;go_enter func66,ntmps66;go_wp2_with (at_builtin;refine wpList_append_own _ rfl _ _ 71 rfl base 85 i0 _ 3 24 underlying71 hi A2 A3 A4 rfl d_ _ _ _ rfl (World.ownsRow_nil _ _ _ _) (a_ vb) 1 1 cs rfl (by rw [HC.o]) (World.news_of_block HV.o) h1 m_ o_ hbase ?_;intro v' w1 A1 A0 _);go_ret;exact ⟨_,rfl,A1,A0⟩
theorem end_some (g n cap:Nat) (xs cs:VL) (base vb:Nat) (w:World) (hown:w.ownsRow base 85 3 (.slice (some (a_ g)) n cap) n xs) (_hnc:n<=cap) (_hcm:cap<=9223372036854775807) (hn:n<=1000000) (hbase:base<=w)
  (hcs:cs.length=3) (hvb:w.heap[vb]?=some (.cells cs.toArray 85 (0,0))) (h1:∀ u ∈ cs,u.oneCell'=true) :
  Calls prog 66 #[.slice (some (a_ g)) n cap,i_ n,.slice (some (a_ vb)) 1 1] w fun e w'=>∃ v',e=.returned v'/\w'.ownsRow base 85 3 v' (n+1) (xs ++ cs)/\w.grownBy w' (some g):=by
 obtain ⟨i0,hi,A2,A3,A4⟩:=info_parts infoE;have HC:=q_ hcs;have HV:=q_ hvb;clear hcs hvb;by_cases hcap:cap=n;all_goals
  go_enter func66,ntmps66;go_wp2_with (at_builtin;refine wpList_append_own _ rfl _ _ 71 rfl base 85 i0 _ 3 24 underlying71 hi A2 A3 A4 rfl d_ _ _ _ rfl hown (a_ vb) 1 1 cs rfl (by rw [HC.o]) (World.news_of_block HV.o) h1 m_ o_ hbase ?_;intro v' w1 A1 A0 _);go_ret;exact ⟨_,rfl,A1,A0⟩
theorem shift (g n cap i:Nat) (cur xs cs:VL) (vb:Nat) (w:World) (hg:w.heap[g]?=some (.cells cur.toArray 85 (0,0))) (hcur:cur.length=cap*3) (hx:cur.take (n*3)=xs)
  (hi:i<n) (hroom:n+1<=cap) (hcm:cap<=9223372036854775807) (hn:n<=1000000)
  (hcs:cs.length=3) (hvb:w.heap[vb]?=some (.cells cs.toArray 85 (0,0))) (hne:vb≠g) (h1:∀ u ∈ cs,u.oneCell'=true) (h1x:∀ u ∈ xs,u.oneCell'=true) :
  Calls prog 66 #[.slice (some (a_ g)) n cap,i_ i,.slice (some (a_ vb)) 1 1] w fun e w' =>
   e=.returned (.slice (some (a_ g)) (n+1) cap)/\Hid (w'.heap[g]?=some (.cells (splice (splice cur ((i+1)*3) (xs.drop (i*3))) (i*3) cs).toArray 85 (0,0)))/\w.grownBy w' (some g):=by
 have Aa:xs.length=n*3:=by rw [←hx,List.length_take,hcur];omega
 have A9:w.shape? vb=some (85,3):=by simp [World.shape?,hvb,hcs]
 have A7:w.shape? g=some (85,cap*3):=by simp [World.shape?,hg,hcur]
 have Ad:w.frozen? (a_ vb)=false:=by simp [World.frozen?,hvb]
 have Ae:w.frozen? (f_ vb 3)=false:=by simp [World.frozen?,hvb]
 have Ah:∀ lb cb,(callFunc 105 #[.slice (some (a_ vb)) 1 1,.slice (some ⟨g,(i+1)*3,none⟩) lb cb]).run prog w=.ok (.value (.bool false)) w:=fun lb cb=>by
  rw [run_callFunc_extern func105 k_ k_ k_ (e:=Extern.SlicesOverlaps.overlaps #[71,71] #[4]) k_,
   Lib.run_overlaps_apart w 71 4 85 underlying71 3 (fun w=>k_) (a_ vb) ⟨g,(i+1)*3,none⟩ 1 1 lb cb hne _ _ _ _ A9 A7 o_ Ad Ae]
  rfl
 have HG:=q_ hg;have HC:=q_ hcs;have HV:=q_ hvb;have HX:=q_ hx;have A6:=q_ Aa;have A5:=q_ hcur;have Ak:¬(cap=i+1):=by omega
 have Al:¬(cap=i):=by omega
 clear hg hcs hvb A9 A7 hx Aa hcur;go_enter func66,ntmps66;go_wp2_with (simp only [Ah]);have A2:∀ (j:Nat) (u:Value),(xs.drop (i*3))[j]?=some u->w.drew.cell? ((⟨g,i*3,none⟩:Addr).add j)=some u:=fun j u hu=>by
  rw [Addr.add_lit];show w.cell? _=_
  rw [cell_of_row w g _ _ _ _ HG.o];rw [←HX.o,List.getElem?_drop,List.getElem?_take] at hu;split at hu
  ·simpa using hu
  cases hu
 have Aj:IntKind.i64.wrap ((i:Int)+1)=(i:Int)+1:=IntWalk.i64_in _ o_;have Ab:(0:Int)<=(i:Int)+1:=by omega
 have hin:i<=n:=by omega
 have Ai:((i:Int)+1).toNat=i+1:=by omega
 have Ac:(i:Int)<=(n:Int)+1:=by omega
 go_region_law (refine step_copy_N rfl _ _ 71 71 rfl 85 3 underlying71 sizeE g ((i+1)*3) (n - i) (cap - (i+1)) ⟨g,i*3,none⟩ (n+1 - i) (cap - i) v_ v_ cur 85 HG.o (xs.drop (i*3)) (by rw [List.length_drop,A6.o,show Nat.min (n+1 - i) (n - i)=n - i from Nat.min_eq_right o_];omega) A2 (by rw [List.length_drop,A6.o,A5.o];omega) (fun u hu=>h1x u (List.mem_of_mem_drop hu)) ?_;intro w1 Af A0);clear Aj Ab Ai Ac;have A3:(splice cur ((i+1)*3) (xs.drop (i*3))).length=cap*3:=by rw [length_splice _ _ _ (by rw [List.length_drop,A6.o,A5.o];omega),A5.o]
 have A4:w1.heap[vb]?=some (.cells cs.toArray 85 (0,0)):=(A0.block vb (by have h:=HV.o;rcases Nat.lt_or_ge vb w with h' | h';exact h';rw [Array.getElem?_eq_none h'] at h;cases h) (by simpa using hne)).trans HV.o;have HL:=q_ A3;have HW:=q_ A4;clear A3 A4 A2;go_wp2_with (with_reducible refine wpList_copy_N rfl _ _ 71 71 rfl 85 3 underlying71 sizeE g (i*3) (n+1 - i) (cap - i) (a_ vb) 1 1 rfl rfl (splice cur ((i+1)*3) (xs.drop (i*3))) 85 Af.o cs (by rw [HC.o,show Nat.min 1 (n+1 - i)=1 from Nat.min_eq_left o_]) (fun j u hu=>by rw [Addr.add_lit,cell_of_row _ _ _ _ _ _ HW.o];simpa using hu) (by rw [HC.o,HL.o];omega) h1 ?_;intro w2 Ag A1);go_ret;exact ⟨rfl,Ag,⟨A1.os.trans A0.os,A1.tape.trans A0.tape,A1.output.trans A0.output,Nat.le_trans A0.size A1.size,fun k hk A8=>(A1.block k (lt_ hk A0.size) A8).trans (A0.block k hk A8)⟩⟩
theorem grow (g n cap i:Nat) (cur xs cs:VL) (vb:Nat) (w:World) (hg:w.heap[g]?=some (.cells cur.toArray 85 (0,0))) (hcur:cur.length=cap*3) (hx:cur.take (n*3)=xs)
  (hi:i<n) (hroom:cap<n+1) (hnc:n<=cap) (hn:n<=1000000)
  (hcs:cs.length=3) (hvb:w.heap[vb]?=some (.cells cs.toArray 85 (0,0))) (h1:∀ u ∈ cs,u.oneCell'=true) (h1x:∀ u ∈ xs,u.oneCell'=true) :
  Calls prog 66 #[.slice (some (a_ g)) n cap,i_ i,.slice (some (a_ vb)) 1 1] w fun e w' =>
   ∃ (G:Nat) (row:VL),n+1<=G/\G<=9223372036854775807/\row.length=G*3/\row.take (i*3)=xs.take (i*3)/\e=.returned (.slice (some (a_ w)) (n+1) G) ∧
    Hid (w'.heap[w.heap.size]?=some (.cells (splice (splice row (i*3) cs) ((i+1)*3) (xs.drop (i*3))).toArray 85 (0,0)))/\w.grownBy w' none:=by
 obtain ⟨i0,Ak,A8,Ap,Ag⟩:=info_parts infoE;have Ac:xs.length=n*3:=by rw [←hx,List.length_take,hcur,Nat.min_eq_left (Nat.mul_le_mul_right _ hnc)]
 have AA:g<w:=by rcases Nat.lt_or_ge g w with h' | h';exact h';rw [Array.getElem?_eq_none h'] at hg;cases hg
 have AC:vb<w:=by rcases Nat.lt_or_ge vb w with h' | h';exact h';rw [Array.getElem?_eq_none h'] at hvb;cases hvb
 have Af:∀ (j:Nat) (u:Value),xs[j]?=some u->w.cell? (f_ g j)=some u:=fun j u hu=>by
  rw [cell_of_row w g _ _ _ _ hg];rw [←hx,List.getElem?_take] at hu;split at hu
  ·simpa using hu
  cases hu
 have Al:(n:Int)+1 - (i:Int)=((n+1 - i:Nat):Int):=by omega
 have Ae:i+(n+1 - i)=n+1:=by omega
 have A6:(Builtin.firstCells i0.size i (.slice (some (a_ g)) i cap)).run prog w.drew=.ok (xs.take (i*3)).toArray w.drew:=by
  rw [Ap];exact run_firstCells_some w.drew 3 i (a_ g) i cap (xs.take (i*3)) (by rw [List.length_take,Ac];omega) (fun j v hj=>by
   rw [Addr.add_lit]
   rw [List.getElem?_take] at hj
   split at hj
   ·rw [Nat.zero_add];exact Af j v hj
   cases hj)
 have Aa:∀ ty,(Builtin.append_ #[71,3] ty #[.slice (some (a_ g)) i cap,i_ ((n:Int)+1 - (i:Int))]).run prog w =
   .ok (.slice (some (a_ w)) (n+1) (grownCap w (n+1) cap 85)) (w.drew.alloc (.cells ((xs.take (i*3)).toArray ++ Builtin.zeroCells (.agg #[i_ 0,i_ 0,i_ 0]:Value).cells (n+1 - i) ++ Builtin.zeroCells (.agg #[i_ 0,i_ 0,i_ 0]:Value).cells (grownCap w (n+1) cap 85 - (n+1))) 85)):=fun ty=>by
  have h:=Lib.run_append_grow_zeros w 71 3 ty 85 i0 _ .i64 .i64 underlying71 underlying3 Ak A8 (some (a_ g)) i cap (xs.take (i*3)) A6 (n+1 - i) o_ o_ o_ o_ (by rw [Ag];omega) (by rw [Ag,Ae];exact growslice_fits hroom o_);rw [Ae] at h;rw [Al];exact h
 obtain ⟨G,hG⟩:=ex_ (grownCap w (n+1) cap 85);obtain ⟨row,A2⟩:∃ row:VL,row=((xs.take (i*3)).toArray ++ Builtin.zeroCells (.agg #[i_ 0,i_ 0,i_ 0]:Value).cells (n+1 - i) ++ Builtin.zeroCells (.agg #[i_ 0,i_ 0,i_ 0]:Value).cells (G - (n+1))).toList:=⟨_,rfl⟩;have Av:n+1<=G:=by rw [hG];exact grownCap_ge w _ _ _
 have Ad:G<=9223372036854775807:=by
  have:=grownCap_le_maxLen w (n+1) cap 85 m_;rw [←hG] at this;unfold maxLen at this;omega
 have Ab:(xs.take (i*3)).length=i*3:=by rw [List.length_take,Ac];omega
 have Ao:(Value.cells (.agg #[i_ 0,i_ 0,i_ 0])).size=3:=rfl;have Ai:row.length=G*3:=by
  rw [A2];simp only [Array.toList_append,List.length_append,Array.length_toList,size_zeroCells,Ab,Ao];omega
 have Aj:row.take (i*3)=xs.take (i*3):=by
  rw [A2];simp only [Array.toList_append,List.append_assoc];rw [List.take_append_of_le_length (by rw [Ab];exact l_),List.take_of_length_le (by rw [Ab];exact l_)]
 rw [←hG] at Aa;have A3:((xs.take (i*3)).toArray ++ Builtin.zeroCells (.agg #[i_ 0,i_ 0,i_ 0]:Value).cells (n+1 - i) ++ Builtin.zeroCells (.agg #[i_ 0,i_ 0,i_ 0]:Value).cells (G - (n+1)))=row.toArray:=by rw [A2]
 rw [A3] at Aa;have HG:=q_ hg;have HC:=q_ hcs;have HV:=q_ hvb;have Ah:=q_ Ac;have As:=q_ Af;have A9:=q_ Ai;have Aq:=q_ Aj;have HB:Hid ((w.alloc (.cells row.toArray 85)).drew.heap[w.heap.size]?=some (.cells row.toArray 85 (0,0))):=by exact heap_alloc_new w _
 have HR:=q_ Aa;have AG:¬(cap=i):=by omega
 have AF:¬(G=i):=by omega
 have Au:¬(G=i+1):=by omega
 clear hg hcs hvb hx Ac hcur Af Al Ae A6 A2 A3 Ai Aj Ab Ao Aa Ak A8 Ap Ag hG;go_enter func66,ntmps66;have Am:(w.alloc (.cells row.toArray 85)).drew.heap[vb]?=some (.cells cs.toArray 85 (0,0)):=(Below.heap_alloc w _ vb AC).trans HV.o;have Ar:=q_ Am;clear Am;go_wp2_with (first | (at_builtin;refine Lib.wpList_append_run _ rfl _ _ _ _ rfl _ _ rfl rfl _ _ (HR.o _) ?_) | (with_reducible refine wpList_copy_N rfl _ _ 71 71 rfl 85 3 underlying71 sizeE w (i*3) (n+1 - i) (G - i) (a_ vb) 1 1 rfl rfl row 85 HB.o cs (by rw [HC.o,show Nat.min 1 (n+1 - i)=1 from Nat.min_eq_left o_]) (fun j u hu=>by rw [Addr.add_lit,cell_of_row _ _ _ _ _ _ Ar.o];simpa using hu) (by rw [HC.o,A9.o];omega) h1 ?_;intro w1 Ay A0));have A4:g<(w.alloc (.cells row.toArray 85)).drew.heap.size:=by show g<(w.alloc (.cells row.toArray 85)).heap.size;simp;omega
 have An:∀ (j:Nat) (u:Value),xs[j]?=some u->w1.cell? (f_ g j)=some u:=fun j u hu=>by
  have e1:=A0.block g A4 (by intro e;injection e;omega);have e2:w1.heap[g]?=w.heap[g]?:=e1.trans (Below.heap_alloc w _ g AA);rw [World.cell?_of_block (w:=w) e2];exact As.o j u hu
 have A5:(splice row (i*3) cs).length=G*3:=by rw [length_splice _ _ _ (by rw [HC.o,A9.o];omega),A9.o]
 have A7:∀ (j:Nat) (u:Value),(xs.drop (i*3))[j]?=some u->w1.drew.cell? ((⟨g,i*3,none⟩:Addr).add j)=some u:=fun j u hu=>by
  rw [Addr.add_lit];rw [List.getElem?_drop] at hu;exact An _ u hu
 have HL:=q_ A5;have AD:IntKind.i64.wrap ((i:Int)+1)=(i:Int)+1:=IntWalk.i64_in _ o_;have Aw:(0:Int)<=(i:Int)+1:=by omega
 have hin:i<=n:=by omega
 have AB:((i:Int)+1).toNat=i+1:=by omega
 have Ax:(i:Int)<=(n:Int):=by omega
 clear A5 An A4;go_region_law (refine step_copy_N rfl _ _ 71 71 rfl 85 3 underlying71 sizeE w ((i+1)*3) (n - i) (G - (i+1)) ⟨g,i*3,none⟩ (n - i) (cap - i) v_ v_ (splice row (i*3) cs) 85 Ay.o (xs.drop (i*3)) (by rw [List.length_drop,Ah.o,show Nat.min (n - i) (n - i)=n - i from Nat.min_eq_left (l_)];omega) A7 (by rw [List.length_drop,Ah.o,HL.o];omega) (fun u hu=>h1x u (List.mem_of_mem_drop hu)) ?_;intro w2 Az A1);clear AD Aw AB Ax;go_wp2;go_ret;have AE:=A0.size;have A8:(w.alloc (.cells row.toArray 85)).drew.heap.size=w+1:=by show (w.alloc (.cells row.toArray 85)).heap.size=_;simp
 rw [A8] at AE;refine ⟨G,row,Av,Ad,A9.o,Aq.o,rfl,Az,⟨A1.os.trans A0.os,A1.tape.trans A0.tape,A1.output.trans A0.output,?_,fun k hk _=>?_⟩⟩
 ·have h2:(w1:Nat)<=w2:=A1.size;omega
 exact (A1.block k (show k<w1 by omega) (by intro e;injection e;omega)).trans ((A0.block k (by rw [A8];omega) (by intro e;injection e;omega)).trans (Below.heap_alloc w _ k hk))
theorem any (v:Value) (n i:Nat) (xs cs:VL) (base vb:Nat) (w:World) (hown:w.ownsRow base 85 3 v n xs) (hi:i<=n) (hn:n<=1000000) (hbase:base<=w)
  (hcs:cs.length=3) (hvb:w.heap[vb]?=some (.cells cs.toArray 85 (0,0))) (hne:v.ownBlock≠some vb) (h1:∀ u ∈ cs,u.oneCell'=true) (h1x:∀ u ∈ xs,u.oneCell'=true) :
  Calls prog 66 #[v,i_ i,.slice (some (a_ vb)) 1 1] w fun e w' =>
   ∃ A' c',e=.returned (.slice A' (n+1) c')/\w'.ownsRow base 85 3 (.slice A' (n+1) c') (n+1) (xs.take (i*3) ++ cs ++ xs.drop (i*3))/\w.grownBy w' v.ownBlock:=by
 have A1:=hown.1;rcases hown.2 with ⟨rfl,rfl⟩ | ⟨g,cap,cur,rfl,hbg,hg,hnc,hcm,hcs',htake⟩
 ·obtain rfl:i=0:=by omega
  obtain rfl:xs=[]:=List.eq_nil_of_length_eq_zero (by simpa using A1);refine (end_nil cs base vb w hbase hcs hvb h1).mono ?_;rintro e w' ⟨v',rfl,h2,h3⟩;rcases own_form h2 o_ with ⟨A',c',rfl⟩;exact ⟨A',c',rfl,by simpa using h2,h3⟩
 have A4:vb≠g:=by rintro rfl;exact hne rfl
 have A2:cap<=9223372036854775807:=by unfold maxLen at hcm;omega
 have A0:cur.toList.length=cap*3:=by rw [Array.length_toList,hcs']
 have A5:w.heap[g]?=some (.cells cur.toList.toArray 85 (0,0)):=by simpa using hg
 have A9:n*3<=cap*3:=Nat.mul_le_mul_right _ hnc;by_cases hin:i=n
 ·subst hin;refine (end_some g i cap xs cs base vb w hown hnc A2 hn hbase hcs hvb h1).mono ?_;rintro e w' ⟨v',rfl,h2,h3⟩;rcases own_form h2 o_ with ⟨A',c',rfl⟩;refine ⟨A',c',rfl,?_,h3⟩;rw [List.take_of_length_le o_,List.drop_eq_nil_of_le o_,List.append_nil];exact h2
 by_cases hroom:n+1<=cap
 ·refine (shift g n cap i cur.toList xs cs vb w A5 A0 htake o_ hroom A2 hn hcs hvb A4 h1 h1x).mono ?_;rintro e w' ⟨rfl,h2,h3⟩;have hs:=splice_shift cur.toList xs cs (i*3) 3 (n*3) htake hcs o_ o_;rw [show i*3+3=(i+1)*3 by omega,show n*3+3=(n+1)*3 by omega] at hs;refine ⟨_,_,rfl,⟨?_,.inr ⟨g,cap,_,rfl,hbg,h2.o,hroom,hcm,?_,by simpa using hs⟩⟩,h3⟩
  ·simp only [List.length_append,List.length_take,List.length_drop,hcs,A1];omega
  rw [List.size_toArray,length_splice _ _ _ (by rw [hcs,length_splice _ _ _ (by rw [List.length_drop,A1,A0];omega),A0];omega),length_splice _ _ _ (by rw [List.length_drop,A1,A0];omega),A0]
 refine (grow g n cap i cur.toList xs cs vb w A5 A0 htake o_ o_ hnc hn hcs hvb h1 h1x).mono ?_;rintro e w' ⟨G,row,A7,A6,A3,A8,rfl,h2,h3⟩;have hs:=splice_grow row xs cs (i*3) 3 (n*3) A8 hcs o_ o_ o_;rw [show i*3+3=(i+1)*3 by omega,show n*3+3=(n+1)*3 by omega] at hs;refine ⟨_,_,rfl,⟨?_,.inr ⟨w.heap.size,G,_,rfl,hbase,h2.o,A7,by unfold maxLen;omega,?_,by simpa using hs⟩⟩,⟨h3.os,h3.tape,h3.output,h3.size,fun k hk _=>h3.block k hk t_⟩⟩
 ·simp only [List.length_append,List.length_take,List.length_drop,hcs,A1];omega
 rw [List.size_toArray,length_splice _ _ _ (by rw [List.length_drop,A1,length_splice _ _ _ (by rw [hcs,A3];omega),A3];omega),length_splice _ _ _ (by rw [hcs,A3];omega),A3]
end InsTrk
namespace CloneTrk
theorem infoE:(prog.info? 85).map (fun i=>(i.zero,i.size,i.bytes))=some (some (.agg #[i_ 0,i_ 0,i_ 0]),3,24):=by kernel_rfl
theorem any (A:OA) (n c:Nat) (xs:VL) (w:World) (hA:A=none->n=0) (hsrc:∀ ad,A=some ad->∀ (j:Nat) (u:Value),xs[j]?=some u->w.cell? (ad.add j)=some u)
  (hl:xs.length=n*3) (hn:n<=1000000) (h1:∀ u ∈ xs,u.oneCell'=true) :
  Calls prog 64 #[.slice A n c] w fun e w'=>∃ A' c',e=.returned (.slice A' n c')/\w'.ownsRow w 85 3 (.slice A' n c') n xs/\Below w w w':=by
 obtain ⟨i0,hi,A5,A6,A7⟩:=info_parts infoE;have HL:=q_ hl;clear hl;cases A with
 | none =>
  obtain rfl:=hA rfl;obtain rfl:xs=[]:=List.eq_nil_of_length_eq_zero (by simpa using HL.o);have A2:=fun (w:World)=>Lib.run_eql_slice_nil (P:=prog) w 71 85 none 0 c 0 0 underlying71
  go_enter func64,ntmps64;go_wp2;go_ret;exact ⟨none,0,rfl,World.ownsRow_nil _ _ _ _,b_⟩
 | some ad =>
  have HS:=q_ (hsrc ad rfl);clear hsrc hA;have A3:∀ (j:Nat) (u:Value),xs[j]?=some u->(w.alloc (.cells #[] 85)).cell? (ad.add j)=some u:=fun j u hu=>by
   have h:=HS.o j u hu;exact (World.cell?_alloc_lt w _ _ (World.block_lt_of_cell? w _ h)).trans h
  have A4:=q_ A3;clear A3;have A2:=fun (w:World)=>Lib.run_eql_slice_nil (P:=prog) w 71 85 (some ad) n c 0 0 underlying71
  go_enter func64,ntmps64;go_wp2_with (at_builtin;refine wpList_append_own _ rfl _ _ 71 rfl w 85 i0 _ 3 24 underlying71 hi A5 A6 A7 rfl d_ _ _ _ rfl (World.ownsRow_made w #[] 0 (l_) m_ rfl) ad n c xs rfl HL.o A4.o h1 m_ o_ t_ ?_;intro v' w1 A0 A1 _);go_ret;have hz:=A1.size;rw [Nat.zero_add,List.nil_append] at A0;have hb:Below w w w1:=((b_).alloc (l_) _).grown A1 t_ (fun k hk=>by injection hk with hk;subst hk;exact l_);rcases A0.2 with ⟨rfl,h0⟩ | ⟨g,cap,cur,rfl,_⟩
  ·subst h0;exact ⟨none,0,rfl,A0,hb⟩
  exact ⟨_,_,rfl,A0,hb⟩
end CloneTrk
end Go.Proofs.YtfolidlmgfhkiaaGreat
