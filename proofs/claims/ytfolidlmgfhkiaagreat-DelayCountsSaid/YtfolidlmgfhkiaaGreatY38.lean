/- Lemmas on functions of the program, under the conditions that each states. -/
import Derived.Test.YtfolidlmgfhkiaaGreatY13
set_option linter.unusedVariables false
set_option linter.unusedSimpArgs false
set_option maxRecDepth 100000
set_option maxHeartbeats 4000000
namespace Go.Proofs.YtfolidlmgfhkiaaGreat.Dl
open Go.RowKit Go.Proofs.Tryz
theorem find_rv {l:List Tk} {p:Tk->Bool}:∀ {k j:Nat} {t:Tk},j<k->l[j]?=some t->p t=true->(∀ (j':Nat) (t':Tk),j<j'->j'<k->l[j']?=some t'->p t'=false)->(rvTo l k).find? (fun x=>p x.2)=some (j,t)
 | 0,_,_,h,_,_,_=>absurd h (Nat.not_lt_zero _)
 | k+1,j,t,h,ht,hp,hn=>by
  unfold rvTo;by_cases e:j=k
  ·subst e;rw [ht];simp [hp]
  have ih:=find_rv (k:=k) o_ ht hp (fun j' t' h1 h2 h3=>hn j' t' h1 o_ h3);cases hk:l[k]? with
  | none=>simpa using ih
  | some u =>
   have h1:=hn k u o_ o_ hk;simp [h1,ih]
theorem find_rv_none {l:List Tk} {p:Tk->Bool}:∀ {k:Nat},(∀ (j:Nat) (t:Tk),j<k->l[j]?=some t->p t=false)->(rvTo l k).find? (fun x=>p x.2)=none
 | 0,_=>rfl
 | k+1,h=>by
  unfold rvTo;have ih:=find_rv_none (k:=k) (fun j t h1 h2=>h j t o_ h2);cases hk:l[k]? with
  | none=>simpa using ih
  | some u =>
   have h1:=h k u o_ hk;rw [List.find?_cons];simp [h1,ih]
def waitsV (ts:List Pr) (l:List Tk) (k thr:Int):Int:=if thr<1\/k<0\/(l.length:Int)<=k then -1 else match l[k.toNat]? with | some s=>co_ ts l k.toNat thr s.start | none=>-1
theorem waitsV_out {ts:List Pr} {l:List Tk} {k thr:Int} (h:thr<1\/k<0\/(l.length:Int)<=k):waitsV ts l k thr=-1:=if_pos h
theorem waitsV_in {ts:List Pr} {l:List Tk} {k:Nat} {thr:Int} {s:Tk} (h1:1<=thr) (hk:l[k]?=some s):waitsV ts l (k:Int) thr=co_ ts l k thr s.start:=by
 have h2:=(e_ hk).1;unfold waitsV;rw [if_neg o_,Int.toNat_natCast,hk]
theorem waitsg_any (A:OA) (n c:Nat) (ts:List Pr) (B:OA) (m d:Nat) (l:List Tk) (k thr:Int) (w:World) (hs:Sl w w 3 Pr.cells A n ts) (hsort:Sorted ts) (hn:n<=900000)
  (hl:Sl w w 48 Tk.cells B m l) (hm:m<=900000) (hd:m<=d) :
  Calls prog 32 #[.agg #[.slice A n c],.slice B m d,i_ k,i_ thr] w fun e w'=>e=.returned (i_ (waitsV ts l k thr))/\Below w w w':=by
 by_cases h:thr<1\/k<0\/(l.length:Int)<=k
 ·rw [waitsV_out h];have A0:=hl.len;rw [A0] at h;clear A0 hs hl hsort;obtain ⟨U,hU⟩:=ex_ (((((w.alloc (.cells #[.slice A n c] 73)).alloc (.cells #[.slice B m d] 41)).alloc (.cells #[i_ k] 3)).alloc (.cells #[i_ thr] 3)).alloc (.cells #[i_ 0] 3));have A3:Below w w U:=by rw [hU];exact (bel (b_))
  have A4:(U:Nat)=w+5:=by rw [hU];simp
  have b5:U.cell? (a_ (w+1))=some (.slice B m d):=xg_;have b6:U.cell? (a_ (w+2))=some (i_ k):=x8_;have b7:U.cell? (a_ (w+3))=some (i_ thr):=w9_;have b8:U.cell? (a_ (w+4))=some (i_ 0):=(by rw [hU,ar_ _ _ _ _ _ y_];rfl);have A2:U.frozen? (a_ (w+4))=false:=(by rw [hU,bw_ _ _ _ _ _ y_]);have A5:(w:Nat)+4<U:=by omega
  have A1:=q_ A3;clear A3 A4;go_enter func32,ntmps32;go_upto_region 1 with fail;rw [<-hU];clear hU;by_cases h1:thr<1
  ·exact uq_
  by_cases h2:k<0
  ·exact uq_
  have h3:(m:Int)<=k:=by omega
  exact uq_
 obtain ⟨q,rfl⟩:∃ q:Nat,k=q:=⟨k.toNat,o_⟩;obtain ⟨s,hk⟩:∃ s,l[q]?=some s:=⟨_,ge_ o_⟩;rw [waitsV_in o_ hk];exact fb_ A n c ts B m d l q thr s w hs hsort hn hl hm hd hk o_
theorem refwaits_any (A:OA) (n c:Nat) (ts:List Pr) (B:OA) (m d:Nat) (l:List Tk) (k thr:Int) (w:World) (hs:Sl w w 3 Pr.cells A n ts) (hsort:Sorted ts) (hn:n<=900000)
  (hl:Sl w w 48 Tk.cells B m l) (hm:m<=900000) (hd:m<=d) :
  Calls prog 33 #[.agg #[.slice A n c],.slice B m d,i_ k,i_ thr] w fun e w'=>e=.returned (i_ (waitsV ts l k thr))/\Below w w w':=by
 by_cases h:thr<1\/k<0\/(l.length:Int)<=k
 ·rw [waitsV_out h];have Aa:=hl.len;rw [Aa] at h;clear Aa hs hl hsort;by_cases h1:thr<1
  ·exact uz_
  by_cases h2:k<0
  ·exact uz_
  have h3:(m:Int)<=k:=by omega
  exact uz_
 obtain ⟨q,rfl⟩:∃ q:Nat,k=q:=⟨k.toNat,o_⟩;obtain ⟨s,hk⟩:∃ s,l[q]?=some s:=⟨_,ge_ o_⟩;rw [waitsV_in o_ hk];have h1:¬thr<1:=by omega
 have Au:q<m:=by rw [<-hl.len];exact (e_ hk).1
 have h2:¬(q:Int)<0:=by omega
 have h3:¬(m:Int)<=(q:Int):=by omega
 have Av:IntKind.i64.wrap ((q:Int) - 1)=(q:Int) - 1:=by rw [IntKind.wrap_i64];omega
 obtain ⟨g,o,rfl,Ag,Ak⟩:=hl.at_ o_;obtain ⟨W,hW⟩:=ex_ (w.alloc (.cells #[.slice A n c] 73));have Ai:Below w w W:=by rw [hW];exact (bel (b_))
 have Aj:(W:Nat)=w+1:=by rw [hW];simp
 have x0:W.cell? (a_ w)=some (.slice A n c):=zn_;have HX:=q_ x0;have Ah:=q_ Ai;have Am:=q_ Aj;have Ae:=q_ Ak
 have HS:=q_ hs;have Ab:=q_ hsort;have HK:=q_ hk;have Al:=q_ hl.len;clear h hl hs hsort hk x0 Ai Aj Ak
 go_enter func33,ntmps33;go_upto_region 4 with fail;rw [<-hW];clear hW;go_loopw [9] (fun i wr=>∃ j:Nat,j<=q/\i=i_ ((j:Int) - 1)/\Hid (∀ (j':Nat) (t':Tk),j<=j'->j'<q->l[j']?=some t'->cnd ts thr s.start t'=false)/\Hid (Below W W wr)) (fun i _=>(intOf i+1).toNat)
 case atStart=>exact ⟨q,l_,rfl,q_ (fun j' t' h1 h2 _=>absurd h1 o_),q_ (b_)⟩
 obtain ⟨j,hj,rfl,Ad,A8⟩:=hrel;have A6:=q_ (Ah.o.trans (A8.o.mono Ah.o.size));by_cases h0:j=0
 case pos =>
  subst h0;have hv:=h_ (co_ ts l q thr s.start=-1) (by unfold co_;rw [find_rv_none (p:=cnd ts thr s.start) (fun j t h1 h2=>Ad.o j t (Nat.zero_le _) h1 h2)]);have Aq:¬(0:Int)<=((0:Nat):Int) - 1:=by omega
  go_wp2_with fail;go_ret;exact ⟨by rw [hv.o];rfl,A6.o⟩
 case neg =>
 obtain ⟨j,rfl⟩:∃ p,j=p+1:=⟨j - 1,o_⟩;rw [show ((j+1:Nat):Int) - 1=(j:Int) by omega];have Aq:(0:Int)<=(j:Int):=by omega
 have As:(j:Int)<(m:Int):=by omega
 have Ar:(q:Int)<(m:Int):=by omega
 have Aw:IntKind.i64.wrap ((j:Int) - 1)=(j:Int) - 1:=by rw [IntKind.wrap_i64];omega
 obtain ⟨t,ht⟩:∃ t,l[j]?=some t:=⟨_,ge_ (by rw [Al.o];omega)⟩;have HT:=q_ ht;have A5:=h_ (cnd ts thr s.start t=false->∀ (j':Nat) (t':Tk),j<=j'->j'<q->l[j']?=some t'->cnd ts thr s.start t'=false) (fun hf j' t' h1 h2 h3=>by
  by_cases e:j'=j
  ·subst e;rw [HT.o] at h3;injection h3 with h3;subst h3;exact hf
  exact Ad.o j' t' o_ h2 h3)
 have A7:=h_ (cnd ts thr s.start t=true->co_ ts l q thr s.start=(j:Int)) (fun hf=>by
  unfold co_
  rw [find_rv (p:=cnd ts thr s.start) o_ HT.o hf (fun j' t' h1 h2 h3=>Ad.o j' t' o_ h2 h3)])
 have A2:=h_ (∀ w',Below wr wr w'->w'.cell? ⟨g,o+j*48+42,none⟩=some (i_ t.status)/\w'.cell? ⟨g,o+j*48,none⟩=some (i_ t.start)/\w'.cell? ⟨g,o+q*48,none⟩=some (i_ s.start)/\w'.cell? (a_ w)=some (.slice A n c)) (fun w' hb=>by
  have Af:=A6.o.trans (hb.mono A6.o.size)
  have Ap:=A8.o.trans (hb.mono A8.o.size)
  refine ⟨?_,?_,?_,(belc Ap (by have:=Am.o;omega)).trans HX.o⟩
  ·have:=(belc Af Ag).trans (Ae.o j t HT.o 42 _ t.c42);rwa [<-Nat.add_assoc] at this
  ·have:=(belc Af Ag).trans (Ae.o j t HT.o 0 _ t.c0);simpa using this
  have:=(belc Af Ag).trans (Ae.o q s HK.o 0 _ s.c0);simpa using this)
 have A1:=h_ (Below wr wr wr.drew) (Below.drew (b_));have Ac:=h_ (Sl wr.drew wr.drew 3 Pr.cells A n ts) (HS.o.up (A6.o.trans (A1.o.mono A6.o.size)));clear ht Ad;go_upto_region 6 with fail;rcases Decidable.em (t.status=0\/t.status=1) with hst | hst
 ·rcases hst with hst | hst
  ·rw [hst] at A2;have A9:cnd ts thr s.start t=decide (thr<=countP ts t.start s.start):=by simp [cnd,hst]
   rw [A9] at A5 A7;clear A9 hst;by_cases hge:thr<=countP ts t.start s.start
   ·have A4:decide (thr<=countP ts t.start s.start)=true:=decide_eq_true hge;have HV:=q_ (A7.o A4);clear A5 A7 hge;refine am_ (S:=fun w':World=>w'.cell? ⟨g,o+j*48+42,none⟩=some (i_ 0)/\w'.cell? ⟨g,o+j*48,none⟩=some (i_ t.start)/\w'.cell? ⟨g,o+q*48,none⟩=some (i_ s.start)/\w'.cell? (a_ w)=some (.slice A n c)) rfl (A2.o _ A1.o) (fun _=>?_);go_simp;refine aa_ 0 28 ?_;refine aa_ 1 29 ?_;refine aa_ 2 30 ?_;refine aa_ 3 31 ?_;refine aa_ 4 32 ?_;refine aa_ 5 33 ?_;refine aa_ 6 34 ?_;refine ae_ 7 35 ?_;refine ae_ 8 36 ?_;refine ae_ 9 37 ?_;refine ae_ 10 38 ?_;refine ae_ 11 39 ?_;refine ae_ 12 40 ?_;refine aa_ 13 41 ?_;refine aa_ 14 42 ?_;refine aa_ 15 43 ?_;refine aa_ 16 44 ?_;refine aa_ 17 45 ?_;refine aa_ 18 46 ?_;refine aa_ 19 47 ?_;refine aa_ 20 48 ?_;refine aa_ 21 49 ?_;refine aa_ 22 50 ?_;refine aa_ 23 51 ?_;refine aa_ 24 52 ?_;refine aa_ 25 53 ?_;refine aa_ 27 55 ?_;refine aw_ 26 k_ rfl (fun K hK=>?_);go_simp;go_at_call 31;refine (eh_ A n c ts t.start s.start wr.drew Ac.o Ab.o o_).mono ?_;rintro e w3 ⟨rfl,A3⟩;have A0:=q_ (A1.o.trans A3);clear A3;refine hK.out _ _ (A2.o _ A0.o) (fun _=>?_);refine aa_ 28 56 ?_;try simp only [A4]
    exact td_
   have A4:decide (thr<=countP ts t.start s.start)=false:=decide_eq_false hge;have HV:=q_ (A5.o A4);clear A5 A7 hge;refine am_ (S:=fun w':World=>w'.cell? ⟨g,o+j*48+42,none⟩=some (i_ 0)/\w'.cell? ⟨g,o+j*48,none⟩=some (i_ t.start)/\w'.cell? ⟨g,o+q*48,none⟩=some (i_ s.start)/\w'.cell? (a_ w)=some (.slice A n c)) rfl (A2.o _ A1.o) (fun _=>?_);go_simp;refine aa_ 0 28 ?_;refine aa_ 1 29 ?_;refine aa_ 2 30 ?_;refine aa_ 3 31 ?_;refine aa_ 4 32 ?_;refine aa_ 5 33 ?_;refine aa_ 6 34 ?_;refine ae_ 7 35 ?_;refine ae_ 8 36 ?_;refine ae_ 9 37 ?_;refine ae_ 10 38 ?_;refine ae_ 11 39 ?_;refine ae_ 12 40 ?_;refine aa_ 13 41 ?_;refine aa_ 14 42 ?_;refine aa_ 15 43 ?_;refine aa_ 16 44 ?_;refine aa_ 17 45 ?_;refine aa_ 18 46 ?_;refine aa_ 19 47 ?_;refine aa_ 20 48 ?_;refine aa_ 21 49 ?_;refine aa_ 22 50 ?_;refine aa_ 23 51 ?_;refine aa_ 24 52 ?_;refine aa_ 25 53 ?_;refine aa_ 27 55 ?_;refine aw_ 26 k_ rfl (fun K hK=>?_);go_simp;go_at_call 31;refine (eh_ A n c ts t.start s.start wr.drew Ac.o Ab.o o_).mono ?_;rintro e w3 ⟨rfl,A3⟩;have A0:=q_ (A1.o.trans A3);clear A3;refine hK.out _ _ (A2.o _ A0.o) (fun _=>?_);refine aa_ 28 56 ?_;try simp only [A4]
   refine aa_ 29 57 ?_;refine wpAnyH_done k_ ?_ _;go_wp2_with fail;go_roundw
   case rel=>exact ⟨j,o_,za_,HV,q_ (A8.o.trans (A0.o.mono A8.o.size))⟩
   case measure=>simp [intOf] <;> omega
  rw [hst] at A2;have A9:cnd ts thr s.start t=decide (thr<=countP ts t.start s.start):=by simp [cnd,hst]
  rw [A9] at A5 A7;clear A9 hst;by_cases hge:thr<=countP ts t.start s.start
  ·have A4:decide (thr<=countP ts t.start s.start)=true:=decide_eq_true hge;have HV:=q_ (A7.o A4);clear A5 A7 hge;refine am_ (S:=fun w':World=>w'.cell? ⟨g,o+j*48+42,none⟩=some (i_ 1)/\w'.cell? ⟨g,o+j*48,none⟩=some (i_ t.start)/\w'.cell? ⟨g,o+q*48,none⟩=some (i_ s.start)/\w'.cell? (a_ w)=some (.slice A n c)) rfl (A2.o _ A1.o) (fun _=>?_);go_simp;refine aa_ 0 28 ?_;refine aa_ 1 29 ?_;refine aa_ 2 30 ?_;refine aa_ 3 31 ?_;refine aa_ 4 32 ?_;refine aa_ 5 33 ?_;refine aa_ 6 34 ?_;refine aa_ 7 35 ?_;refine aa_ 8 36 ?_;refine aa_ 9 37 ?_;refine aa_ 10 38 ?_;refine aa_ 11 39 ?_;refine aa_ 12 40 ?_;refine aa_ 13 41 ?_;refine aa_ 14 42 ?_;refine aa_ 15 43 ?_;refine aa_ 16 44 ?_;refine aa_ 17 45 ?_;refine aa_ 18 46 ?_;refine aa_ 19 47 ?_;refine aa_ 20 48 ?_;refine aa_ 21 49 ?_;refine aa_ 22 50 ?_;refine aa_ 23 51 ?_;refine aa_ 24 52 ?_;refine aa_ 25 53 ?_;refine aa_ 27 55 ?_;refine aw_ 26 k_ rfl (fun K hK=>?_);go_simp;go_at_call 31;refine (eh_ A n c ts t.start s.start wr.drew Ac.o Ab.o o_).mono ?_;rintro e w3 ⟨rfl,A3⟩;have A0:=q_ (A1.o.trans A3);clear A3;refine hK.out _ _ (A2.o _ A0.o) (fun _=>?_);refine aa_ 28 56 ?_;try simp only [A4]
   exact td_
  have A4:decide (thr<=countP ts t.start s.start)=false:=decide_eq_false hge;have HV:=q_ (A5.o A4);clear A5 A7 hge;refine am_ (S:=fun w':World=>w'.cell? ⟨g,o+j*48+42,none⟩=some (i_ 1)/\w'.cell? ⟨g,o+j*48,none⟩=some (i_ t.start)/\w'.cell? ⟨g,o+q*48,none⟩=some (i_ s.start)/\w'.cell? (a_ w)=some (.slice A n c)) rfl (A2.o _ A1.o) (fun _=>?_);go_simp;refine aa_ 0 28 ?_;refine aa_ 1 29 ?_;refine aa_ 2 30 ?_;refine aa_ 3 31 ?_;refine aa_ 4 32 ?_;refine aa_ 5 33 ?_;refine aa_ 6 34 ?_;refine aa_ 7 35 ?_;refine aa_ 8 36 ?_;refine aa_ 9 37 ?_;refine aa_ 10 38 ?_;refine aa_ 11 39 ?_;refine aa_ 12 40 ?_;refine aa_ 13 41 ?_;refine aa_ 14 42 ?_;refine aa_ 15 43 ?_;refine aa_ 16 44 ?_;refine aa_ 17 45 ?_;refine aa_ 18 46 ?_;refine aa_ 19 47 ?_;refine aa_ 20 48 ?_;refine aa_ 21 49 ?_;refine aa_ 22 50 ?_;refine aa_ 23 51 ?_;refine aa_ 24 52 ?_;refine aa_ 25 53 ?_;refine aa_ 27 55 ?_;refine aw_ 26 k_ rfl (fun K hK=>?_);go_simp;go_at_call 31;refine (eh_ A n c ts t.start s.start wr.drew Ac.o Ab.o o_).mono ?_;rintro e w3 ⟨rfl,A3⟩;have A0:=q_ (A1.o.trans A3);clear A3;refine hK.out _ _ (A2.o _ A0.o) (fun _=>?_);refine aa_ 28 56 ?_;try simp only [A4]
  refine aa_ 29 57 ?_;refine wpAnyH_done k_ ?_ _;go_wp2_with fail;go_roundw
  case rel=>exact ⟨j,o_,za_,HV,q_ (A8.o.trans (A0.o.mono A8.o.size))⟩
  case measure=>simp [intOf] <;> omega
 have A9:cnd ts thr s.start t=false:=by
  have h1:¬t.status=0:=fun e=>hst (.inl e)
  have h2:¬t.status=1:=fun e=>hst (.inr e)
  simp [cnd,h1,h2]
 have HV:=q_ (A5.o A9);have An:(t.status == 0)=false:=by simpa using (fun e=>hst (.inl e):¬t.status=0)
 have Ao:(t.status == 1)=false:=by simpa using (fun e=>hst (.inr e):¬t.status=1)
 clear A5 A7 A9 hst;refine am_ (S:=fun w':World=>w'.cell? ⟨g,o+j*48+42,none⟩=some (i_ t.status)/\w'.cell? ⟨g,o+j*48,none⟩=some (i_ t.start)/\w'.cell? ⟨g,o+q*48,none⟩=some (i_ s.start)/\w'.cell? (a_ w)=some (.slice A n c)) rfl (A2.o _ A1.o) (fun _=>?_);go_simp;refine aa_ 0 28 ?_;refine aa_ 1 29 ?_;refine aa_ 2 30 ?_;refine aa_ 3 31 ?_;refine aa_ 4 32 ?_;refine aa_ 5 33 ?_;try simp only [An]
 refine aa_ 6 34 ?_;refine aa_ 7 35 ?_;refine aa_ 8 36 ?_;refine aa_ 9 37 ?_;refine aa_ 10 38 ?_;refine aa_ 11 39 ?_;refine aa_ 12 40 ?_;try simp only [Ao]
 refine aa_ 13 41 ?_;refine aa_ 14 42 ?_;refine ae_ 15 43 ?_;refine ae_ 16 44 ?_;refine ae_ 17 45 ?_;refine ae_ 18 46 ?_;refine ae_ 19 47 ?_;refine ae_ 20 48 ?_;refine ae_ 21 49 ?_;refine ae_ 22 50 ?_;refine ae_ 23 51 ?_;refine ae_ 24 52 ?_;refine ae_ 25 53 ?_;refine ae_ 26 54 ?_;refine ae_ 27 55 ?_;refine ae_ 28 56 ?_;refine aa_ 29 57 ?_;refine wpAnyH_done k_ ?_ _;go_wp2_with fail;go_roundw
 case rel=>exact ⟨j,o_,za_,HV,q_ (A8.o.trans (A1.o.mono A8.o.size))⟩
 case measure=>simp [intOf] <;> omega
end Go.Proofs.YtfolidlmgfhkiaaGreat.Dl
