/- Lemmas: each says what a function of the program leaves, under the conditions that it states. -/
import Derived.Test.YtfolidlmgfhkiaaGreatZ02
set_option linter.unusedVariables false
set_option linter.unusedSimpArgs false
set_option maxRecDepth 100000
set_option maxHeartbeats 20000000
namespace Go.Proofs.YtfolidlmgfhkiaaGreat
open Go.RowKit Go.Proofs.Tryz
theorem number_any (n:Int) (w:World):Calls prog 199 #[i_ n] w fun e w'=>e=.returned (.agg #[.bool false,i_ n])/\Below w w w':=by
 go_enter func199,ntmps199;go_wp2;exact bodyPost_ret (v:=.agg #[.bool false,i_ n]) (by simp [results,results199,go_sem]) rfl ⟨rfl,(bel (b_))⟩
theorem flag_any (b:Bool) (w:World):Calls prog 198 #[.bool b] w fun e w'=>(∃ n:Int,e=.returned (.agg #[.bool false,i_ n]))/\Below w w w':=by
 obtain ⟨W,hW,A0,A1,B0⟩:=af_ w [.bool false,i_ 0] 38;have KB:=q_ B0;have KW:=q_ A0;clear B0 A0 A1;go_enter func198,ntmps198;go_upto_region 1 with fail;rw [←hW];clear hW;go_wp2_with (refine (number_any _ _).mono ?_;rintro e w1 ⟨rfl,hb⟩;have hB:=q_ (KB.o.below hb);have A2:=q_ (KW.o.trans (hb.mono KW.o.size));have r0:=hB.o.2.1 0 _ rfl;have r1:=hB.o.2.1 1 _ rfl;have f0:=hB.o.2.2);all_goals
  exact retC results198 (by rfl) underlying38 rfl k_ (cs:=[_,_]) ((hB.o.set 0 _).set 1 _).whole rfl ⟨⟨_,rfl⟩,(bel A2.o)⟩
theorem Apply_any (op:Int) (a b:Val) (w:World) :
  Calls prog 174 #[i_ op,.agg #[.bool a.ref,i_ a.n],.agg #[.bool b.ref,i_ b.n]] w fun e w'=>(∃ n f:Int,e=.returned (.tuple #[.agg #[.bool false,i_ n],i_ f]))/\Below w w w':=by
 obtain ⟨W,hW,A1,A3,B0,B1,B2⟩:=el_ w [.bool a.ref,i_ a.n] 38 [.bool b.ref,i_ b.n] 38 [.bool false,i_ 0] 38;have a0:=B0.2.1 0 _ rfl;have a1:=B0.2.1 1 _ rfl;have b0:=B1.2.1 0 _ rfl;have b1:=B1.2.1 1 _ rfl;have r0:=B2.2.1 0 _ rfl;have r1:=B2.2.1 1 _ rfl;have f0:=B2.2.2;have hB:=q_ B2;have A0:=q_ A1;have K:=h_ (∀ w',Below W W w'->Bx w' (w+2) [.bool false,i_ 0]/\Below w w w') (fun w' hb=>⟨B2.below hb,A1.trans (hb.mono A1.size)⟩);clear A3 A1 B0 B1 B2;go_enter func174,ntmps174;go_upto_region 1 with fail;rw [←hW];clear hW;go_wp2_with (refine (flag_any _ _).mono ?_;rintro e w1 ⟨⟨nf,rfl⟩,hb⟩;obtain ⟨hB,A0⟩:=K.o w1 hb;have hB:=q_ hB;have A0:=q_ A0;have r0:=hB.o.2.1 0 _ rfl;have r1:=hB.o.2.1 1 _ rfl;have f0:=hB.o.2.2);all_goals try (refine bh_ results174 (by rfl) underlying38 rfl k_ (cs:=[_,_]) ((hB.o.set 0 _).set 1 _).whole rfl ?_;exact ⟨⟨_,_,rfl⟩,(bel A0.o)⟩)
 go_quiet (fail);have A2:Below W W (W.drewN nq):=below_drewN (b_) _;have HQ:=q_ A2;have hB:=q_ (K.o _ A2).1;have A0:=q_ (K.o _ A2).2;clear A2;go_wp2_with (first
  | (refine (number_any _ _).mono ?_;rintro e w1 ⟨rfl,hb⟩;obtain ⟨hB,A0⟩:=K.o w1 (HQ.o.trans hb);have hB:=q_ hB;have A0:=q_ A0;have r0:=hB.o.2.1 0 _ rfl;have r1:=hB.o.2.1 1 _ rfl;have f0:=hB.o.2.2)
  | (refine (flag_any _ _).mono ?_;rintro e w1 ⟨⟨nf,rfl⟩,hb⟩;obtain ⟨hB,A0⟩:=K.o w1 (HQ.o.trans hb);have hB:=q_ hB;have A0:=q_ A0;have r0:=hB.o.2.1 0 _ rfl;have r1:=hB.o.2.1 1 _ rfl;have f0:=hB.o.2.2))
 all_goals try (refine bh_ results174 (by rfl) underlying38 rfl k_ (cs:=[_,_]) ((hB.o.set 0 _).set 1 _).whole rfl ?_;exact ⟨⟨_,_,rfl⟩,(bel A0.o)⟩)
 all_goals (exfalso;first | contradiction | omega | simp_all)
theorem Truthy_any (v:Val) (w:World):Calls prog 176 #[.agg #[.bool v.ref,i_ v.n]] w fun e w'=>RB e/\Below w w w':=by
 go_enter func176,ntmps176;go_wp2;go_ret;exact ⟨⟨_,rfl⟩,(bel (b_))⟩
def RSB (e:Ending):Prop:=∃ s b,e=.returned (.tuple #[.string s,.bool b])
def RNB (e:Ending):Prop:=∃ n b,e=.returned (.tuple #[i_ n,.bool b])
theorem eu_ (op:Int) (w:World):Calls prog 169 #[i_ op] w fun e w'=>RB e/\Below w w w':=by
 go_enter func169,ntmps169;go_wp2;all_goals
  go_ret;exact ⟨⟨_,rfl⟩,(bel (b_))⟩
theorem names_any (w:World):Calls prog 197 #[] w fun e w'=>(∃ g,e=.returned (.slice (some (a_ g)) 12 12)/\g<w'/\Hid (∀ k:Nat,k<12->∃ s,w'.cell? (f_ g k)=some (.string s)))/\Below w w w':=by
 go_enter func197,ntmps197;go_wp2;go_ret;refine ⟨⟨_,rfl,by simp,q_ (fun k hk=>?_)⟩,(bel (b_))⟩;rw [aj_ _ _ _ _ _ t_]
 match k,hk with
 | 0,_=>exact ⟨_,rfl⟩
 | 1,_=>exact ⟨_,rfl⟩
 | 2,_=>exact ⟨_,rfl⟩
 | 3,_=>exact ⟨_,rfl⟩
 | 4,_=>exact ⟨_,rfl⟩
 | 5,_=>exact ⟨_,rfl⟩
 | 6,_=>exact ⟨_,rfl⟩
 | 7,_=>exact ⟨_,rfl⟩
 | 8,_=>exact ⟨_,rfl⟩
 | 9,_=>exact ⟨_,rfl⟩
 | 10,_=>exact ⟨_,rfl⟩
 | 11,_=>exact ⟨_,rfl⟩
theorem Name_any (op:Int) (w:World):Calls prog 170 #[i_ op] w fun e w'=>RSB e/\Below w w w':=by
 by_cases h1:1<=op/\op<=11
 ·obtain ⟨k,rfl⟩:∃ k:Nat,op=k:=⟨op.toNat,o_⟩;have h0:¬((k:Int)<1):=by omega
  have h2:¬(11:Int)<(k:Int):=by omega
  have h3:(k:Int)<12:=by omega
  have H1:=q_ h1;clear h1;go_enter func170,ntmps170;go_wp2_with (refine (names_any _).mono ?_;rintro e w1 ⟨⟨g,rfl,hg,hc⟩,hb⟩;obtain ⟨s,hs⟩:=hc.o k o_);go_ret2;exact ⟨⟨_,_,rfl⟩,(bel hb)⟩
 have h2:op<1∨11<op:=by omega
 go_enter func170,ntmps170;rcases h2 with h2 | h2
 ·go_wp2;go_ret2;exact ⟨⟨_,_,rfl⟩,(bel (b_))⟩
 have h3:¬op<1:=by omega
 go_wp2;go_ret2;exact ⟨⟨_,_,rfl⟩,(bel (b_))⟩
theorem Op_any (s:ByteArray) (w:World):Calls prog 207 #[.string s] w fun e w'=>RNB e/\Below w w w':=by
 go_enter func207,ntmps207;go_upto_region 2 with (refine (names_any _).mono ?_;rintro e w1 ⟨⟨g,rfl,hg,hc⟩,hb⟩;have HB:=q_ hb;clear hb);go_loopw [8] (fun i wr=>∃ k:Nat,k<=12/\i=i_ k/\Hid (wr=w1)) (fun i _=>12 - (intOf i).toNat)
 case atStart=>exact ⟨0,o_,rfl,q_ rfl⟩
 obtain ⟨k,hk,rfl,A1⟩:=hrel;have hw:=A1.o.symm;subst hw;clear A1;by_cases hlt:k<12
 ·have A0:(k:Int)<12:=by omega
  obtain ⟨t,ht⟩:=hc.o k hlt;go_wp2;all_goals first
   | (go_ret2;exact ⟨⟨_,_,rfl⟩,HB.o⟩)
   | (go_roundw
      case rel=>exact ⟨k+1,o_,by go_num,q_ (by trivial)⟩
      case measure=>simp [intOf];omega)
 have A0:¬(k:Int)<12:=by omega
 go_wp2;go_ret2;exact ⟨⟨_,_,rfl⟩,HB.o⟩
structure In where
 op:Int
 a:Int
 b:Int
 c:Int
 n:Int
def In.cells (x:In):VL:=[i_ x.op,i_ x.a,i_ x.b,i_ x.c,i_ x.n]
def aw_:List CT:=[.num,.num,.num,.num,.num]
theorem VTs.inst {X:NP} {w:World} {K:Nat} {vs:VL} (h:VTs w X K aw_ vs):∃ x:In,vs=x.cells:=by
 obtain ⟨a,r1,rfl,ha,h1⟩:=h.head;obtain ⟨b,r2,rfl,hb,h2⟩:=h1.head;obtain ⟨c,r3,rfl,hc,h3⟩:=h2.head;obtain ⟨d,r4,rfl,hd,h4⟩:=h3.head;obtain ⟨e,r5,rfl,he,h5⟩:=h4.head;obtain ⟨a,rfl⟩:=ha.int;obtain ⟨b,rfl⟩:=hb.int;obtain ⟨c,rfl⟩:=hc.int;obtain ⟨d,rfl⟩:=hd.int;obtain ⟨e,rfl⟩:=he.int;rw [h5.end];exact ⟨⟨a,b,c,d,e⟩,rfl⟩
theorem SlT.insts {X:NP} {w:World} {K:Nat} {A:OA} {n c:Nat} (h:SlT w X K aw_ A n c):∃ l:List In,Sl w w 5 In.cells A n l:=by
 obtain ⟨l,hl,_⟩:=h.list In.cells (fun _=>True) (fun vs hv=>by obtain ⟨x,rfl⟩:=hv.inst;exact ⟨x,rfl,trivial⟩);exact ⟨l,hl⟩
def opAt (l:List In) (n:Int):Int:=if 0<=n then (match l[n.toNat]? with | some x=>x.op | none=>-1) else -1
theorem opAt_nat (l:List In) (k:Nat):opAt l (k:Int)=(match l[k]? with | some x=>x.op | none=>-1):=by
 unfold opAt;rw [if_pos o_,Int.toNat_natCast]
structure OkI (l:List In) (i:Nat) (x:In):Prop where
 op:0<=x.op/\x.op<=21
 a:0<=x.a/\x.a<16
 b:x.op≠13->x.op≠10->0<=x.b/\x.b<16
 c:x.op≠13->0<=x.c/\x.c<16
 call:x.op=13->(0<=x.b/\x.b<=4/\x.b<=x.c/\x.c<=64)/\opAt l x.n=21
 size:x.op=7->0<=x.n/\x.n<=16
 jump:x.op=11∨x.op=12->(i:Int)<x.n∨opAt l x.n=21
def regB (n:Int) (u:Bool):Bool:=decide (n=0) || (u && (decide (0<n) && decide (n<16)))
theorem reg_of {n:Int} {u:Bool} (h:regB n u=true):0<=n/\n<16:=by
 unfold regB at h;simp at h;omega
def ROp (l:List In) (pc:Int) (e:Ending):Prop:=∃ q:Int,e=.returned (i_ q)/\Hid (opAt l pc=q)
theorem op_any (A:OA) (n c:Nat) (v s pc:Int) (l:List In) (w:World) (hs:Sl w w 5 In.cells A n l) (hn:n<=9000000000000) :
  Calls prog 128 #[.agg #[.slice A n c,i_ v,i_ s],i_ pc] w fun e w'=>ROp l pc e/\Below w w w':=by
 have HL:=q_ hs.len;by_cases h0:pc<0
 ·have H:=h_ (opAt l pc=-1) (by unfold opAt;rw [if_neg o_]);go_enter func128,ntmps128;go_wp2;go_ret;exact ⟨⟨_,rfl,q_ H.o⟩,(bel (b_))⟩
 obtain ⟨k,rfl⟩:∃ k:Nat,pc=k:=⟨pc.toNat,o_⟩;have HK:=q_ (opAt_nat l k);by_cases h1:k<n
 ·obtain ⟨ab,ao,rfl,A1,A0⟩:=hs.at_ o_;obtain ⟨x,hx⟩:∃ x,l[k]?=some x:=⟨_,ge_ (by rw [HL.o];exact h1)⟩;have HX:=q_ hx;have c0:w.cell? ⟨ab,ao+k*5,none⟩=some (i_ x.op):=A0 k x hx 0 _ rfl;have h2:¬(n:Int)<=(k:Int):=by omega
  have h3:(k:Int)<(n:Int):=by omega
  clear A0 hx h0;go_enter func128,ntmps128;go_wp2;go_ret;exact ⟨⟨_,rfl,q_ (by rw [HK.o,HX.o])⟩,(bel (b_))⟩
 have h2:(n:Int)<=(k:Int):=by omega
 have HX:=h_ (l[k]?=none) (List.getElem?_eq_none (by rw [HL.o];omega));go_enter func128,ntmps128;go_wp2;go_ret;exact ⟨⟨_,rfl,q_ (by rw [HK.o,HX.o])⟩,(bel (b_))⟩
def RReg (n:Int) (e:Ending):Prop:=∃ b:Bool,e=.returned (.bool b)/\Hid (b=true->0<=n/\n<16)
theorem ax_ (n:Int) (u:Bool) (w:World):Calls prog 168 #[i_ n,.bool u] w fun e w'=>RReg n e/\Below w w w':=by
 go_enter func168,ntmps168;by_cases h:n=0
 ·have H:=h_ (regB n u=true) (by unfold regB;simp [h]);go_wp2;go_ret;exact ⟨⟨_,rfl,q_ (fun h=>reg_of (H.o.trans h))⟩,(bel (b_))⟩
 have A0:(n == 0)=false:=by simp [h]
 cases u with
 | false =>
  have H:=h_ (regB n false=false) (by unfold regB;simp [h]);go_wp2;go_ret;exact ⟨⟨_,rfl,q_ (fun h=>reg_of (H.o.trans h))⟩,(bel (b_))⟩
 | true =>
  by_cases h1:0<n
  ·by_cases h2:n<16
   ·have H:=h_ (regB n true=true) (by unfold regB;simp [h1,h2]);go_wp2;go_ret;exact ⟨⟨_,rfl,q_ (fun h=>reg_of (H.o.trans h))⟩,(bel (b_))⟩
   have H:=h_ (regB n true=false) (by unfold regB;simp [h2,h]);go_wp2;go_ret;exact ⟨⟨_,rfl,q_ (fun h=>reg_of (H.o.trans h))⟩,(bel (b_))⟩
  have H:=h_ (regB n true=false) (by unfold regB;simp [h1,h]);go_wp2;go_ret;exact ⟨⟨_,rfl,q_ (fun h=>reg_of (H.o.trans h))⟩,(bel (b_))⟩
def shTab:List (Bool × Bool × Bool × Int):=[(false,false,false,0),(true,false,false,1),(true,false,false,0),(true,true,false,0),(true,true,true,2),(true,true,false,3),(true,true,false,3),(true,false,false,4),(true,false,false,5),(true,false,false,5),(true,false,false,5),(false,false,false,6),(true,false,false,6),(false,false,false,7),(true,false,false,0),(true,false,false,0),(true,false,false,0),(false,false,false,8),(true,false,false,0),(true,false,false,0),(false,false,false,5),(false,false,false,9)]
def shCells (s:Bool × Bool × Bool × Int):VL:=[.bool s.1,.bool s.2.1,.bool s.2.2.1,i_ s.2.2.2]
theorem shapes_any (w:World):Calls prog 120 #[] w fun e w'=>(∃ g,e=.returned (.slice (some (a_ g)) 22 22)/\Hid (Sl w' w' 4 shCells (some (a_ g)) 22 shTab))/\Below w w w':=by
 go_enter func120,ntmps120;go_wp2;go_ret;refine ⟨⟨_,rfl,q_ ⟨rfl,fun _=>⟨_,_,rfl,by simp,fun i x hx j u hu=>?_⟩⟩⟩,(bel (b_))⟩;have h:=flat_get (sz:=4) (cells:=shCells) (fun _=>rfl) shTab i x hx j u hu;rw [aj_ _ _ _ _ _ t_,Nat.zero_add,←h,List.getElem?_toArray];rfl
def shAt (k:Nat):Bool × Bool × Bool × Int:=(shTab[k]?).getD (false,false,false,0)
theorem sh_at {k:Nat} (h:k<22):shTab[k]?=some (shAt k):=by
 unfold shAt;rw [ge_ (show k<shTab.length from h)];rfl
theorem sh_n {k:Nat} (h:k<22):((shAt k).2.2.2=4/\k=7)∨((shAt k).2.2.2=6/\(k=11∨k=12))∨((shAt k).2.2.2=7/\k=13)∨((shAt k).2.2.2≠4/\(shAt k).2.2.2≠6/\(shAt k).2.2.2≠7/\k≠7/\k≠11/\k≠12/\k≠13):=by
 revert k;decide
theorem sh_v {k:Nat} (h:k<22):(k=10->(shAt k).2.2.2=5)/\((shAt k).2.2.2=0∨(shAt k).2.2.2=1∨(shAt k).2.2.2=2∨(shAt k).2.2.2=3∨(shAt k).2.2.2=4∨(shAt k).2.2.2=5∨(shAt k).2.2.2=6∨(shAt k).2.2.2=7∨(shAt k).2.2.2=8∨(shAt k).2.2.2=9):=by
 revert k;decide
def RFits (l:List In) (i:Nat) (x:In) (e:Ending):Prop:=∃ b,e=.returned (.bool b)/\(b=true->OkI l i x)
theorem rfits_no (l:List In) (i:Nat) (x:In):RFits l i x (.returned (.bool false)):=⟨false,rfl,fun h=>by cases h⟩
theorem mkOk {l:List In} {i k:Nat} {x:In} (ho:x.op=k) (hk:k<22) (ha:0<=x.a/\x.a<16) (hb:k≠13->k≠10->0<=x.b/\x.b<16) (hc:k≠13->0<=x.c/\x.c<16) (hp:k=13->0<=x.b/\x.b<=4/\x.b<=x.c/\x.c<=64)
  (hm:k=13->opAt l x.n=21) (hz:k=7->0<=x.n/\x.n<=16) (hj:k=11∨k=12->(i:Int)<x.n∨opAt l x.n=21):OkI l i x :=
 ⟨o_,ha,fun h1 h2=>hb o_ o_,fun h1=>hc o_,fun h=>⟨hp o_,hm o_⟩,fun h=>hz o_,fun h=>hj o_⟩
theorem fits_13 (A:OA) (n c:Nat) (v s:Int) (i:Nat) (l:List In) (x:In) (g k:Nat) (w:World) (hs:Sl w w 5 In.cells A n l) (hn:n<=2048) (hx:l[i]?=some x) (hsh:Sl w w 4 shCells (some (a_ g)) 22 shTab) (hk:x.op=k) (hk22:k<22) (HKK:k=13) :
  Calls prog 121 #[.agg #[.slice A n c,i_ v,i_ s],i_ i,.slice (some (a_ g)) 22 22] w fun e w'=>RFits l i x e/\Below w w w':=by
 have HL:=q_ hs.len;have hin:i<n:=by have:=(e_ hx).1;rw [HL.o] at this;exact this
 have hinI:(i:Int)<(n:Int):=by omega
 have hwi:IntKind.i64.wrap ((i:Int)+1)=(i:Int)+1:=by rw [IntKind.wrap_i64];omega
 have hwj:IntKind.i64.wrap ((i:Int) - 1)=(i:Int) - 1:=by rw [IntKind.wrap_i64];omega
 obtain ⟨ab,ao,rfl,hlo,hat⟩:=hs.at_ o_;obtain ⟨sa,sb,sc,sn,hst⟩:∃ sa sb sc sn,shAt k=(sa,sb,sc,sn):=⟨_,_,_,_,rfl⟩;have HN:=h_ ((sn=4/\k=7)∨(sn=6/\(k=11∨k=12))∨(sn=7/\k=13)∨(sn≠4/\sn≠6/\sn≠7/\k≠7/\k≠11/\k≠12/\k≠13)) (by have:=sh_n hk22;rw [hst] at this;exact this);have HN5:=h_ ((k=10->sn=5)/\(sn=0∨sn=1∨sn=2∨sn=3∨sn=4∨sn=5∨sn=6∨sn=7∨sn=8∨sn=9)) (by have:=sh_v hk22;rw [hst] at this;exact this);obtain ⟨W,hW,hWb,hWz,B0⟩:=af_ w [.slice (some (f_ ab ao)) n c,i_ v,i_ s] 26;have HS:=q_ (hs.up hWb);have HSH:=q_ (hsh.up hWb);have KV:=q_ (show ∀ (V w':World) (nq:Nat),V=((W.alloc (.cells #[i_ k,i_ x.a,i_ x.b,i_ x.c,i_ x.n] 202)).alloc (.cells #[.bool sa,.bool sb,.bool sc,i_ sn] 268)).drewN nq->Below V V w' →
   (w'.cell? (a_ w)=some (.slice (some (f_ ab ao)) n c)/\w'.cell? (f_ w 1)=some (i_ v)/\w'.cell? (f_ w 2)=some (i_ s)) ∧
   (w'.cell? (a_ W)=some (i_ k)/\w'.cell? (f_ W 1)=some (i_ x.a)/\w'.cell? (f_ W 2)=some (i_ x.b)/\w'.cell? (f_ W 3)=some (i_ x.c)/\w'.cell? (f_ W 4)=some (i_ x.n)) ∧
   (w'.cell? (a_ (W+1))=some (.bool sa)/\w'.cell? (f_ (W+1) 1)=some (.bool sb)/\w'.cell? (f_ (W+1) 2)=some (.bool sc)/\w'.cell? (f_ (W+1) 3)=some (i_ sn))/\Below w w w'/\Sl w' w' 5 In.cells (some (f_ ab ao)) n l from fun V w' nq hV hb=>by
  obtain ⟨U,hU,hUb,hUz,U0,U1⟩:=co_ W [i_ k,i_ x.a,i_ x.b,i_ x.c,i_ x.n] 202 [.bool sa,.bool sb,.bool sc,i_ sn] 268
  rw [←hU] at hV
  have hbU:Below U U w':=by
   have h1:Below U U V:=by rw [hV];exact below_drewN (b_) _
   exact h1.trans (hb.mono h1.size)
  have hbW:Below W W w':=hUb.trans (hbU.mono hUb.size)
  have b0:=B0.below hbW
  have b1:=U0.below hbU
  have b2:=U1.below hbU
  exact ⟨⟨b0.2.1 0 _ rfl,b0.2.1 1 _ rfl,b0.2.1 2 _ rfl⟩,⟨b1.2.1 0 _ rfl,b1.2.1 1 _ rfl,b1.2.1 2 _ rfl,b1.2.1 3 _ rfl,b1.2.1 4 _ rfl⟩,⟨b2.2.1 0 _ rfl,b2.2.1 1 _ rfl,b2.2.1 2 _ rfl,b2.2.1 3 _ rfl⟩,hWb.trans (hbW.mono hWb.size),HS.o.up hbW⟩)
 have x0:W.cell? ⟨ab,ao+i*5,none⟩=some (i_ k):=(belc hWb hlo).trans (by rw [←hk];exact hat i x hx 0 _ rfl);have x1:W.cell? ⟨ab,ao+i*5+1,none⟩=some (i_ x.a):=(belc hWb hlo).trans (hat i x hx 1 _ rfl);have x2:W.cell? ⟨ab,ao+i*5+2,none⟩=some (i_ x.b):=(belc hWb hlo).trans (hat i x hx 2 _ rfl);have x3:W.cell? ⟨ab,ao+i*5+3,none⟩=some (i_ x.c):=(belc hWb hlo).trans (hat i x hx 3 _ rfl);have x4:W.cell? ⟨ab,ao+i*5+4,none⟩=some (i_ x.n):=(belc hWb hlo).trans (hat i x hx 4 _ rfl);have d0:=B0.2.1 0 _ rfl;have s0:W.cell? ⟨g,k*4,none⟩=some (.bool sa):=by have:=sl_at HSH.o (sh_at hk22) (j:=0) rfl;rw [hst] at this;simpa using this
 have s1:W.cell? ⟨g,k*4+1,none⟩=some (.bool sb):=by have:=sl_at HSH.o (sh_at hk22) (j:=1) rfl;rw [hst] at this;simpa using this
 have s2:W.cell? ⟨g,k*4+2,none⟩=some (.bool sc):=by have:=sl_at HSH.o (sh_at hk22) (j:=2) rfl;rw [hst] at this;simpa using this
 have s3:W.cell? ⟨g,k*4+3,none⟩=some (i_ sn):=by have:=sl_at HSH.o (sh_at hk22) (j:=3) rfl;rw [hst] at this;simpa using this
 have hgW:g<W:=HSH.o.lt o_;have hlW:(w:Nat)<W:=by omega
 have haW:ab<W:=by omega
 have o1:¬((k:Int)<0):=by omega
 have o2:¬((21:Int)<(k:Int)):=by omega
 have o3:(k:Int)<22:=by omega
 have HO:=q_ hk;have HK22:=q_ hk22;clear hs hsh hat hx B0 hWb hWz hst hk HSH HS HL;go_enter func121,ntmps121;go_upto_region 1 with fail;rw [←hW];clear hW;have e13:((k:Int) == 13)=true:=by simp [HKK]
 have e10:((k:Int) == 10)=false:=by simp [HKK]
 have HK:=q_ HKK;clear HKK;by_cases g1:x.b<0
 ·skip
  go_upto_region 5 with fail;go_quiet (fail);obtain ⟨V,hV⟩:=ex_ (((W.alloc (.cells #[i_ k,i_ x.a,i_ x.b,i_ x.c,i_ x.n] 202)).alloc (.cells #[.bool sa,.bool sb,.bool sc,i_ sn] 268)).drewN nq);have HV:=q_ (Below.refl V V);have HQ:=q_ (fun w'=>KV.o V w' nq hV);clear x0 x1 x2 x3 x4 s0 s1 s2 s3 d0;obtain ⟨⟨c0,c1,c2⟩,⟨x0,x1,x2,x3,x4⟩,⟨s0,s1,s2,s3⟩,hbw2,hsl2⟩:=KV.o V V nq hV (b_);rw [←hV];have hsl:=q_ hsl2;have hbw:=q_ hbw2;clear hV hbw2 hsl2 KV;exact cfL
 by_cases g2:4<x.b
 ·skip
  go_upto_region 5 with fail;go_quiet (fail);obtain ⟨V,hV⟩:=ex_ (((W.alloc (.cells #[i_ k,i_ x.a,i_ x.b,i_ x.c,i_ x.n] 202)).alloc (.cells #[.bool sa,.bool sb,.bool sc,i_ sn] 268)).drewN nq);have HV:=q_ (Below.refl V V);have HQ:=q_ (fun w'=>KV.o V w' nq hV);clear x0 x1 x2 x3 x4 s0 s1 s2 s3 d0;obtain ⟨⟨c0,c1,c2⟩,⟨x0,x1,x2,x3,x4⟩,⟨s0,s1,s2,s3⟩,hbw2,hsl2⟩:=KV.o V V nq hV (b_);rw [←hV];have hsl:=q_ hsl2;have hbw:=q_ hbw2;clear hV hbw2 hsl2 KV;exact cfL
 by_cases g3:x.c<x.b
 ·skip
  go_upto_region 5 with fail;go_quiet (fail);obtain ⟨V,hV⟩:=ex_ (((W.alloc (.cells #[i_ k,i_ x.a,i_ x.b,i_ x.c,i_ x.n] 202)).alloc (.cells #[.bool sa,.bool sb,.bool sc,i_ sn] 268)).drewN nq);have HV:=q_ (Below.refl V V);have HQ:=q_ (fun w'=>KV.o V w' nq hV);clear x0 x1 x2 x3 x4 s0 s1 s2 s3 d0;obtain ⟨⟨c0,c1,c2⟩,⟨x0,x1,x2,x3,x4⟩,⟨s0,s1,s2,s3⟩,hbw2,hsl2⟩:=KV.o V V nq hV (b_);rw [←hV];have hsl:=q_ hsl2;have hbw:=q_ hbw2;clear hV hbw2 hsl2 KV;exact cfL
 by_cases g4:64<x.c
 ·skip
  go_upto_region 5 with fail;go_quiet (fail);obtain ⟨V,hV⟩:=ex_ (((W.alloc (.cells #[i_ k,i_ x.a,i_ x.b,i_ x.c,i_ x.n] 202)).alloc (.cells #[.bool sa,.bool sb,.bool sc,i_ sn] 268)).drewN nq);have HV:=q_ (Below.refl V V);have HQ:=q_ (fun w'=>KV.o V w' nq hV);clear x0 x1 x2 x3 x4 s0 s1 s2 s3 d0;obtain ⟨⟨c0,c1,c2⟩,⟨x0,x1,x2,x3,x4⟩,⟨s0,s1,s2,s3⟩,hbw2,hsl2⟩:=KV.o V V nq hV (b_);rw [←hV];have hsl:=q_ hsl2;have hbw:=q_ hbw2;clear hV hbw2 hsl2 KV;exact cfL
 have HP:=h_ (0<=x.b/\x.b<=4/\x.b<=x.c/\x.c<=64) o_;go_upto_region 5 with fail;go_quiet (fail);obtain ⟨V,hV⟩:=ex_ (((W.alloc (.cells #[i_ k,i_ x.a,i_ x.b,i_ x.c,i_ x.n] 202)).alloc (.cells #[.bool sa,.bool sb,.bool sc,i_ sn] 268)).drewN nq);have HV:=q_ (Below.refl V V);have HQ:=q_ (fun w'=>KV.o V w' nq hV);clear x0 x1 x2 x3 x4 s0 s1 s2 s3 d0;obtain ⟨⟨c0,c1,c2⟩,⟨x0,x1,x2,x3,x4⟩,⟨s0,s1,s2,s3⟩,hbw2,hsl2⟩:=KV.o V V nq hV (b_);rw [←hV];have hsl:=q_ hsl2;have hbw:=q_ hbw2;clear hV hbw2 hsl2 KV;obtain rfl:sn=7:=by have:=HN.o;have:=HK.o;omega
 go_wp2_with (first | (go_at_call 168;first | (refine (ax_ x.a _ _).mono ?_;rintro e Y ⟨⟨rA,rfl,hA⟩,hY⟩;have HV2:=q_ (HV.o.trans (hY.mono HV.o.size));clear HV hY c0 c1 c2 x0 x1 x2 x3 x4 s0 s1 s2 s3 hbw hsl;have HV:=HV2;clear HV2;obtain ⟨⟨c0,c1,c2⟩,⟨x0,x1,x2,x3,x4⟩,⟨s0,s1,s2,s3⟩,hbw2,hsl2⟩:=HQ.o Y HV.o;have hbw:=q_ hbw2;have hsl:=q_ hsl2;clear hbw2 hsl2) | (refine (ax_ x.b _ _).mono ?_;rintro e Y ⟨⟨rB,rfl,hB⟩,hY⟩;have HV2:=q_ (HV.o.trans (hY.mono HV.o.size));clear HV hY c0 c1 c2 x0 x1 x2 x3 x4 s0 s1 s2 s3 hbw hsl;have HV:=HV2;clear HV2;obtain ⟨⟨c0,c1,c2⟩,⟨x0,x1,x2,x3,x4⟩,⟨s0,s1,s2,s3⟩,hbw2,hsl2⟩:=HQ.o Y HV.o;have hbw:=q_ hbw2;have hsl:=q_ hsl2;clear hbw2 hsl2) | (refine (ax_ x.c _ _).mono ?_;rintro e Y ⟨⟨rC,rfl,hC⟩,hY⟩;have HV2:=q_ (HV.o.trans (hY.mono HV.o.size));clear HV hY c0 c1 c2 x0 x1 x2 x3 x4 s0 s1 s2 s3 hbw hsl;have HV:=HV2;clear HV2;obtain ⟨⟨c0,c1,c2⟩,⟨x0,x1,x2,x3,x4⟩,⟨s0,s1,s2,s3⟩,hbw2,hsl2⟩:=HQ.o Y HV.o;have hbw:=q_ hbw2;have hsl:=q_ hsl2;clear hbw2 hsl2)) | (go_at_call 128;refine (op_any (some (f_ ab ao)) n c v s _ l _ hsl.o o_).mono ?_;rintro e Y ⟨⟨q,rfl,hq⟩,hY⟩;have HV2:=q_ (HV.o.trans (hY.mono HV.o.size));clear HV hY c0 c1 c2 x0 x1 x2 x3 x4 s0 s1 s2 s3 hbw hsl;have HV:=HV2;clear HV2;obtain ⟨⟨c0,c1,c2⟩,⟨x0,x1,x2,x3,x4⟩,⟨s0,s1,s2,s3⟩,hbw2,hsl2⟩:=HQ.o Y HV.o;have hbw:=q_ hbw2;have hsl:=q_ hsl2;clear hbw2 hsl2) | (go_at_call 169;refine (eu_ _ _).mono ?_;rintro e Y ⟨⟨ba,rfl⟩,hY⟩;have HV2:=q_ (HV.o.trans (hY.mono HV.o.size));clear HV hY c0 c1 c2 x0 x1 x2 x3 x4 s0 s1 s2 s3 hbw hsl;have HV:=HV2;clear HV2;obtain ⟨⟨c0,c1,c2⟩,⟨x0,x1,x2,x3,x4⟩,⟨s0,s1,s2,s3⟩,hbw2,hsl2⟩:=HQ.o Y HV.o;have hbw:=q_ hbw2;have hsl:=q_ hsl2;clear hbw2 hsl2) | (go_at_call 170;refine (Name_any _ _).mono ?_;rintro e Y ⟨⟨ns,nb,rfl⟩,hY⟩;have HV2:=q_ (HV.o.trans (hY.mono HV.o.size));clear HV hY c0 c1 c2 x0 x1 x2 x3 x4 s0 s1 s2 s3 hbw hsl;have HV:=HV2;clear HV2;obtain ⟨⟨c0,c1,c2⟩,⟨x0,x1,x2,x3,x4⟩,⟨s0,s1,s2,s3⟩,hbw2,hsl2⟩:=HQ.o Y HV.o;have hbw:=q_ hbw2;have hsl:=q_ hsl2;clear hbw2 hsl2));all_goals first | (go_ret;exact ⟨rfits_no l i x,hbw.o⟩) | (go_ret;exact ⟨⟨_,rfl,fun hh=>mkOk HO.o HK22.o (hA.o (by first | rfl | trivial | assumption)) (fun h=>absurd HK.o h) (fun h=>absurd HK.o h) (fun _=>HP.o) (fun _=>hq.o.trans (by simpa using hh)) (fun h=>by have:=HK.o;omega) (fun h=>by have:=HK.o;omega)⟩,hbw.o⟩)
theorem fits_10 (A:OA) (n c:Nat) (v s:Int) (i:Nat) (l:List In) (x:In) (g k:Nat) (w:World) (hs:Sl w w 5 In.cells A n l) (hn:n<=2048) (hx:l[i]?=some x) (hsh:Sl w w 4 shCells (some (a_ g)) 22 shTab) (hk:x.op=k) (hk22:k<22) (HKK:k=10) :
  Calls prog 121 #[.agg #[.slice A n c,i_ v,i_ s],i_ i,.slice (some (a_ g)) 22 22] w fun e w'=>RFits l i x e/\Below w w w':=by
 have HL:=q_ hs.len;have hin:i<n:=by have:=(e_ hx).1;rw [HL.o] at this;exact this
 have hinI:(i:Int)<(n:Int):=by omega
 have hwi:IntKind.i64.wrap ((i:Int)+1)=(i:Int)+1:=by rw [IntKind.wrap_i64];omega
 have hwj:IntKind.i64.wrap ((i:Int) - 1)=(i:Int) - 1:=by rw [IntKind.wrap_i64];omega
 obtain ⟨ab,ao,rfl,hlo,hat⟩:=hs.at_ o_;obtain ⟨sa,sb,sc,sn,hst⟩:∃ sa sb sc sn,shAt k=(sa,sb,sc,sn):=⟨_,_,_,_,rfl⟩;have HN:=h_ ((sn=4/\k=7)∨(sn=6/\(k=11∨k=12))∨(sn=7/\k=13)∨(sn≠4/\sn≠6/\sn≠7/\k≠7/\k≠11/\k≠12/\k≠13)) (by have:=sh_n hk22;rw [hst] at this;exact this);have HN5:=h_ ((k=10->sn=5)/\(sn=0∨sn=1∨sn=2∨sn=3∨sn=4∨sn=5∨sn=6∨sn=7∨sn=8∨sn=9)) (by have:=sh_v hk22;rw [hst] at this;exact this);obtain ⟨W,hW,hWb,hWz,B0⟩:=af_ w [.slice (some (f_ ab ao)) n c,i_ v,i_ s] 26;have HS:=q_ (hs.up hWb);have HSH:=q_ (hsh.up hWb);have KV:=q_ (show ∀ (V w':World) (nq:Nat),V=((W.alloc (.cells #[i_ k,i_ x.a,i_ x.b,i_ x.c,i_ x.n] 202)).alloc (.cells #[.bool sa,.bool sb,.bool sc,i_ sn] 268)).drewN nq->Below V V w' →
   (w'.cell? (a_ w)=some (.slice (some (f_ ab ao)) n c)/\w'.cell? (f_ w 1)=some (i_ v)/\w'.cell? (f_ w 2)=some (i_ s)) ∧
   (w'.cell? (a_ W)=some (i_ k)/\w'.cell? (f_ W 1)=some (i_ x.a)/\w'.cell? (f_ W 2)=some (i_ x.b)/\w'.cell? (f_ W 3)=some (i_ x.c)/\w'.cell? (f_ W 4)=some (i_ x.n)) ∧
   (w'.cell? (a_ (W+1))=some (.bool sa)/\w'.cell? (f_ (W+1) 1)=some (.bool sb)/\w'.cell? (f_ (W+1) 2)=some (.bool sc)/\w'.cell? (f_ (W+1) 3)=some (i_ sn))/\Below w w w'/\Sl w' w' 5 In.cells (some (f_ ab ao)) n l from fun V w' nq hV hb=>by
  obtain ⟨U,hU,hUb,hUz,U0,U1⟩:=co_ W [i_ k,i_ x.a,i_ x.b,i_ x.c,i_ x.n] 202 [.bool sa,.bool sb,.bool sc,i_ sn] 268
  rw [←hU] at hV
  have hbU:Below U U w':=by
   have h1:Below U U V:=by rw [hV];exact below_drewN (b_) _
   exact h1.trans (hb.mono h1.size)
  have hbW:Below W W w':=hUb.trans (hbU.mono hUb.size)
  have b0:=B0.below hbW
  have b1:=U0.below hbU
  have b2:=U1.below hbU
  exact ⟨⟨b0.2.1 0 _ rfl,b0.2.1 1 _ rfl,b0.2.1 2 _ rfl⟩,⟨b1.2.1 0 _ rfl,b1.2.1 1 _ rfl,b1.2.1 2 _ rfl,b1.2.1 3 _ rfl,b1.2.1 4 _ rfl⟩,⟨b2.2.1 0 _ rfl,b2.2.1 1 _ rfl,b2.2.1 2 _ rfl,b2.2.1 3 _ rfl⟩,hWb.trans (hbW.mono hWb.size),HS.o.up hbW⟩)
 have x0:W.cell? ⟨ab,ao+i*5,none⟩=some (i_ k):=(belc hWb hlo).trans (by rw [←hk];exact hat i x hx 0 _ rfl);have x1:W.cell? ⟨ab,ao+i*5+1,none⟩=some (i_ x.a):=(belc hWb hlo).trans (hat i x hx 1 _ rfl);have x2:W.cell? ⟨ab,ao+i*5+2,none⟩=some (i_ x.b):=(belc hWb hlo).trans (hat i x hx 2 _ rfl);have x3:W.cell? ⟨ab,ao+i*5+3,none⟩=some (i_ x.c):=(belc hWb hlo).trans (hat i x hx 3 _ rfl);have x4:W.cell? ⟨ab,ao+i*5+4,none⟩=some (i_ x.n):=(belc hWb hlo).trans (hat i x hx 4 _ rfl);have d0:=B0.2.1 0 _ rfl;have s0:W.cell? ⟨g,k*4,none⟩=some (.bool sa):=by have:=sl_at HSH.o (sh_at hk22) (j:=0) rfl;rw [hst] at this;simpa using this
 have s1:W.cell? ⟨g,k*4+1,none⟩=some (.bool sb):=by have:=sl_at HSH.o (sh_at hk22) (j:=1) rfl;rw [hst] at this;simpa using this
 have s2:W.cell? ⟨g,k*4+2,none⟩=some (.bool sc):=by have:=sl_at HSH.o (sh_at hk22) (j:=2) rfl;rw [hst] at this;simpa using this
 have s3:W.cell? ⟨g,k*4+3,none⟩=some (i_ sn):=by have:=sl_at HSH.o (sh_at hk22) (j:=3) rfl;rw [hst] at this;simpa using this
 have hgW:g<W:=HSH.o.lt o_;have hlW:(w:Nat)<W:=by omega
 have haW:ab<W:=by omega
 have o1:¬((k:Int)<0):=by omega
 have o2:¬((21:Int)<(k:Int)):=by omega
 have o3:(k:Int)<22:=by omega
 have HO:=q_ hk;have HK22:=q_ hk22;clear hs hsh hat hx B0 hWb hWz hst hk HSH HS HL;go_enter func121,ntmps121;go_upto_region 1 with fail;rw [←hW];clear hW;have e13:((k:Int) == 13)=false:=by simp [HKK]
 have e10:((k:Int) == 10)=true:=by simp [HKK]
 have HK:=q_ HKK;clear HKK;obtain rfl:sn=5:=HN5.o.1 HK.o;go_upto_region 5 with fail;go_quiet (fail);obtain ⟨V,hV⟩:=ex_ (((W.alloc (.cells #[i_ k,i_ x.a,i_ x.b,i_ x.c,i_ x.n] 202)).alloc (.cells #[.bool sa,.bool sb,.bool sc,i_ 5] 268)).drewN nq);have HV:=q_ (Below.refl V V);have HQ:=q_ (fun w'=>KV.o V w' nq hV);clear x0 x1 x2 x3 x4 s0 s1 s2 s3 d0;obtain ⟨⟨c0,c1,c2⟩,⟨x0,x1,x2,x3,x4⟩,⟨s0,s1,s2,s3⟩,hbw2,hsl2⟩:=KV.o V V nq hV (b_);rw [←hV];have hsl:=q_ hsl2;have hbw:=q_ hbw2;clear hV hbw2 hsl2 KV;go_wp2_with fail;refine (ax_ x.a _ _).mono ?_;rintro e Y ⟨⟨rA,rfl,hA⟩,hY⟩;have HV2:=q_ (HV.o.trans (hY.mono HV.o.size));clear HV hY c0 c1 c2 x0 x1 x2 x3 x4 s0 s1 s2 s3 hbw hsl;have HV:=HV2;clear HV2;obtain ⟨⟨c0,c1,c2⟩,⟨x0,x1,x2,x3,x4⟩,⟨s0,s1,s2,s3⟩,hbw2,hsl2⟩:=HQ.o Y HV.o;have hbw:=q_ hbw2;have hsl:=q_ hsl2;clear hbw2 hsl2;cases rA
 ·exact cfL
 go_wp2_with fail;refine (ax_ x.c _ _).mono ?_;rintro e Y ⟨⟨rC,rfl,hC⟩,hY⟩;have HV2:=q_ (HV.o.trans (hY.mono HV.o.size));clear HV hY c0 c1 c2 x0 x1 x2 x3 x4 s0 s1 s2 s3 hbw hsl;have HV:=HV2;clear HV2;obtain ⟨⟨c0,c1,c2⟩,⟨x0,x1,x2,x3,x4⟩,⟨s0,s1,s2,s3⟩,hbw2,hsl2⟩:=HQ.o Y HV.o;have hbw:=q_ hbw2;have hsl:=q_ hsl2;clear hbw2 hsl2;cases rC
 ·exact cfL
 go_wp2_with fail;refine (eu_ _ _).mono ?_;rintro e Y ⟨⟨ba,rfl⟩,hY⟩;have HV2:=q_ (HV.o.trans (hY.mono HV.o.size));clear HV hY c0 c1 c2 x0 x1 x2 x3 x4 s0 s1 s2 s3 hbw hsl;have HV:=HV2;clear HV2;obtain ⟨⟨c0,c1,c2⟩,⟨x0,x1,x2,x3,x4⟩,⟨s0,s1,s2,s3⟩,hbw2,hsl2⟩:=HQ.o Y HV.o;have hbw:=q_ hbw2;have hsl:=q_ hsl2;clear hbw2 hsl2;cases ba
 ·exact cfL
 go_wp2_with (first | (go_at_call 168;first | (refine (ax_ x.a _ _).mono ?_;rintro e Y ⟨⟨rA,rfl,hA⟩,hY⟩;have HV2:=q_ (HV.o.trans (hY.mono HV.o.size));clear HV hY c0 c1 c2 x0 x1 x2 x3 x4 s0 s1 s2 s3 hbw hsl;have HV:=HV2;clear HV2;obtain ⟨⟨c0,c1,c2⟩,⟨x0,x1,x2,x3,x4⟩,⟨s0,s1,s2,s3⟩,hbw2,hsl2⟩:=HQ.o Y HV.o;have hbw:=q_ hbw2;have hsl:=q_ hsl2;clear hbw2 hsl2) | (refine (ax_ x.b _ _).mono ?_;rintro e Y ⟨⟨rB,rfl,hB⟩,hY⟩;have HV2:=q_ (HV.o.trans (hY.mono HV.o.size));clear HV hY c0 c1 c2 x0 x1 x2 x3 x4 s0 s1 s2 s3 hbw hsl;have HV:=HV2;clear HV2;obtain ⟨⟨c0,c1,c2⟩,⟨x0,x1,x2,x3,x4⟩,⟨s0,s1,s2,s3⟩,hbw2,hsl2⟩:=HQ.o Y HV.o;have hbw:=q_ hbw2;have hsl:=q_ hsl2;clear hbw2 hsl2) | (refine (ax_ x.c _ _).mono ?_;rintro e Y ⟨⟨rC,rfl,hC⟩,hY⟩;have HV2:=q_ (HV.o.trans (hY.mono HV.o.size));clear HV hY c0 c1 c2 x0 x1 x2 x3 x4 s0 s1 s2 s3 hbw hsl;have HV:=HV2;clear HV2;obtain ⟨⟨c0,c1,c2⟩,⟨x0,x1,x2,x3,x4⟩,⟨s0,s1,s2,s3⟩,hbw2,hsl2⟩:=HQ.o Y HV.o;have hbw:=q_ hbw2;have hsl:=q_ hsl2;clear hbw2 hsl2)) | (go_at_call 128;refine (op_any (some (f_ ab ao)) n c v s _ l _ hsl.o o_).mono ?_;rintro e Y ⟨⟨q,rfl,hq⟩,hY⟩;have HV2:=q_ (HV.o.trans (hY.mono HV.o.size));clear HV hY c0 c1 c2 x0 x1 x2 x3 x4 s0 s1 s2 s3 hbw hsl;have HV:=HV2;clear HV2;obtain ⟨⟨c0,c1,c2⟩,⟨x0,x1,x2,x3,x4⟩,⟨s0,s1,s2,s3⟩,hbw2,hsl2⟩:=HQ.o Y HV.o;have hbw:=q_ hbw2;have hsl:=q_ hsl2;clear hbw2 hsl2) | (go_at_call 169;refine (eu_ _ _).mono ?_;rintro e Y ⟨⟨ba,rfl⟩,hY⟩;have HV2:=q_ (HV.o.trans (hY.mono HV.o.size));clear HV hY c0 c1 c2 x0 x1 x2 x3 x4 s0 s1 s2 s3 hbw hsl;have HV:=HV2;clear HV2;obtain ⟨⟨c0,c1,c2⟩,⟨x0,x1,x2,x3,x4⟩,⟨s0,s1,s2,s3⟩,hbw2,hsl2⟩:=HQ.o Y HV.o;have hbw:=q_ hbw2;have hsl:=q_ hsl2;clear hbw2 hsl2) | (go_at_call 170;refine (Name_any _ _).mono ?_;rintro e Y ⟨⟨ns,nb,rfl⟩,hY⟩;have HV2:=q_ (HV.o.trans (hY.mono HV.o.size));clear HV hY c0 c1 c2 x0 x1 x2 x3 x4 s0 s1 s2 s3 hbw hsl;have HV:=HV2;clear HV2;obtain ⟨⟨c0,c1,c2⟩,⟨x0,x1,x2,x3,x4⟩,⟨s0,s1,s2,s3⟩,hbw2,hsl2⟩:=HQ.o Y HV.o;have hbw:=q_ hbw2;have hsl:=q_ hsl2;clear hbw2 hsl2));all_goals first | (go_ret;exact ⟨rfits_no l i x,hbw.o⟩) | (go_ret;exact ⟨⟨_,rfl,fun hh=>mkOk HO.o HK22.o (hA.o (by first | rfl | trivial | assumption)) (fun _ h=>absurd HK.o h) (fun _=>hC.o (by first | rfl | trivial | assumption)) (fun h=>by have:=HK.o;omega) (fun h=>by have:=HK.o;omega) (fun h=>by have:=HK.o;omega) (fun h=>by have:=HK.o;omega)⟩,hbw.o⟩)
end Go.Proofs.YtfolidlmgfhkiaaGreat
