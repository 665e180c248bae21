/- Lemmas: each says what a function of the program leaves, under the conditions that it states. -/
import Derived.Test.YtfolidlmgfhkiaaGreatZ16
import Derived.Test.YtfolidlmgfhkiaaGreatZ15
set_option linter.unusedVariables false
set_option linter.unusedSimpArgs false
set_option maxRecDepth 100000
set_option maxHeartbeats 20000000
namespace Go.Proofs.YtfolidlmgfhkiaaGreat
open Go.RowKit Go.Proofs.Tryz
theorem fits_O (A:OA) (n c:Nat) (v s:Int) (i:Nat) (l:List In) (x:In) (g k:Nat) (w:World) (hs:Sl w w 5 In.cells A n l) (hn:n<=2048) (hx:l[i]?=some x) (hsh:Sl w w 4 shCells (some (a_ g)) 22 shTab) (hk:x.op=k) (hk22:k<22) (HKK:k≠13/\k≠10) :
  Calls prog 121 #[.agg #[.slice A n c,i_ v,i_ s],i_ i,.slice (some (a_ g)) 22 22] w fun e w'=>RFits l i x e/\Below w w w':=by
 have HL:=q_ hs.len;have hin:i<n:=by have:=(e_ hx).1;rw [HL.o] at this;exact this
 have hinI:(i:Int)<(n:Int):=by omega
 have hwi:IntKind.i64.wrap ((i:Int)+1)=(i:Int)+1:=by rw [IntKind.wrap_i64];omega
 have hwj:IntKind.i64.wrap ((i:Int) - 1)=(i:Int) - 1:=by rw [IntKind.wrap_i64];omega
 obtain ⟨ab,ao,rfl,hlo,hat⟩:=hs.at_ o_;obtain ⟨sa,sb,sc,sn,hst⟩:∃ sa sb sc sn,shAt k=(sa,sb,sc,sn):=⟨_,_,_,_,rfl⟩;have HN:=h_ ((sn=4/\k=7)∨(sn=6/\(k=11∨k=12))∨(sn=7/\k=13)∨(sn≠4/\sn≠6/\sn≠7/\k≠7/\k≠11/\k≠12/\k≠13)) (by have:=sh_n hk22;rw [hst] at this;exact this);have HN5:=h_ ((k=10->sn=5)/\(sn=0∨sn=1∨sn=2∨sn=3∨sn=4∨sn=5∨sn=6∨sn=7∨sn=8∨sn=9)) (by have:=sh_v hk22;rw [hst] at this;exact this);obtain ⟨W,hW,hWb,hWz,B0⟩:=af_ w [.slice (some (f_ ab ao)) n c,i_ v,i_ s] 26;have HS:=q_ (hs.up hWb);have HSH:=q_ (hsh.up hWb);have KV:=q_ (show ∀ (V w':World) (nq:Nat),V=((W.alloc (.cells #[i_ k,i_ x.a,i_ x.b,i_ x.c,i_ x.n] 202)).alloc (.cells #[.bool sa,.bool sb,.bool sc,i_ sn] 268)).drewN nq->Below V V w' →
   (w'.cell? (a_ w)=some (.slice (some (f_ ab ao)) n c)/\w'.cell? (f_ w 1)=some (i_ v)/\w'.cell? (f_ w 2)=some (i_ s)) ∧
   (w'.cell? (a_ W)=some (i_ k)/\w'.cell? (f_ W 1)=some (i_ x.a)/\w'.cell? (f_ W 2)=some (i_ x.b)/\w'.cell? (f_ W 3)=some (i_ x.c)/\w'.cell? (f_ W 4)=some (i_ x.n)) ∧
   (w'.cell? (a_ (W+1))=some (.bool sa)/\w'.cell? (f_ (W+1) 1)=some (.bool sb)/\w'.cell? (f_ (W+1) 2)=some (.bool sc)/\w'.cell? (f_ (W+1) 3)=some (i_ sn))/\Below w w w'/\Sl w' w' 5 In.cells (some (f_ ab ao)) n l from fun V w' nq hV hb=>by
  obtain ⟨U,hU,hUb,hUz,U0,U1⟩:=co_ W [i_ k,i_ x.a,i_ x.b,i_ x.c,i_ x.n] 202 [.bool sa,.bool sb,.bool sc,i_ sn] 268
  rw [←hU] at hV
  have hbU:Below U U w':=by
   have h1:Below U U V:=by rw [hV];exact below_drewN (b_) _
   exact h1.trans (hb.mono h1.size)
  have hbW:Below W W w':=hUb.trans (hbU.mono hUb.size)
  have b0:=B0.below hbW
  have b1:=U0.below hbU
  have b2:=U1.below hbU
  exact ⟨⟨b0.2.1 0 _ rfl,b0.2.1 1 _ rfl,b0.2.1 2 _ rfl⟩,⟨b1.2.1 0 _ rfl,b1.2.1 1 _ rfl,b1.2.1 2 _ rfl,b1.2.1 3 _ rfl,b1.2.1 4 _ rfl⟩,⟨b2.2.1 0 _ rfl,b2.2.1 1 _ rfl,b2.2.1 2 _ rfl,b2.2.1 3 _ rfl⟩,hWb.trans (hbW.mono hWb.size),HS.o.up hbW⟩)
 have x0:W.cell? ⟨ab,ao+i*5,none⟩=some (i_ k):=(belc hWb hlo).trans (by rw [←hk];exact hat i x hx 0 _ rfl);have x1:W.cell? ⟨ab,ao+i*5+1,none⟩=some (i_ x.a):=(belc hWb hlo).trans (hat i x hx 1 _ rfl);have x2:W.cell? ⟨ab,ao+i*5+2,none⟩=some (i_ x.b):=(belc hWb hlo).trans (hat i x hx 2 _ rfl);have x3:W.cell? ⟨ab,ao+i*5+3,none⟩=some (i_ x.c):=(belc hWb hlo).trans (hat i x hx 3 _ rfl);have x4:W.cell? ⟨ab,ao+i*5+4,none⟩=some (i_ x.n):=(belc hWb hlo).trans (hat i x hx 4 _ rfl);have d0:=B0.2.1 0 _ rfl;have s0:W.cell? ⟨g,k*4,none⟩=some (.bool sa):=by have:=sl_at HSH.o (sh_at hk22) (j:=0) rfl;rw [hst] at this;simpa using this
 have s1:W.cell? ⟨g,k*4+1,none⟩=some (.bool sb):=by have:=sl_at HSH.o (sh_at hk22) (j:=1) rfl;rw [hst] at this;simpa using this
 have s2:W.cell? ⟨g,k*4+2,none⟩=some (.bool sc):=by have:=sl_at HSH.o (sh_at hk22) (j:=2) rfl;rw [hst] at this;simpa using this
 have s3:W.cell? ⟨g,k*4+3,none⟩=some (i_ sn):=by have:=sl_at HSH.o (sh_at hk22) (j:=3) rfl;rw [hst] at this;simpa using this
 have hgW:g<W:=HSH.o.lt o_;have hlW:(w:Nat)<W:=by omega
 have haW:ab<W:=by omega
 have o1:¬((k:Int)<0):=by omega
 have o2:¬((21:Int)<(k:Int)):=by omega
 have o3:(k:Int)<22:=by omega
 have HO:=q_ hk;have HK22:=q_ hk22;clear hs hsh hat hx B0 hWb hWz hst hk HSH HS HL;go_enter func121,ntmps121;go_upto_region 1 with fail;rw [←hW];clear hW;have e13:((k:Int) == 13)=false:=by simp;omega
 have e10:((k:Int) == 10)=false:=by simp;omega
 have HK:=q_ HKK;clear HKK;rcases HN.o with ⟨rfl,hk⟩ | ⟨rfl,hk⟩ | ⟨rfl,hk⟩ | ⟨h4,h6,h7,k1,k2,k3,k4⟩
 any_goals (first | exact absurd hk HK.o.1 | (have HK2:=h_ (k=7) hk;clear hk;by_cases z1:0<=x.n;by_cases z2:x.n<=16) | (have HK2:=h_ (k=11∨k=12) hk;clear hk;by_cases z1:(i:Int)<x.n) | (have HK2:=h_ (k≠7/\k≠11/\k≠12) (⟨k1,k2,k3⟩);clear k1 k2 k3 k4;rcases HN5.o.2 with rfl | rfl | rfl | rfl | rfl | rfl | rfl | rfl | rfl | rfl))
 any_goals (first | exact absurd rfl h4 | exact absurd rfl h6 | exact absurd rfl h7 | clear h4 h6 h7 | skip)
 all_goals
  go_upto_region 5 with fail;go_quiet (fail);first | (obtain ⟨V,hV⟩:=ex_ (((W.alloc (.cells #[i_ k,i_ x.a,i_ x.b,i_ x.c,i_ x.n] 202)).alloc (.cells #[.bool sa,.bool sb,.bool sc,i_ 0] 268)).drewN nq);rw [←hV]) | (obtain ⟨V,hV⟩:=ex_ (((W.alloc (.cells #[i_ k,i_ x.a,i_ x.b,i_ x.c,i_ x.n] 202)).alloc (.cells #[.bool sa,.bool sb,.bool sc,i_ 1] 268)).drewN nq);rw [←hV]) | (obtain ⟨V,hV⟩:=ex_ (((W.alloc (.cells #[i_ k,i_ x.a,i_ x.b,i_ x.c,i_ x.n] 202)).alloc (.cells #[.bool sa,.bool sb,.bool sc,i_ 2] 268)).drewN nq);rw [←hV]) | (obtain ⟨V,hV⟩:=ex_ (((W.alloc (.cells #[i_ k,i_ x.a,i_ x.b,i_ x.c,i_ x.n] 202)).alloc (.cells #[.bool sa,.bool sb,.bool sc,i_ 3] 268)).drewN nq);rw [←hV]) | (obtain ⟨V,hV⟩:=ex_ (((W.alloc (.cells #[i_ k,i_ x.a,i_ x.b,i_ x.c,i_ x.n] 202)).alloc (.cells #[.bool sa,.bool sb,.bool sc,i_ 4] 268)).drewN nq);rw [←hV]) | (obtain ⟨V,hV⟩:=ex_ (((W.alloc (.cells #[i_ k,i_ x.a,i_ x.b,i_ x.c,i_ x.n] 202)).alloc (.cells #[.bool sa,.bool sb,.bool sc,i_ 5] 268)).drewN nq);rw [←hV]) | (obtain ⟨V,hV⟩:=ex_ (((W.alloc (.cells #[i_ k,i_ x.a,i_ x.b,i_ x.c,i_ x.n] 202)).alloc (.cells #[.bool sa,.bool sb,.bool sc,i_ 6] 268)).drewN nq);rw [←hV]) | (obtain ⟨V,hV⟩:=ex_ (((W.alloc (.cells #[i_ k,i_ x.a,i_ x.b,i_ x.c,i_ x.n] 202)).alloc (.cells #[.bool sa,.bool sb,.bool sc,i_ 8] 268)).drewN nq);rw [←hV]) | (obtain ⟨V,hV⟩:=ex_ (((W.alloc (.cells #[i_ k,i_ x.a,i_ x.b,i_ x.c,i_ x.n] 202)).alloc (.cells #[.bool sa,.bool sb,.bool sc,i_ 9] 268)).drewN nq);rw [←hV])
  have HV:=q_ (Below.refl V V);have HQ:=q_ (fun w'=>KV.o V w' nq hV);clear x0 x1 x2 x3 x4 s0 s1 s2 s3 d0;obtain ⟨⟨c0,c1,c2⟩,⟨x0,x1,x2,x3,x4⟩,⟨s0,s1,s2,s3⟩,hbw2,hsl2⟩:=KV.o V V nq hV (b_);have hsl:=q_ hsl2;have hbw:=q_ hbw2;clear hV hbw2 hsl2 KV;go_wp2_with fail;refine (ax_ x.a _ _).mono ?_;rintro e Y ⟨⟨rA,rfl,hA⟩,hY⟩;have HV2:=q_ (HV.o.trans (hY.mono HV.o.size));clear HV hY c0 c1 c2 x0 x1 x2 x3 x4 s0 s1 s2 s3 hbw hsl;have HV:=HV2;clear HV2;obtain ⟨⟨c0,c1,c2⟩,⟨x0,x1,x2,x3,x4⟩,⟨s0,s1,s2,s3⟩,hbw2,hsl2⟩:=HQ.o Y HV.o;have hbw:=q_ hbw2;have hsl:=q_ hsl2;clear hbw2 hsl2;cases rA
  ·exact cfL
  go_wp2_with fail;refine (ax_ x.b _ _).mono ?_;rintro e Y ⟨⟨rB,rfl,hB⟩,hY⟩;have HV2:=q_ (HV.o.trans (hY.mono HV.o.size));clear HV hY c0 c1 c2 x0 x1 x2 x3 x4 s0 s1 s2 s3 hbw hsl;have HV:=HV2;clear HV2;obtain ⟨⟨c0,c1,c2⟩,⟨x0,x1,x2,x3,x4⟩,⟨s0,s1,s2,s3⟩,hbw2,hsl2⟩:=HQ.o Y HV.o;have hbw:=q_ hbw2;have hsl:=q_ hsl2;clear hbw2 hsl2;cases rB
  ·exact cfL
  go_wp2_with fail;refine (ax_ x.c _ _).mono ?_;rintro e Y ⟨⟨rC,rfl,hC⟩,hY⟩;have HV2:=q_ (HV.o.trans (hY.mono HV.o.size));clear HV hY c0 c1 c2 x0 x1 x2 x3 x4 s0 s1 s2 s3 hbw hsl;have HV:=HV2;clear HV2;obtain ⟨⟨c0,c1,c2⟩,⟨x0,x1,x2,x3,x4⟩,⟨s0,s1,s2,s3⟩,hbw2,hsl2⟩:=HQ.o Y HV.o;have hbw:=q_ hbw2;have hsl:=q_ hsl2;clear hbw2 hsl2;cases rC
  ·exact cfL
  go_wp2_with (first | (go_at_call 168;first | (refine (ax_ x.a _ _).mono ?_;rintro e Y ⟨⟨rA,rfl,hA⟩,hY⟩;have HV2:=q_ (HV.o.trans (hY.mono HV.o.size));clear HV hY c0 c1 c2 x0 x1 x2 x3 x4 s0 s1 s2 s3 hbw hsl;have HV:=HV2;clear HV2;obtain ⟨⟨c0,c1,c2⟩,⟨x0,x1,x2,x3,x4⟩,⟨s0,s1,s2,s3⟩,hbw2,hsl2⟩:=HQ.o Y HV.o;have hbw:=q_ hbw2;have hsl:=q_ hsl2;clear hbw2 hsl2) | (refine (ax_ x.b _ _).mono ?_;rintro e Y ⟨⟨rB,rfl,hB⟩,hY⟩;have HV2:=q_ (HV.o.trans (hY.mono HV.o.size));clear HV hY c0 c1 c2 x0 x1 x2 x3 x4 s0 s1 s2 s3 hbw hsl;have HV:=HV2;clear HV2;obtain ⟨⟨c0,c1,c2⟩,⟨x0,x1,x2,x3,x4⟩,⟨s0,s1,s2,s3⟩,hbw2,hsl2⟩:=HQ.o Y HV.o;have hbw:=q_ hbw2;have hsl:=q_ hsl2;clear hbw2 hsl2) | (refine (ax_ x.c _ _).mono ?_;rintro e Y ⟨⟨rC,rfl,hC⟩,hY⟩;have HV2:=q_ (HV.o.trans (hY.mono HV.o.size));clear HV hY c0 c1 c2 x0 x1 x2 x3 x4 s0 s1 s2 s3 hbw hsl;have HV:=HV2;clear HV2;obtain ⟨⟨c0,c1,c2⟩,⟨x0,x1,x2,x3,x4⟩,⟨s0,s1,s2,s3⟩,hbw2,hsl2⟩:=HQ.o Y HV.o;have hbw:=q_ hbw2;have hsl:=q_ hsl2;clear hbw2 hsl2)) | (go_at_call 128;refine (op_any (some (f_ ab ao)) n c v s _ l _ hsl.o o_).mono ?_;rintro e Y ⟨⟨q,rfl,hq⟩,hY⟩;have HV2:=q_ (HV.o.trans (hY.mono HV.o.size));clear HV hY c0 c1 c2 x0 x1 x2 x3 x4 s0 s1 s2 s3 hbw hsl;have HV:=HV2;clear HV2;obtain ⟨⟨c0,c1,c2⟩,⟨x0,x1,x2,x3,x4⟩,⟨s0,s1,s2,s3⟩,hbw2,hsl2⟩:=HQ.o Y HV.o;have hbw:=q_ hbw2;have hsl:=q_ hsl2;clear hbw2 hsl2) | (go_at_call 169;refine (eu_ _ _).mono ?_;rintro e Y ⟨⟨ba,rfl⟩,hY⟩;have HV2:=q_ (HV.o.trans (hY.mono HV.o.size));clear HV hY c0 c1 c2 x0 x1 x2 x3 x4 s0 s1 s2 s3 hbw hsl;have HV:=HV2;clear HV2;obtain ⟨⟨c0,c1,c2⟩,⟨x0,x1,x2,x3,x4⟩,⟨s0,s1,s2,s3⟩,hbw2,hsl2⟩:=HQ.o Y HV.o;have hbw:=q_ hbw2;have hsl:=q_ hsl2;clear hbw2 hsl2) | (go_at_call 170;refine (Name_any _ _).mono ?_;rintro e Y ⟨⟨ns,nb,rfl⟩,hY⟩;have HV2:=q_ (HV.o.trans (hY.mono HV.o.size));clear HV hY c0 c1 c2 x0 x1 x2 x3 x4 s0 s1 s2 s3 hbw hsl;have HV:=HV2;clear HV2;obtain ⟨⟨c0,c1,c2⟩,⟨x0,x1,x2,x3,x4⟩,⟨s0,s1,s2,s3⟩,hbw2,hsl2⟩:=HQ.o Y HV.o;have hbw:=q_ hbw2;have hsl:=q_ hsl2;clear hbw2 hsl2));all_goals first | (go_ret;exact ⟨rfits_no l i x,hbw.o⟩) | (go_ret;exact ⟨⟨_,rfl,fun hh=>mkOk HO.o HK22.o (hA.o (by first | rfl | trivial | assumption)) (fun _ _=>hB.o (by first | rfl | trivial | assumption)) (fun _=>hC.o (by first | rfl | trivial | assumption)) (fun h=>absurd h HK.o.1) (fun h=>absurd h HK.o.1) (fun _=>⟨z1,z2⟩) (fun h=>by have:=HK2.o;omega)⟩,hbw.o⟩) | (go_ret;exact ⟨⟨_,rfl,fun hh=>mkOk HO.o HK22.o (hA.o (by first | rfl | trivial | assumption)) (fun _ _=>hB.o (by first | rfl | trivial | assumption)) (fun _=>hC.o (by first | rfl | trivial | assumption)) (fun h=>absurd h HK.o.1) (fun h=>absurd h HK.o.1) (fun h=>by have:=HK2.o;omega) (fun _=>.inl z1)⟩,hbw.o⟩) | (go_ret;exact ⟨⟨_,rfl,fun hh=>mkOk HO.o HK22.o (hA.o (by first | rfl | trivial | assumption)) (fun _ _=>hB.o (by first | rfl | trivial | assumption)) (fun _=>hC.o (by first | rfl | trivial | assumption)) (fun h=>absurd h HK.o.1) (fun h=>absurd h HK.o.1) (fun h=>by have:=HK2.o;omega) (fun _=>.inr (hq.o.trans (by simp at hh;omega)))⟩,hbw.o⟩) | (go_ret;exact ⟨⟨_,rfl,fun hh=>mkOk HO.o HK22.o (hA.o (by first | rfl | trivial | assumption)) (fun _ _=>hB.o (by first | rfl | trivial | assumption)) (fun _=>hC.o (by first | rfl | trivial | assumption)) (fun h=>absurd h HK.o.1) (fun h=>absurd h HK.o.1) (fun h=>absurd h HK2.o.1) (fun h=>by have:=HK2.o;omega)⟩,hbw.o⟩) | (go_ret;exact ⟨⟨_,rfl,fun hh=>by exfalso;simp at hh;omega⟩,hbw.o⟩)
theorem fits_any (A:OA) (n c:Nat) (v s:Int) (i:Nat) (l:List In) (x:In) (g:Nat) (w:World) (hs:Sl w w 5 In.cells A n l) (hn:n<=2048) (hx:l[i]?=some x) (hsh:Sl w w 4 shCells (some (a_ g)) 22 shTab) :
  Calls prog 121 #[.agg #[.slice A n c,i_ v,i_ s],i_ i,.slice (some (a_ g)) 22 22] w fun e w'=>RFits l i x e/\Below w w w':=by
 by_cases ho:0<=x.op/\x.op<=21
 ·obtain ⟨k,hk⟩:∃ k:Nat,x.op=k:=⟨x.op.toNat,o_⟩;by_cases h13:k=13
  ·exact fits_13 A n c v s i l x g k w hs hn hx hsh hk o_ h13
  by_cases h10:k=10
  ·exact fits_10 A n c v s i l x g k w hs hn hx hsh hk o_ h10
  exact fits_O A n c v s i l x g k w hs hn hx hsh hk o_ ⟨h13,h10⟩
 have HL:=q_ hs.len;have hin:i<n:=by have:=(e_ hx).1;rw [HL.o] at this;exact this
 have A5:(i:Int)<(n:Int):=by omega
 obtain ⟨ab,ao,rfl,A2,A1⟩:=hs.at_ o_;obtain ⟨W,hW,A0,A4,B0⟩:=af_ w [.slice (some (f_ ab ao)) n c,i_ v,i_ s] 26;have x0:W.cell? ⟨ab,ao+i*5,none⟩=some (i_ x.op):=(belc A0 A2).trans (A1 i x hx 0 _ rfl);have x1:W.cell? ⟨ab,ao+i*5+1,none⟩=some (i_ x.a):=(belc A0 A2).trans (A1 i x hx 1 _ rfl);have x2:W.cell? ⟨ab,ao+i*5+2,none⟩=some (i_ x.b):=(belc A0 A2).trans (A1 i x hx 2 _ rfl);have x3:W.cell? ⟨ab,ao+i*5+3,none⟩=some (i_ x.c):=(belc A0 A2).trans (A1 i x hx 3 _ rfl);have x4:W.cell? ⟨ab,ao+i*5+4,none⟩=some (i_ x.n):=(belc A0 A2).trans (A1 i x hx 4 _ rfl);have d0:=B0.2.1 0 _ rfl;have A3:=q_ A0;have A6:=A0.size;have o1:x.op<0∨21<x.op:=by omega
 clear ho hs A1 hx B0 A0 A4;go_enter func121,ntmps121;go_upto_region 1 with fail;rw [←hW];clear hW;rcases o1 with o1 | o1
 ·go_wp2;go_ret;exact ⟨rfits_no l i x,(bel A3.o)⟩
 have o2:¬x.op<0:=by omega
 go_wp2;go_ret;exact ⟨rfits_no l i x,(bel A3.o)⟩
def Good (l:List In):Prop:=(∀ (i:Nat) (x:In),l[i]?=some x->OkI l i x)/\l.length<=2048
def RVal (l:List In) (s:Int) (e:Ending):Prop:=∃ b,e=.returned (.bool b)/\(b=true->Good l/\s<=2048)
theorem rval_no (l:List In) (s:Int):RVal l s (.returned (.bool false)):=⟨false,rfl,fun h=>by cases h⟩
def RValV (l:List In) (v s:Int) (e:Ending):Prop:=∃ b,e=.returned (.bool b)/\(b=true->(Good l/\s<=2048)/\0<=v/\v<=64)
theorem rvalv_no (l:List In) (v s:Int):RValV l v s (.returned (.bool false)):=⟨false,rfl,fun h=>by cases h⟩
theorem ValidV_any (A:OA) (n c:Nat) (v s:Int) (l:List In) (w:World) (hs:Sl w w 5 In.cells A n l) (hn:n<=9000000000000) :
  Calls prog 72 #[.agg #[.slice A n c,i_ v,i_ s]] w fun e w'=>RValV l v s e/\Below w w w':=by
 have HL:=q_ hs.len;by_cases hr:1<=n/\n<=2048
 ·obtain ⟨m,rfl⟩:∃ m,n=m+1:=⟨n - 1,o_⟩;obtain ⟨ab,ao,rfl,A8,A5⟩:=hs.at_ o_;obtain ⟨y,hy⟩:∃ y,l[0]?=some y:=⟨_,ge_ (by rw [HL.o];omega)⟩;obtain ⟨z,hz⟩:∃ z,l[m]?=some z:=⟨_,ge_ (by rw [HL.o];omega)⟩;obtain ⟨W,hW,A0,A7,B0⟩:=af_ w [.slice (some (f_ ab ao)) (m+1) c,i_ v,i_ s] 26;have HS:=q_ (hs.up A0);have KC:=h_ (∀ w',Below W W w'->(w'.cell? (a_ w)=some (.slice (some (f_ ab ao)) (m+1) c)/\w'.cell? (f_ w 1)=some (i_ v)/\w'.cell? (f_ w 2)=some (i_ s))/\(w'.cell? (f_ ab ao)=some (i_ y.op)/\w'.cell? ⟨ab,ao+m*5,none⟩=some (i_ z.op))/\Below w w w') (fun w' hb =>
   ⟨⟨(B0.below hb).2.1 0 _ rfl,(B0.below hb).2.1 1 _ rfl,(B0.below hb).2.1 2 _ rfl⟩,⟨(belc (A0.trans (hb.mono A0.size)) A8).trans (by have:=A5 0 y hy 0 _ rfl;simpa using this),(belc (A0.trans (hb.mono A0.size)) A8).trans (A5 m z hz 0 _ rfl)⟩,A0.trans (hb.mono A0.size)⟩)
  have KX:=h_ (∀ w',Below W W w'->∀ (k:Nat) (x:In),l[k]?=some x->(w'.cell? ⟨ab,ao+k*5,none⟩=some (i_ x.op)/\w'.cell? ⟨ab,ao+k*5+1,none⟩=some (i_ x.a)/\w'.cell? ⟨ab,ao+k*5+2,none⟩=some (i_ x.b)/\w'.cell? ⟨ab,ao+k*5+3,none⟩=some (i_ x.c)/\w'.cell? ⟨ab,ao+k*5+4,none⟩=some (i_ x.n))) (fun w' hb k x hx =>
   have h:=fun j u (hu:x.cells[j]?=some u)=>(belc (A0.trans (hb.mono A0.size)) A8).trans (A5 k x hx j u hu)
   ⟨h 0 _ rfl,h 1 _ rfl,h 2 _ rfl,h 3 _ rfl,h 4 _ rfl⟩)
  have As:IntKind.i64.wrap (((m+1:Nat):Int) - 1)=(m:Int):=by rw [IntKind.wrap_i64];omega
  have Ao:(m:Int)<((m+1:Nat):Int):=by omega
  have Ap:¬((m+1:Nat):Int)<1:=by omega
  have Aq:¬(2048:Int)<((m+1:Nat):Int):=by omega
  have HW:=q_ A0;have Am:(w:Nat)<W:=by omega
  obtain ⟨⟨c0,c1,c2⟩,⟨c3,c4⟩,_⟩:=KC.o W (b_);clear hs A5 hy hz B0 A0 A7;go_enter func72,ntmps72;go_upto_region 1 with fail;rw [←hW];clear hW;go_wp2_with (refine (shapes_any _).mono ?_;rintro e Y ⟨⟨g,rfl,hg⟩,hY⟩;have HY:=q_ hY;obtain ⟨⟨c0,c1,c2⟩,_,_⟩:=KC.o Y hY;clear hY);all_goals first
   | (go_ret;exact ⟨rvalv_no l v s,HW.o⟩)
   | skip
  all_goals
   clear c0 c1 c2 c3 c4;have Aj:=HY.o.size;have HG:=q_ hg.o;go_loopw [57,5] (fun i mk wr=>∃ (k:Nat) (q:Int),k<=m+1/\i=i_ k/\mk=i_ q/\Hid (0<=q/\q<=k)/\Hid (∀ (i:Nat) (x:In),i<k->l[i]?=some x->OkI l i x)/\Below Y Y wr) (fun i _ _=>m+1 - (intOf i).toNat)
   case atStart=>exact ⟨0,0,o_,rfl,rfl,q_ o_,q_ (fun i x h=>absurd h o_),b_⟩
   obtain ⟨k,q,hk,rfl,rfl,Ab,Af,hb⟩:=hrel;have Ar:IntKind.i64.wrap (q+1)=q+1:=by have:=Ab.o;rw [IntKind.wrap_i64];omega
   have A3:Below W W wr:=HY.o.trans (hb.mono Aj);obtain ⟨⟨c0,c1,c2⟩,_,A1⟩:=KC.o wr A3;by_cases hlt:k<m+1
   ·have Aa:(k:Int)<((m+1:Nat):Int):=by omega
    obtain ⟨x,hx⟩:∃ x,l[k]?=some x:=⟨_,ge_ (by rw [HL.o];exact hlt)⟩;obtain ⟨x0,x1,x2,x3,x4⟩:=KX.o wr A3 k x hx;have HX:=q_ hx;have HB:=q_ hb;have A6:=q_ A1;have Au:=A3.size;have A9:(w:Nat)<wr:=by omega
    have An:ab<wr:=by have:=A1.size;omega
    obtain ⟨V,hV,A2,Ad,V0⟩:=af_ wr [i_ x.op,i_ x.a,i_ x.b,i_ x.c,i_ x.n] 202;have HV:=q_ A2;have Al:=q_ Ad;have Ai:=q_ (HS.o.up (A3.trans (A2.mono A3.size)));have Ah:=q_ (HG.o.up (hb.trans (A2.mono hb.size)));have KV:=h_ (∀ w',Below V V w'->(w'.cell? (a_ wr)=some (i_ x.op)/\w'.cell? (f_ wr 4)=some (i_ x.n))/\Below Y Y w'/\Below w w w') (fun w' hv =>
     ⟨⟨(V0.below hv).2.1 0 _ rfl,(V0.below hv).2.1 4 _ rfl⟩,HB.o.trans ((A2.mono HB.o.size).trans (hv.mono (by have:=HB.o.size;omega))),A6.o.trans ((A2.mono A6.o.size).trans (hv.mono (by have:=A6.o.size;omega)))⟩)
    clear hx hb A3 A1 A2 Ad V0;have v0:V.cell? (a_ w)=some (.slice (some (f_ ab ao)) (m+1) c):=(belc HV.o A9).trans c0;have v1:V.cell? (f_ w 1)=some (i_ v):=(belc HV.o A9).trans c1;have v2:V.cell? (f_ w 2)=some (i_ s):=(belc HV.o A9).trans c2;go_upto_region 12 with fail;rw [←hV];clear hV c0 c1 c2 x0 x1 x2 x3 x4;go_wp2_with fail;refine (fits_any (some (f_ ab ao)) (m+1) c v s k l x g V Ai.o o_ HX.o Ah.o).mono ?_;rintro e Z ⟨⟨b,rfl,A4⟩,hZ⟩;obtain ⟨⟨z0,z4⟩,Ae,A1⟩:=KV.o Z hZ;have Ag:=q_ Ae;have Ac:=q_ A1;have HF:=q_ A4;clear hZ Ae A1 A4 v0 v1 v2;cases b with
    | false =>
     go_wp2;go_ret;exact ⟨rvalv_no l v s,Ac.o⟩
    | true =>
     have HP:=h_ (∀ (i:Nat) (x:In),i<k+1->l[i]?=some x->OkI l i x) (fun i y hi hy=>by
      by_cases hik:i=k
      ·subst hik;rw [HX.o] at hy;injection hy with hy;subst hy;exact HF.o rfl
      exact Af.o i y o_ hy)
     go_wp2;all_goals first
      | (go_ret;exact ⟨rvalv_no l v s,Ac.o⟩)
      | (go_roundw
         case rel=>exact ⟨k+1,_,o_,by go_num,rfl,q_ (by have:=Ab.o;omega),HP,Ag.o⟩
         case measure=>simp [intOf];omega)
   obtain rfl:k=m+1:=by omega
   have Aa:¬((m+1:Nat):Int)<((m+1:Nat):Int):=by omega
   have HP:=h_ (Good l) (⟨fun i x hx=>Af.o i x (by have:=(e_ hx).1;rw [HL.o] at this;exact this) hx,by rw [HL.o];omega⟩);go_wp2;go_ret;exact ⟨⟨_,rfl,fun hh=>⟨⟨HP.o,by have:=Ab.o;simp at hh;omega⟩,o_,o_⟩⟩,A1⟩
 have Ak:n<1∨2048<n:=by omega
 obtain ⟨W,hW,A0,A7,B0⟩:=af_ w [.slice A n c,i_ v,i_ s] 26;have c0:=B0.2.1 0 _ rfl;have HW:=q_ A0;clear hs hr B0 A7 A0;go_enter func72,ntmps72;go_upto_region 1 with fail;rw [←hW];clear hW;rcases Ak with h | h
 ·have h1:(n:Int)<1:=by omega
  go_wp2;go_ret;exact ⟨rvalv_no l v s,HW.o⟩
 have h1:¬(n:Int)<1:=by omega
 have h2:(2048:Int)<(n:Int):=by omega
 go_wp2;go_ret;exact ⟨rvalv_no l v s,HW.o⟩
theorem Valid_any (A:OA) (n c:Nat) (v s:Int) (l:List In) (w:World) (hs:Sl w w 5 In.cells A n l) (hn:n<=9000000000000) :
  Calls prog 72 #[.agg #[.slice A n c,i_ v,i_ s]] w fun e w'=>RVal l s e/\Below w w w':=by
 refine (ValidV_any A n c v s l w hs hn).mono ?_;rintro e w' ⟨⟨b,rfl,h⟩,hb⟩;exact ⟨⟨b,rfl,fun hh=>(h hh).1⟩,hb⟩
theorem Beginning_any (A:OA) (n c:Nat) (v s pc:Int) (l:List In) (w:World) (hs:Sl w w 5 In.cells A n l) (hn:n<=9000000000000) :
  Calls prog 79 #[.agg #[.slice A n c,i_ v,i_ s],i_ pc] w fun e w'=>RB e/\Below w w w':=by
 obtain ⟨W,hW,A2,A3,B0⟩:=af_ w [.slice A n c,i_ v,i_ s] 26;have KC:=h_ (∀ w',Below W W w'->(w'.cell? (a_ w)=some (.slice A n c)/\w'.cell? (f_ w 1)=some (i_ v)/\w'.cell? (f_ w 2)=some (i_ s))/\Below w w w'/\Sl w' w' 5 In.cells A n l) (fun w' hb =>
  ⟨⟨(B0.below hb).2.1 0 _ rfl,(B0.below hb).2.1 1 _ rfl,(B0.below hb).2.1 2 _ rfl⟩,A2.trans (hb.mono A2.size),hs.up (A2.trans (hb.mono A2.size))⟩)
 obtain ⟨⟨c0,c1,c2⟩,A0,A1⟩:=KC.o W (b_);have A0:=q_ A0;have A1:=q_ A1;have HY:=q_ (Below.refl W W);clear hs B0 A2 A3;go_enter func79,ntmps79;go_upto_region 1 with fail;rw [←hW];clear hW;go_wp2_with (go_at_call 128;refine (op_any A n c v s _ l _ A1.o hn).mono ?_;rintro e Y ⟨⟨q,rfl,hq⟩,hY⟩;have HY:=q_ (HY.o.trans (hY.mono HY.o.size));obtain ⟨⟨c0,c1,c2⟩,A0,A1⟩:=KC.o Y HY.o;have A0:=q_ A0;have A1:=q_ A1);all_goals
  go_ret;exact ⟨⟨_,rfl⟩,A0.o⟩
def RAsk (l:List In) (pc:Int) (e:Ending):Prop:=∃ b,e=.returned (.bool b)/\(b=true->Good l/\opAt l pc=20)
theorem Asks_any (A:OA) (n c:Nat) (v s pc:Int) (l:List In) (w:World) (hs:Sl w w 5 In.cells A n l) (hn:n<=9000000000000) :
  Calls prog 74 #[.agg #[.slice A n c,i_ v,i_ s],i_ pc] w fun e w'=>RAsk l pc e/\Below w w w':=by
 obtain ⟨W,hW,A2,A3,B0⟩:=af_ w [.slice A n c,i_ v,i_ s] 26;have KC:=h_ (∀ w',Below W W w'->(w'.cell? (a_ w)=some (.slice A n c)/\w'.cell? (f_ w 1)=some (i_ v)/\w'.cell? (f_ w 2)=some (i_ s))/\Below w w w'/\Sl w' w' 5 In.cells A n l) (fun w' hb =>
  ⟨⟨(B0.below hb).2.1 0 _ rfl,(B0.below hb).2.1 1 _ rfl,(B0.below hb).2.1 2 _ rfl⟩,A2.trans (hb.mono A2.size),hs.up (A2.trans (hb.mono A2.size))⟩)
 obtain ⟨⟨c0,c1,c2⟩,A1,A0⟩:=KC.o W (b_);have A1:=q_ A1;have A0:=q_ A0;clear hs B0 A2 A3;go_enter func74,ntmps74;go_upto_region 1 with fail;rw [←hW];clear hW;go_wp2_with fail;refine (Valid_any A n c v s l W A0.o hn).mono ?_;rintro e Y ⟨⟨b,rfl,hg⟩,hY⟩;obtain ⟨⟨c0,c1,c2⟩,A1,A0⟩:=KC.o Y hY;have A1:=q_ A1;have A0:=q_ A0;have HY:=q_ hY;have HG:=q_ hg;clear hY hg;cases b with
 | false =>
  go_wp2;go_ret;exact ⟨⟨false,rfl,fun h=>by cases h⟩,A1.o⟩
 | true =>
  go_wp2_with (go_at_call 128;refine (op_any A n c v s _ l _ A0.o hn).mono ?_;rintro e Z ⟨⟨q,rfl,hq⟩,hZ⟩;have HZ:=q_ (HY.o.trans (hZ.mono HY.o.size)));go_ret;exact ⟨⟨_,rfl,fun h=>⟨(HG.o (by first | rfl | trivial)).1,hq.o.trans (by simpa using h)⟩⟩,(KC.o _ HZ.o).2.1⟩
theorem isMark_any (A:OA) (n c:Nat) (v s pc:Int) (l:List In) (w:World) (hs:Sl w w 5 In.cells A n l) (hn:n<=9000000000000) :
  Calls prog 172 #[.agg #[.slice A n c,i_ v,i_ s],i_ pc] w fun e w'=>e=.returned (.bool (opAt l pc == 21))/\Below w w w':=by
 have HL:=q_ hs.len;by_cases h0:pc<0
 ·have H:=h_ ((opAt l pc == 21)=false) (by unfold opAt;rw [if_neg o_];rfl);have h1:¬0<=pc:=by omega
  go_enter func172,ntmps172;go_wp2;go_ret;exact ⟨by rw [H.o];rfl,(bel (b_))⟩
 obtain ⟨k,rfl⟩:∃ k:Nat,pc=k:=⟨pc.toNat,o_⟩;have HK:=q_ (opAt_nat l k);by_cases h1:k<n
 ·obtain ⟨ab,ao,rfl,A1,A0⟩:=hs.at_ o_;obtain ⟨x,hx⟩:∃ x,l[k]?=some x:=⟨_,ge_ (by rw [HL.o];exact h1)⟩;have HX:=q_ hx;have c0:w.cell? ⟨ab,ao+k*5,none⟩=some (i_ x.op):=A0 k x hx 0 _ rfl;have h3:(k:Int)<(n:Int):=by omega
  clear A0 hx h0;go_enter func172,ntmps172;go_wp2;go_ret;exact ⟨by rw [HK.o,HX.o];rfl,(bel (b_))⟩
 have h2:¬(k:Int)<(n:Int):=by omega
 have HX:=h_ (l[k]?=none) (List.getElem?_eq_none (by rw [HL.o];omega));go_enter func172,ntmps172;go_wp2;go_ret;exact ⟨by rw [HK.o,HX.o];rfl,(bel (b_))⟩
def oneT:List CT:=[.sl aw_,.num,.num] ++ cpuT ++ [.sl objT,.num] ++ effT ++ [.tru]
def dg_:Nat->Option TypeId:=fun j=>if j=72∨j=73 then some 87 else none
def oneK (K L:Nat):Nat->Nat:=fun j=>if 72<=j then L else K
def oneL (b K L:Nat):LV:=⟨b,oneK K L,oneT,dg_⟩
theorem isz_38:(prog.info? 38).map (·.size)=some valT.length:=by kernel_rfl
def Mv (l:List In) (pc:Int) (vs:VL):Prop:=∀ kd p:Int,vs[38]?=some (i_ kd)->vs[39]?=some (i_ p)->vs[81]?=some (.bool false)->(1<=kd/\kd<=3)∨pc<p∨opAt l p=21
structure OneS (X Z:NP) (w0:World) (LL:List LV) (b K L:Nat) (l:List In) (pc:Int) (Y:NP) (C:Nat->VL) (w:World):Prop where
 fr:Fr X Z w0 (oneL b K L :: LL) Y C w
 code:∃ (A:OA) (n c:Nat) (v s:Int),(C b)[0]?=some (.slice A n c)/\(C b)[1]?=some (i_ v)/\(C b)[2]?=some (i_ s)/\Sl w w 5 In.cells A n l/\n<=2048
 pcs:(C b)[3]?=some (i_ pc)
 mv:Mv l pc (C b)
section
variable {X Z Y Y':NP} {w0 w w':World} {LL LL':List LV} {b K L L':Nat} {l:List In} {pc:Int} {C C':Nat->VL}
theorem Sl.go {α:Type} {sz n c:Nat} {cells:α->VL} {A:OA} {l:List α} {e:List CT} {K:Nat} (h:Sl w w sz cells A n l) (ht:SlT w Y K e A n c) (u:Up w Y w' Y'):Sl w' w' sz cells A n l:=by
 refine ⟨h.len,fun hn=>?_⟩;obtain ⟨ab,ao,e1,A0,hc⟩:=h.at_ hn;obtain ⟨g,o,e2,hg,hX,_⟩:=ht.at_ _ e1;injection e2 with e2 e3;subst e2;exact ⟨ab,ao,e1,lt_ A0 u.kp.size,fun i x hx j v hv=>(u.kp.cell A0 hX).trans (hc i x hx j v hv)⟩
theorem OneS.go (h:OneS X Z w0 LL b K L l pc Y C w) (f:Fr X Z w0 (oneL b K L' :: LL') Y' C' w') (u:Up w Y w' Y') (e:∀ j,j<4->(C' b)[j]?=(C b)[j]?) (hm:Mv l pc (C b)->Mv l pc (C' b)):OneS X Z w0 LL' b K L' l pc Y' C' w':=by
 obtain ⟨A,n,c,v,s,h0,h1,h2,h3,h4⟩:=h.code;obtain ⟨A',n',c',_,h6,h7⟩:=h.fr.slc (i:=0) rfl (j:=0) (e:=aw_) rfl rfl;rw [h0] at h7;injection h7 with h7;injection h7 with q1 q2 q3;subst q1 q2 q3;exact ⟨f,⟨A,n,c,v,s,(e 0 o_).trans h0,(e 1 o_).trans h1,(e 2 o_).trans h2,Sl.go h3 h6 u,h4⟩,(e 3 o_).trans h.pcs,hm h.mv⟩
theorem OneS.call (h:OneS X Z w0 LL b K L l pc Y C w) (hb:Below w w w'):OneS X Z w0 LL b K L l pc Y C w':=h.go (h.fr.call hb) (.of_below hb) (fun _ _=>rfl) (fun h=>h)
theorem one_up (b K:Nat) {L L':Nat} (hL:L<=L') (j:Nat):(oneL b K L).K j<=(oneL b K L').K j:=by
 show oneK K L j<=oneK K L' j
 unfold oneK;split <;> omega
theorem OneS.raise (h:OneS X Z w0 LL b K L l pc Y C w) (hL:L<=L'):OneS X Z w0 LL b K L' l pc Y C w:=h.go (h.fr.up1 rfl rfl rfl (one_up b K hL)) (Up.refl _ _) (fun _ _=>rfl) (fun h=>h)
end
def Ms (X Z:NP) (w0:World) (LL:List LV) (b K L':Nat) (l:List In) (pc:Int) (Y:NP) (C:Nat->VL) (w w':World) (J:NP):Prop:=∃ Y' C',OneS X Z w0 LL b K L' l pc Y' C' w'/\Up w Y w' Y'/\(∀ q,q≠b->q<w->C' q=C q)/\∀ j,J j->(C' b)[j]?=(C b)[j]?
theorem ea_ {X Z Y:NP} {w0:World} {LL:List LV} {b K L:Nat} {l:List In} {pc:Int} {C:Nat->VL} (w:World) (h:OneS X Z w0 LL b K L l pc Y C w) (hL:L<=100000) (id f:Int) (v:Val) :
  Calls prog 173 #[.pointer (some (a_ b)),i_ id,i_ f,.agg #[.bool v.ref,i_ v.n]] w fun e w'=>e=.returned (.tuple #[])/\Ms X Z w0 LL b K (L+1) l pc Y C w w' (fun j=>j≠73):=by
 obtain ⟨i0,z0,A6,A8,A7,A5,A9⟩:=ei_cell.hi;obtain ⟨A0,n0,c0,_,A3,A4,_,_⟩:=h.fr.own (i:=0) rfl (j:=73) (e:=as_) (et:=87) rfl rfl;have HS:=q_ (h.raise (Nat.le_succ L));obtain ⟨W,Y1,C1,hW,Ab,u1,f1,c1,cO⟩:=HS.o.fr.add1 0 valT [.bool v.ref,i_ v.n] 38 (vtsval _ _);have F1:=q_ f1;have U1:=q_ u1;have Ac:=HS.o.fr.blt (i:=0) rfl;have x0:=f1.cell (i:=0) rfl (j:=0) (by rw [c1];rfl);have x1:=f1.cell (i:=0) rfl (j:=1) (by rw [c1];rfl);obtain ⟨A,n,c,Aa,hC,hn,hO,hY⟩:=f1.own (i:=1) rfl (j:=73) (e:=as_) (et:=87) rfl rfl;have A2:=hC;rw [cO b o_,A3] at A2;injection A2 with A2;injection A2 with q1 q2 q3;subst q1 q2 q3;have Ad:n0<=L:=A4;have HC:=q_ hC;have HY:=q_ hY;have A1:=q_ cO;have HB:=h_ (Below W W (W.drew.alloc (.cells #[i_ id,i_ f,.bool v.ref,i_ v.n] 87))) ((Below.drew (b_)).alloc (l_) _);have HO:=h_ (OwT _ 0 87 as_ Y1 (L+1) A0 n0 c0) (hO.below HB.o);have HU:=h_ (SlT (W.drew.alloc (.cells #[i_ id,i_ f,.bool v.ref,i_ v.n] 87)) (Wi Y1 (Value.slice A0 n0 c0).ownBlock) (L+1) as_ (some (a_ W)) 1 1) ((SlT.lit1 (w:=W.drew) (e:=as_) (ed_ id f v.ref v.n) _ (fun h=>Nat.lt_irrefl _ (F1.o.lt _ h)) o_).kept (Kp.refl _ _) (fun k _ h1 h2=>h2.elim h1 (fun h3=>h1 (hY k h3))) (l_));have HG:=h_ (∀ w',(W.drew.alloc (.cells #[i_ id,i_ f,.bool v.ref,i_ v.n] 87)).grownBy w' (Value.slice A0 n0 c0).ownBlock->Bx w' b (C1 b)) (fun w' g'=>(F1.o.call HB.o).cv_ (i:=1) (j:=73) (t:=.sl as_) (et:=87) rfl rfl rfl HC.o g');clear h f1 u1 c1 hO hC hY cO hn A4 A3;go_enter func173,ntmps173;go_upto_region 1 with fail;rw [←hW];clear hW;go_region_law (refine bu_ rfl (.tmp 13) (.tmp 18) 54 rfl 0 87 i0 _ 32 as_ Y1 (L+1) underlying54 A6 A8 A7 A5 A9 d_ A0 n0 c0 v_ HO.o (some (a_ W)) 1 1 (by simp [Act.eval,Act.put] <;> omega) HU.o (fun k hk=>lt_ (F1.o.lt k hk) HB.o.size) m_ o_ (Nat.zero_le _) ?_;intro A' c' w' o' g' l';have O':=q_ o';have G':=q_ g';have L':=q_ l';have BX:=HG.o w' g';have Af:=BX.2.1 73 _ HC.o;have yf:=BX.2.2;clear o' g' l' BX Aa x0 x1);all_goals
  obtain ⟨Y2,f2,u2⟩:=(F1.o.call HB.o).append (i:=1) (j:=73) rfl (e:=as_) rfl (et:=87) rfl HC.o O'.out (show n0+1<=L+1 by omega) G'.out L'.out;go_wp2;refine end0 (by rfl) rfl ?_;refine ⟨rfl,Y2,_,(HS.o.go (LL':=LL) f2.tail ((U1.o.trans (.of_below HB.o)).trans u2) (fun j hj=>?_) (fun hm kd p h1 h2 h3=>?_)),(U1.o.trans (.of_below HB.o)).trans u2,fun q hq Ae=>?_,fun j hj=>?_⟩
  ·rw [upd_same,gs_,if_neg o_,A1.o b o_]
  ·rw [upd_same,gs_,if_neg o_,A1.o b o_] at h1 h2 h3;exact hm kd p h1 h2 h3
  ·rw [ad_ _ _ hq,A1.o q o_]
  rw [upd_same,gs_,if_neg o_,A1.o b o_]
end Go.Proofs.YtfolidlmgfhkiaaGreat
