/- Lemmas on functions of the program, under the conditions that each states. -/
import Derived.Test.YtfolidlmgfhkiaaGreatY04
set_option linter.unusedVariables false
set_option linter.unusedSimpArgs false
set_option maxRecDepth 100000
set_option maxHeartbeats 4000000
namespace Go.Proofs.YtfolidlmgfhkiaaGreat.Dl
open Go.RowKit Go.Proofs.Tryz
def GivesR (A:OA) (ts':List Pr) (w:World) (e:Ending) (w':World):Prop:=∃ A' n' c',e=.returned (.agg #[.slice A' n' c'])/\Sl w' w' 3 Pr.cells A' n' ts'/\Below w w w'/\n'<=c'/\(n'=0->A'=none/\c'=0)/\∀ ad,A'=some ad->w<=ad.block\/A=some ad
theorem take_next {ts:List Pr} {k:Nat} {x:Pr} (hx:ts[k]?=some x):ts.take k ++ [x]=ts.take (k+1):=by rw [List.take_add_one,hx];rfl
theorem modify_take {ts:List Pr} {k:Nat} {x:Pr} {f:Pr->Pr} (hx:ts[k]?=some x):ts.modify k f=ts.take k ++ [f x] ++ ts.drop (k+1):=by
 rw [List.modify_eq_take_cons_drop (e_ hx).1];obtain ⟨h,e⟩:=e_ hx;simp [e]
theorem more2 {w4 w5:World} {base n sz:Nat} {e:TypeId} {v:Value} {xs:VL} (hown:w4.ownsRow base e sz v n xs) (hb:base<=w4) (hg:w4.grownBy w5 v.ownBlock):Below base w4 w5 :=
 (b_).grown hg hb (fun k hk=>(hown.lt k hk).1)
theorem ed_ (A:OA) (n c:Nat) (ts:List Pr) (a b:Int) (w:World) (hs:Sl w w 3 Pr.cells A n ts) (hn:n<=900000) (hgood:Good ts) (hcap:n<=c) (hA:n=0->A=none/\c=0) :
  Calls prog 27 #[.agg #[.slice A n c],i_ a,i_ b] w (GivesR A (bv_ ts a b) w):=by
 obtain ⟨i0,hi,Ax,As,Ay⟩:=info_parts CloneTrk.infoE;have Ah:=hgood.2;have Be:=q_ Ah;have AB:=h_ (n<=c/\(n=0->A=none/\c=0)) (⟨hcap,hA⟩);have HL:=q_ hs.len;have AW:=q_ hs;clear hgood Ah hcap hA;obtain ⟨W,hW⟩:=ex_ (((w.alloc (.cells #[.slice A n c] 73)).alloc (.cells #[.slice none 0 0] 73)).alloc (.cells #[.slice none 0 0] 73));have B6:Below w w W:=by rw [hW];exact (bel (b_))
 have B7:(W:Nat)=w+3:=by rw [hW];simp
 have q0:W.cell? (a_ w)=some (.slice A n c):=yj_;have q6:W.cell? (a_ (w+1))=some (.slice none 0 0):=zs_;have Ba:W.frozen? (a_ (w+1))=false:=y2_;have q7:W.cell? (a_ (w+2))=some (.slice none 0 0):=zn_;have Bb:W.frozen? (a_ (w+2))=false:=xc_;have HQ:=h_ (W.cell? (a_ w)=some (.slice A n c)/\W.cell? (a_ (w+1))=some (.slice none 0 0)/\W.frozen? (a_ (w+1))=false) (⟨q0,q6,Ba⟩);have Bf:Hid (Out W (w+3) (w+2) (.slice none 0 0) []):=q_ ⟨q7,Bb,World.ownsRow_nil _ _ _ _,o_,o_⟩;have B4:=q_ B6;have HZ:=q_ B7;clear q0 q6 Ba q7 Bb B6 B7;go_enter func27,ntmps27;go_wp2_with fail;rw [<-hW];clear hW;go_loopw [8] (fun i wr=>∃ (k:Nat) (v:Value),k<=n/\i=i_ k/\Hid (Out wr (w+3) (w+2) v (ts.take k))/\Hid (∀ (j:Nat) (u:Pr),j<k->ts[j]?=some u->Bef u a b)/\Hid (Below (w+2) W wr)) (fun i _=>n - (intOf i).toNat)
 case atStart=>exact ⟨0,_,Nat.zero_le _,rfl,Bf,q_ (fun j u h=>absurd h o_),q_ (b_)⟩
 obtain ⟨k,v,hk,rfl,hO,AH,hb⟩:=hrel;have r0:wr.cell? (a_ w)=some (.slice A n c):=(belc hb.o o_).trans HQ.o.1;have HR:=h_ (Below w w wr) (B4.o.trans (hb.o.mono o_));obtain ⟨g,hg⟩:∃ g:Bool,g=decide (k<n/\∀ x,ts[k]?=some x->Bef x a b):=⟨_,rfl⟩;have HG:=q_ hg;have BE:(w:Nat)+3<=wr:=hO.o.le;clear hg;go_upto_region 3 with fail;go_cut [23] (fun s wx=>s=.bool g/\Hid (Below wr wr wx))
 case first =>
  by_cases Ar:k<n
  ·obtain ⟨ab,ao,rfl,A7,A2⟩:=hs.at_ o_;obtain ⟨x,hx⟩:∃ x,ts[k]?=some x:=⟨_,ge_ (by rw [HL.o];exact Ar)⟩;have c0:wr.cell? ⟨ab,ao+k*3,none⟩=some (i_ x.a):=(belc HR.o A7).trans (A2 k x hx 0 _ rfl);have c1:wr.cell? ⟨ab,ao+k*3+1,none⟩=some (i_ x.b):=(belc HR.o A7).trans (A2 k x hx 1 _ rfl);have c2:wr.cell? ⟨ab,ao+k*3+2,none⟩=some (i_ x.cnt):=(belc HR.o A7).trans (A2 k x hx 2 _ rfl);have AT:=h_ (g=decide (Bef x a b)) (by rw [HG.o];simp [Ar,hx]);clear A2 hx;go_wp2_with fail;refine (less_any x a b _).mono ?_;rintro e w1 ⟨rfl,Bh⟩;go_wp2;go_meet;exact ⟨by rw [AT.o],q_ Bh⟩
  have AT:=h_ (g=false) (by rw [HG.o];simp [Ar]);go_wp2;go_meet;exact ⟨by rw [AT.o],q_ (b_)⟩
 obtain ⟨rfl,AG⟩:=hcut
 rename World=>w1
 have BF:=AG.o.size;have Af:=q_ (hO.o.below AG.o);have A8:=q_ (HR.o.trans (AG.o.mono HR.o.size));have AK:=q_ (hb.o.trans (AG.o.mono o_));have Aq:=h_ (w1.cell? (a_ w)=some (.slice A n c)/\w1.cell? (a_ (w+1))=some (.slice none 0 0)/\w1.frozen? (a_ (w+1))=false) (⟨(belc AK.o o_).trans HQ.o.1,(belc AK.o o_).trans HQ.o.2.1,(belf AK.o o_).trans HQ.o.2.2⟩);have BC:(w:Nat)+3<=w1:=by omega
 clear r0 hO hb AG HR B4;have s0:=Aq.o.1;have s7:=Af.o.cell;have Bu:=Af.o.fr;have BD:(w:Nat)+2<w1:=by omega
 have BB:(w:Nat)<w1:=by omega
 obtain ⟨l,hl⟩:=ex_ (ts.take k);rw [<-hl] at Af;have AU:=q_ hl;have Aa:=h_ (l.length=k) (by rw [hl,List.length_take];have:=HL.o;omega);clear hl;cases g
 ·have AM:=h_ (lowb ts a b=k) (lowb_of (by rw [HL.o];exact hk) AH.o (fun t ht Bi=>by
   have Bj:k<n:=by rw [<-HL.o];exact (e_ ht).1
   have h1:=HG.o.symm
   simp only [decide_eq_false_iff_not] at h1
   exact h1 ⟨Bj,fun x hx=>by rw [ht] at hx;injection hx with hx;subst hx;exact Bi⟩))
  have By:=q_ (fun j (hj:j<=n)=>fun w'=>el_ (P:=prog) (t:=71) (e:=85) (i:=i0) underlying71 hi (A:=A) (n:=n) (c:=c) (k:=j) hj w');have Bz:i0.size=3:=As;have B2:=q_ (fun (j:Nat) (w':World) (hb':Below w w w')=>(Sl.src_low (k:=j) (AW.o.below hb') Pr.size AB.o.1));by_cases hh:hit ts a b=true
  ·obtain ⟨t,ht,AZ,B0⟩:=hit_some hh;rw [AM.o] at ht;have Ar:k<n:=by rw [<-HL.o];exact (e_ ht).1
   have Av:=h_ (bv_ ts a b=(l ++ [upd t]) ++ ts.drop (k+1)) (by rw [bv_,hh,if_pos rfl,AM.o,modify_take ht,AU.o]);have Br:IntKind.i64.wrap ((k:Int)+1)=(k:Int)+1:=by rw [IntKind.wrap_i64];omega
   have Bn:(0:Int)<=(k:Int)+1:=by omega
   have AX:(k:Int)+1<=(n:Int):=by omega
   have Bs:((k:Int)+1).toNat=k+1:=by omega
   have AN:=h_ (((ts.drop (k+1)).flatMap Pr.cells).length=(n - (k+1))*3) (by rw [ee_ Pr.size,List.length_drop,HL.o]);obtain ⟨Bp,Bq⟩:=Be.o k t ht;obtain ⟨ab,ao,AC,A7,A2⟩:=hs.at_ o_;have c0:w1.cell? ⟨ab,ao+k*3,none⟩=some (i_ a):=(belc A8.o A7).trans (AZ ▸ A2 k t ht 0 _ rfl);have c1:w1.cell? ⟨ab,ao+k*3+1,none⟩=some (i_ b):=(belc A8.o A7).trans (B0 ▸ A2 k t ht 1 _ rfl);have c2:w1.cell? ⟨ab,ao+k*3+2,none⟩=some (i_ t.cnt):=(belc A8.o A7).trans (A2 k t ht 2 _ rfl);have HX:=q_ ht;obtain ⟨z,hz⟩:=ex_ (IntKind.i64.wrap (min t.cnt 1048575+1));have BA:ab<w1:=lt_ A7 A8.o.size;have HZ:=q_ hz;have B8:upd t=⟨a,b,z⟩:=by
    rw [hz,IntKind.wrap_i64];unfold upd;rw [AZ,B0]
    congr 1
    split <;> omega
   have B3:=q_ B8;subst AC;have AF:cutA (some (f_ ab ao)) c (k+1) 3=if c=k+1 then some (f_ ab ao) else some ⟨ab,ao+(k+1)*3,none⟩:=by unfold cutA Addr.add;simp
   have Ad:=q_ (fun (w':World) (hb':Below w w w')=>AF ▸ B2.o (k+1) w' hb');clear AF;clear A2 ht AZ B0 B8 hh hz;go_upto_region 7 with fail;go_cut [] (fun wx=>Hid (∃ v',Out wx (w+3) (w+2) v' (l ++ [⟨a,b,z⟩])/\Below (w+2) w1 wx))
   case first =>
    go_region_law (rw [<-HZ.o];refine bl_ rfl (.tmp 62) (.tmp 74) 71 rfl (w+3) 85 i0 _ 3 24 underlying71 hi Ax As Ay rfl d_ v l.length (l.flatMap Pr.cells) zb_ (own_below Af.o.own (Below.drew ((b_).alloc (l_) _))) (some (a_ w1)) 1 1 (Pr.cells ⟨a,b,z⟩) zb_ y9_ rfl (news_new w1 a b z) z6_ z7_ y3_ z1_ ?_;intro A3 c3 w3 A9 Am _;have Ap:=Af.o.next ⟨a,b,z⟩ A9 Am;have u7:=Ap.2.1;have Bc:=Ap.2.2.1);all_goals
     have Az:=q_ Ap;clear Ap Am A9;go_wp2;all_goals
      go_meet;exact q_ ⟨_,Az.o.1,(Az.o.2.2.2.mono o_).setCell vo_ _⟩
   rename World=>w3
   obtain ⟨v3,AQ,Aw⟩:=hcut.o;have AP:=q_ AQ;have Bw:=q_ Aw;have u7:=AQ.cell;have Bc:=AQ.fr;have Bt:=Aw.size;have Bk:(w:Nat)<w3:=by omega
   have Bl:(w:Nat)+1<w3:=by omega
   have Bm:(w:Nat)+2<w3:=by omega
   have u0:=(belc Aw (b:=w) (o:=0) o_).trans Aq.o.1;have u1:=(belc Aw (b:=w+1) (o:=0) o_).trans Aq.o.2.1;have Bv:=(belf Aw (b:=w+1) (o:=0) o_).trans Aq.o.2.2;have AV:=q_ (A8.o.trans (Aw.mono o_));obtain ⟨l3,AR⟩:=ex_ (l ++ [(⟨a,b,z⟩:Pr)]);rw [<-AR] at AP;have B1:=q_ AR;have Au:=h_ (l3.length=k+1) (by rw [AR,List.length_append,Aa.o];rfl);clear hcut AQ Aw AR c0 c1 c2 s0 s7 Bu;go_wp2;go_region_law (refine bl_ rfl (.tmp 78) (.tmp 83) 71 rfl (w+3) 85 i0 _ 3 24 underlying71 hi Ax As Ay rfl d_ v3 l3.length (l3.flatMap Pr.cells) v_ AP.o.own (if c=k+1 then some (f_ ab ao) else some ⟨ab,ao+(k+1)*3,none⟩) (n - (k+1)) (c - (k+1)) ((ts.drop (k+1)).flatMap Pr.cells) v_ (Ad.o _ (Below.drew AV.o)).1 AN.o (Ad.o _ (Below.drew AV.o)).2 wj_ (by have:=Au.o;unfold maxLen;omega) (by have:=Au.o;omega) (by have:=AP.o.le;show _<=(w3:Nat);omega) ?_;intro A5 c5 w5 A0 A6 _;have Ac:=AP.o.more ((b_).drew) A6;have v7:=Ac.1;have AJ:=Ac.2.1;have Ab:=Ac.2.2;have v1:=(belc Ab (b:=w+1) (o:=0) o_).trans u1;have AI:=(belf Ab (b:=w+1) (o:=0) o_).trans Bv);all_goals
    have Ae:=q_ A0;have AE:Below w w w5:=AV.o.trans (Ab.mono o_);have AO:=h_ ((bv_ ts a b).length=l3.length+(n - (k+1))) (by rw [Av.o,B3.o,<-B1.o,List.length_append,List.length_drop,HL.o]);have AL:=h_ (l3.flatMap Pr.cells ++ (ts.drop (k+1)).flatMap Pr.cells=(bv_ ts a b).flatMap Pr.cells) (by rw [Av.o,B3.o,<-B1.o,List.flatMap_append]);clear A0 A6 Ac;go_wp2;all_goals
     refine bodyPost_ret (v:=.agg #[.slice A5 (l3.length+(n - (k+1))) c5]) xo_ rfl ⟨A5,_,c5,rfl,?_,(bel AE),(ck_ Ae.o).1,fun h0=>absurd h0 (by have:=Au.o;omega),fun ad Ak=>.inl (own_lo Ae.o o_ ad Ak)⟩;have h5:=Ae.o;rw [AL.o] at h5;exact Sl.da_ Pr.size AO.o (ba_ (ba_ h5 _ (fun e=>by have:=h5.lt _ e;first | omega | (simp at this <;> omega))) _ (fun e=>by have:=h5.lt _ e;first | omega | (simp at this <;> omega)))
  have hh:hit ts a b=false:=by simpa using hh
  have HH:=q_ hh;have Ao:=AB.o.2;go_upto_region 6 with fail;go_cut [60] (fun s wx=>s=.bool false/\wx=w1)
  case first =>
   by_cases Ar:k<n
   ·obtain ⟨ab,ao,AC,A7,A2⟩:=hs.at_ o_;obtain ⟨t,ht⟩:∃ t,ts[k]?=some t:=⟨_,ge_ (by rw [HL.o];exact Ar)⟩;have c0:w1.cell? ⟨ab,ao+k*3,none⟩=some (i_ t.a):=(belc A8.o A7).trans (A2 k t ht 0 _ rfl);have c1:w1.cell? ⟨ab,ao+k*3+1,none⟩=some (i_ t.b):=(belc A8.o A7).trans (A2 k t ht 1 _ rfl);have Aj:isB t a b=false:=by rw [<-hit_at (by rw [AM.o];exact ht)];exact hh
    clear A2 Ao hh ht;subst AC;by_cases ha:t.a=a
    ·have g1:(t.a == a)=true:=by simpa using ha
     have g2:(t.b == b)=false:=by unfold isB at Aj;rw [g1] at Aj;simpa using Aj
     clear Aj ha;go_wp2;go_meet;exact ⟨rfl,rfl⟩
    have g1:(t.a == a)=false:=by simpa using ha
    clear Aj ha;go_wp2;go_meet;exact ⟨rfl,rfl⟩
   clear Ao hh;go_wp2;go_meet;exact ⟨rfl,rfl⟩
  obtain ⟨rfl,e⟩:=hcut;have e:=e.symm;subst e;have An:=HL.o;by_cases h256:n<256
  ·have AY:¬(256:Int)<=(n:Int):=by omega
   have Av:=h_ (bv_ ts a b=l ++ (⟨a,b,1⟩ :: ts.drop k)) (by rw [bv_,HH.o,AM.o,AU.o,An,if_neg t_,if_pos h256]);have AN:=h_ (((ts.drop k).flatMap Pr.cells).length=(n - k)*3) (by rw [ee_ Pr.size,List.length_drop,HL.o]);have HN:=h_ (n=0\/0<n) o_;have AO:=h_ ((bv_ ts a b).length=l.length+1+(n - k)) (by rw [Av.o,List.length_append,List.length_cons,List.length_drop,HL.o];omega);have AL:=h_ (l.flatMap Pr.cells ++ Pr.cells ⟨a,b,1⟩ ++ (ts.drop k).flatMap Pr.cells=(bv_ ts a b).flatMap Pr.cells) (by rw [Av.o];simp);have AX:(k:Int)<=(n:Int):=by omega
   clear Ao An hh;have s1:=Aq.o.2.1;have AS:=Aq.o.2.2;rcases HN.o with h0 | h0
   ·obtain ⟨hA,hc⟩:=AB.o.2 h0;obtain rfl:k=0:=by omega
    subst h0 hA hc;go_wp2;go_region_law (first
     | (refine bl_ rfl (.tmp 93) (.tmp 97) 71 rfl (w+3) 85 i0 _ 3 24 underlying71 hi Ax As Ay rfl d_ v l.length (l.flatMap Pr.cells) v_ (own_below Af.o.own (Below.drew ((b_).alloc (l_) _))) (some (a_ w1)) 1 1 (Pr.cells ⟨a,b,1⟩) v_ y9_ rfl (news_new w1 a b 1) z6_ z7_ y3_ z1_ ?_;intro A4 c4 w4 A1 Ai _;have Ac:=Af.o.more (Below.drew ((b_).alloc (l_) _)) Ai;have Al:=Ac.2.2;have Bo:=Al.size;have t0:=(belc Al (b:=w) (o:=0) o_).trans s0;have AA:=q_ (A8.o.trans (Al.mono o_)))
     | (refine bl_ rfl (.tmp 98) (.tmp 102) 71 rfl (w+3) 85 i0 _ 3 24 underlying71 hi Ax As Ay rfl d_ (.slice A4 (l.length+1) c4) (l.length+1) _ v_ A1 none (0 - 0) (0) ((ts.drop 0).flatMap Pr.cells) v_ (fun _=>rfl) AN.o (fun ad h=>by cases h) wj_ z7_ y3_ o_ ?_;intro A5 c5 w5 A0 A6 _;have Ab:=more2 A1 o_ A6;have Ag:=Al.trans Ab;have v7:=(belc Ab (b:=w+2) (o:=0) o_).trans Ac.1;have AJ:=(belf Ab (b:=w+2) (o:=0) o_).trans Ac.2.1;have v1:=(belc Ag (b:=w+1) (o:=0) o_).trans s1;have AI:=(belf Ag (b:=w+1) (o:=0) o_).trans AS))
    all_goals
     have Ae:=q_ A0;have AE:Below w w w5:=AA.o.trans (Ab.mono o_);clear A0 A6 Ai A1;go_wp2;all_goals
      refine bodyPost_ret (v:=.agg #[.slice A5 (l.length+1+(0 - 0)) c5]) xo_ rfl ⟨A5,_,c5,rfl,?_,(bel AE),(ck_ Ae.o).1,fun h0=>absurd h0 o_,fun ad Ak=>.inl (own_lo Ae.o o_ ad Ak)⟩;have h5:=Ae.o;rw [AL.o] at h5;exact Sl.da_ Pr.size AO.o (ba_ (ba_ h5 _ (fun e=>by have:=h5.lt _ e;first | omega | (simp at this <;> omega))) _ (fun e=>by have:=h5.lt _ e;first | omega | (simp at this <;> omega)))
   obtain ⟨ab,ao,AC,A7,A2⟩:=hs.at_ h0;subst AC;have AF:cutA (some (f_ ab ao)) c k 3=if c=k then some (f_ ab ao) else some ⟨ab,ao+k*3,none⟩:=by unfold cutA;simp [Addr.add_lit]
   have Ad:=q_ (fun (w':World) (hb':Below w w w')=>AF ▸ B2.o k w' hb');clear AF A2
   go_wp2;go_region_law (first
    | (refine bl_ rfl (.tmp 93) (.tmp 97) 71 rfl (w+3) 85 i0 _ 3 24 underlying71 hi Ax As Ay rfl d_ v l.length (l.flatMap Pr.cells) v_ (own_below Af.o.own (Below.drew ((b_).alloc (l_) _))) (some (a_ w1)) 1 1 (Pr.cells ⟨a,b,1⟩) v_ y9_ rfl (news_new w1 a b 1) z6_ z7_ y3_ z1_ ?_;intro A4 c4 w4 A1 Ai _;have Ac:=Af.o.more (Below.drew ((b_).alloc (l_) _)) Ai;have Al:=Ac.2.2;have Bo:=Al.size;have t0:=(belc Al (b:=w) (o:=0) o_).trans s0;have AA:=q_ (A8.o.trans (Al.mono o_)))
    | (refine bl_ rfl (.tmp 98) (.tmp 102) 71 rfl (w+3) 85 i0 _ 3 24 underlying71 hi Ax As Ay rfl d_ (.slice A4 (l.length+1) c4) (l.length+1) _ v_ A1 (if c=k then some (f_ ab ao) else some ⟨ab,ao+k*3,none⟩) (n - k) (c - k) ((ts.drop k).flatMap Pr.cells) v_ (Ad.o _ AA.o).1 AN.o (Ad.o _ AA.o).2 wj_ z7_ y3_ o_ ?_;intro A5 c5 w5 A0 A6 _;have Ab:=more2 A1 o_ A6;have Ag:=Al.trans Ab;have v7:=(belc Ab (b:=w+2) (o:=0) o_).trans Ac.1;have AJ:=(belf Ab (b:=w+2) (o:=0) o_).trans Ac.2.1;have v1:=(belc Ag (b:=w+1) (o:=0) o_).trans s1;have AI:=(belf Ag (b:=w+1) (o:=0) o_).trans AS))
   all_goals
    have Ae:=q_ A0;have AE:Below w w w5:=AA.o.trans (Ab.mono o_);clear A0 A6 Ai A1;go_wp2;all_goals
     refine bodyPost_ret (v:=.agg #[.slice A5 (l.length+1+(n - k)) c5]) xo_ rfl ⟨A5,_,c5,rfl,?_,(bel AE),(ck_ Ae.o).1,fun h0=>absurd h0 o_,fun ad Ak=>.inl (own_lo Ae.o o_ ad Ak)⟩;have h5:=Ae.o;rw [AL.o] at h5;exact Sl.da_ Pr.size AO.o (ba_ (ba_ h5 _ (fun e=>by have:=h5.lt _ e;first | omega | (simp at this <;> omega))) _ (fun e=>by have:=h5.lt _ e;first | omega | (simp at this <;> omega)))
  have B5:(256:Int)<=(n:Int):=by omega
  have Av:=h_ (bv_ ts a b=ts) (by rw [bv_,HH.o,if_neg t_,if_neg (by rw [An];exact h256)]);have s1:=Aq.o.2.1;have AS:=Aq.o.2.2;clear Ao An hh;go_wp2;refine bodyPost_ret (v:=.agg #[.slice A n c]) (by simp [results,results27,go_sem,s0,s1,AS]) rfl ⟨A,n,c,rfl,?_,(bel A8.o),AB.o.1,AB.o.2,fun ad Ak=>.inr Ak⟩;rw [Av.o];exact ((AW.o.below A8.o).set (p:=(a_ (w+1))) (fun ad Ak=>by
   obtain ⟨ab,ao,e,A7,_⟩:=AW.o.at_ o_
   rw [Ak] at e
   injection e with e
   subst e
   show ab≠w+1
   omega) _).mono zm_
 obtain ⟨Ar,AD⟩:k<n/\∀ x,ts[k]?=some x->Bef x a b:=by simpa using HG.o.symm
 obtain ⟨ab,ao,rfl,A7,A2⟩:=hs.at_ o_;obtain ⟨x,hx⟩:∃ x,ts[k]?=some x:=⟨_,ge_ (by rw [HL.o];exact Ar)⟩;have c0:w1.cell? ⟨ab,ao+k*3,none⟩=some (i_ x.a):=(belc A8.o A7).trans (A2 k x hx 0 _ rfl);have c1:w1.cell? ⟨ab,ao+k*3+1,none⟩=some (i_ x.b):=(belc A8.o A7).trans (A2 k x hx 1 _ rfl);have c2:w1.cell? ⟨ab,ao+k*3+2,none⟩=some (i_ x.cnt):=(belc A8.o A7).trans (A2 k x hx 2 _ rfl);have HX:=q_ hx;have Bd:=q_ (AD x hx);have HO:=q_ (own_below Af.o.own ((bel (Below.refl w1 w1)):Below w1 w1 ((w1.alloc (.cells #[i_ x.a,i_ x.b,i_ x.cnt] 85)).drew)));have B9:((w1.alloc (.cells #[i_ x.a,i_ x.b,i_ x.cnt] 85)).drew).heap.size=w1+1:=by show (w1.alloc _).heap.size=_;simp
 have Bg:=q_ B9;clear A2 hx AD B9;go_wp2;go_region_law (refine bl_ rfl (.tmp 27) (.tmp 33) 71 rfl (w+3) 85 i0 _ 3 24 underlying71 hi Ax As Ay rfl d_ v l.length (l.flatMap Pr.cells) zb_ HO.o (some (a_ w1)) 1 1 (Pr.cells x) zb_ y9_ rfl (news_new w1 _ _ _) z6_ z7_ y3_ (by rw [Bg.o];omega) ?_;intro A3 c3 w3 A9 Am _;have Ap:=Af.o.next x A9 Am;have u7:=Ap.2.1;have Bc:=Ap.2.2.1);all_goals
  have Az:=q_ Ap;clear Ap;go_wp2;go_roundw
  case rel=>exact ⟨k+1,_,o_,za_,q_ (by rw [<-take_next HX.o,<-AU.o];exact Az.o.1),q_ (fun j u hj hu=>by
   by_cases hjk:j=k
   ·subst hjk;rw [HX.o] at hu;injection hu with hu;subst hu;exact Bd.o
   exact AH.o j u o_ hu),q_ ((AK.o.trans (Az.o.2.2.2.mono o_)).setCell vo_ _)⟩
  case measure=>exact me_
end Go.Proofs.YtfolidlmgfhkiaaGreat.Dl
