/- Lemmas on functions of the program, under the conditions that each states. -/
import Derived.Test.YtfolidlmgfhkiaaGreatU10
set_option linter.unusedVariables false
set_option linter.unusedSimpArgs false
set_option maxRecDepth 100000
set_option maxHeartbeats 8000000
namespace Go.Proofs.YtfolidlmgfhkiaaGreat.Pr
open Go.RowKit Go.Proofs.Tryz
structure Lr (lo0:Nat) (V:World) (b:Nat) (ls:List Trk) (OAx:OA) (on oc:Nat) (w:World):Prop where
 q:Bx w b [.slice OAx on oc]
 pr:Sl w w 5 Trk.cells OAx on ls
 lo:∀ ad,OAx=some ad->lo0<=ad.block
 kp:Kp (fun q=>q=b) V w
 bl:b<lo0
section
variable {lo0 b on oc:Nat} {V w w1:World} {ls:List Trk} {OAx:OA}
theorem Lr.below (h:Lr lo0 V b ls OAx on oc w) (hb:Below w w w1):Lr lo0 V b ls OAx on oc w1 :=
 ⟨h.q.below hb,h.pr.up hb,h.lo,h.kp.ba_ hb,h.bl⟩
theorem Lr.put (h:Lr lo0 V b ls OAx on oc w) (hb:Below w w w1) {A':OA} {n' c':Nat} {ls':List Trk} (hs:Sl w1 w1 5 Trk.cells A' n' ls') (hA:∀ ad,A'=some ad->w<=ad.block) (hl:lo0<=w) :
  Lr lo0 V b ls' A' n' c' (w1.setCell (a_ b) (.slice A' n' c')):=by
 have h1:=h.below hb;have A0:∀ ad,A'=some ad->lo0<=ad.block:=fun ad ha=>Nat.le_trans hl (hA ad ha)
 exact ⟨h1.q.set 0 _,slkp hs ((Kp.refl (fun q=>q=b) w1).setCell (p:=(a_ b)) (.inl rfl) _) (fun ad ha e=>by have e:ad.block=b:=e;have h2:=A0 ad ha;have h3:=h.bl;omega),A0,h1.kp.setCell (p:=(a_ b)) (.inl rfl) _,h.bl⟩
end
theorem reflearn_any (A:OA) (n c:Nat) (ts:List Trk) (tv:VL) (s fr:Int) (RA:OA) (rn rc:Nat) (cs:List Cl) (w:World) (hs:Sl w w 5 Trk.cells A n ts) (hg:Good ts) (hsm:Small ts)
  (t0:tv[0]?=some (i_ s)) (t37:tv[37]?=some (.slice RA rn rc)) (hr:Sl w w 4 Cl.cells RA rn cs) (hrn:rn<=1000000) :
  Calls prog 20 #[.agg #[.slice A n c],.agg tv.toArray,i_ fr] w (Gives (bz_ s fr ts cs) w):=by
 obtain ⟨i0,hi,AM,AN,AO⟩:=info_parts CloneTk5.infoE;obtain ⟨W,hW,Ao,AA,B0,B1,B2⟩:=dw_ w [.slice A n c] 59 tv 65 [.slice none 0 0] 59;have AS:n<=524544:=by rw [<-hs.len];exact en_ hg.1 hsm
 have Ar:Sl W W 5 Trk.cells A n ts:=hs.up Ao;have HL:=h_ ((ts.flatMap Trk.cells).length=n*5) yu_;have Ah:=h_ (∀ k,Good (bz_ s fr ts (cs.take k))/\Small (bz_ s fr ts (cs.take k))) (fun k=>ea_ _ hg hsm);have q0:=B0.2.1 0 _ rfl;have Ab:=q_ B0;have Au:=q_ B1;have AE:=q_ B2;have Az:=q_ Ao;have Ad:=q_ AA;have HR:=q_ hr;have AH:=q_ t0;have Aj:=q_ t37;have Ax:=q_ hr.len;have AG:=q_ hs.len;clear t0 t37 hr hs B0 B1 B2 hg hsm Ao AA;go_enter func20,ntmps20;go_upto_region 1 with fail;rw [<-hW];clear hW;go_upto_region 2 with (at_builtin;refine av_ rfl _ _ 57 rfl W 122 i0 _ 5 40 underlying57 hi AM AN AO rfl d_ (.slice none 0 0) 0 [] rfl (World.ownsRow_nil _ _ _ _) A n c (ts.flatMap Trk.cells) rfl (Sl.src Ar).1 HL.o (Sl.src Ar).2 (ed_ ts) m_ o_ (l_) ?_;intro A1 c1 w1 A0 A9 _;have Ac:=h_ (Below W W w1) ((Below.refl _ W).grown A9 (l_) (fun k hk=>by cases hk));have d0:=(Ab.o.below Ac.o).2.1 0 _ rfl;have AJ:=(Ab.o.below Ac.o).2.2;rw [Nat.zero_add,List.nil_append] at A0;try rw [Nat.zero_add]);obtain ⟨U,hU⟩:=ex_ (w1.setCell (a_ w) (.slice A1 n c1));have AD:Sl w1 w1 5 Trk.cells A1 n ts:=Sl.cs_ Trk.size AG.o A0;have A4:=own_lo A0 (Nat.le_refl W);have An:=Ac.o;have Aw:=q_ (show Lr (w+3) W w (bz_ s fr ts (cs.take 0)) A1 n c1 U from by
  rw [hU]
  exact ⟨(Ab.o.below An).set 0 _,slkp AD ((Kp.refl (fun q=>q=w) w1).setCell (p:=(a_ w)) (.inl rfl) _) (fun ad ha e=>by have e:ad.block=w:=e;have h1:=A4 ad ha;have:=Ad.o;omega),fun ad ha=>by have h1:=A4 ad ha;have:=Ad.o;omega,(Kp.of_below (X:=fun q=>q=w) An).setCell (p:=(a_ w)) (.inl rfl) _,o_⟩)
 rw [<-hU];clear hU AD A4 An d0 AJ q0 A0 A9 Ac Ab Ar;have AQ:=(Au.o.kp Aw.o.kp (fun e=>by have e:(w:Nat)+1=w:=e;omega)).2.1 37 _ Aj.o;go_wp2_with fail;clear AQ;go_loopw [18] (fun i wr=>∃ (k:Nat) (OAx:OA) (on oc:Nat),k<=rn/\i=i_ k/\Hid (Lr (w+3) W w (bz_ s fr ts (cs.take k)) OAx on oc wr)) (fun i _=>rn - (intOf i).toNat)
 case atStart=>exact ⟨0,A1,n,c1,Nat.zero_le _,rfl,Aw⟩
 obtain ⟨k,OAx,on,oc,hk,rfl,hL⟩:=hrel;have hsz:(w:Nat)+3<=wr:=by have h1:=hL.o.kp.size;have:=Ad.o;omega
 have A6:=h_ (Below w w wr) (Az.o.trans (hL.o.kp.below Az.o.size (fun q hq e=>by have e:q=w:=e;omega)));by_cases hlt:k<rn
 case neg =>
  obtain rfl:k=rn:=by omega
  have AL:¬(k:Int)<(k:Int):=by omega
  have A7:cs.take k=cs:=List.take_of_length_le (by rw [Ax.o];exact l_);rw [A7] at hL;have q7:=hL.o.q.2.1 0 _ rfl;have Al:=AE.o.kp hL.o.kp (fun e=>by have e:(w:Nat)+2=w:=e;omega);have r2:=Al.2.1 0 _ rfl;have AP:=Al.2.2;have AR:(w:Nat)+2<wr:=by omega
  clear A7 Al;go_wp2_with fail;refine bodyPost_ret (v:=.agg #[.slice OAx on oc]) (by simp [results,results20,go_sem,r2,AP]) rfl ⟨OAx,on,oc,rfl,?_,A6.o.setCell yt_ _,fun ad ha=>by have:=hL.o.lo ad ha;omega⟩;exact slkp hL.o.pr ((Kp.refl (fun q=>q=w+2) wr).setCell (p:=(a_ (w+2))) (.inl rfl) _) (fun ad ha e=>by have e:ad.block=w+2:=e;have:=hL.o.lo ad ha;omega)
 case pos =>
 have AL:(k:Int)<(rn:Int):=by omega
 obtain ⟨ab,ao,rfl,Ag,A8⟩:=HR.o.at_ o_;obtain ⟨x,hx⟩:∃ x,cs[k]?=some x:=⟨_,ge_ (by rw [Ax.o];exact hlt)⟩;have c0:wr.cell? ⟨ab,ao+k*4,none⟩=some (i_ x.id):=(belc A6.o Ag).trans (A8 k x hx 0 _ rfl);have AI:wr.cell? ⟨ab,ao+k*4+1,none⟩=some (i_ x.field):=(belc A6.o Ag).trans (A8 k x hx 1 _ rfl);have c2:wr.cell? ⟨ab,ao+k*4+2,none⟩=some (.bool x.v.ref):=(belc A6.o Ag).trans (A8 k x hx 2 _ rfl);have c3:wr.cell? ⟨ab,ao+k*4+3,none⟩=some (i_ x.v.n):=(belc A6.o Ag).trans (A8 k x hx 3 _ rfl);have A5:=q_ (learn_next (s:=s) (fr:=fr) (p:=ts) hx);obtain ⟨Y,hY,AB,AK,Am⟩:=af_ wr [i_ x.id,i_ x.field,.bool x.v.ref,i_ x.v.n] 87;obtain ⟨b9,Aq⟩:=ex_ (wr:Nat);rw [<-Aq] at Am;have Ak:=q_ Am;have Ai:=q_ (hL.o.below AB);clear AK Am A8 hx hL AB;go_upto_region 5 with fail;rw [<-hY,<-Aq];clear hY Aq c0 AI c2 c3;have e0:=Ak.o.2.1 0 _ rfl;have e1:=Ak.o.2.1 1 _ rfl;have y0:=(Au.o.kp Ai.o.kp (fun e=>by have e:(w:Nat)+1=w:=e;omega)).2.1 0 _ AH.o;go_wp2_with fail;refine (refkey_any s x.field Y).mono ?_;rintro e w2 ⟨rfl,Ap⟩;have A2:=q_ (Ai.o.below Ap);have Ae:=q_ (Ak.o.below Ap);clear e0 e1 y0 Ap Ai;have e0:=Ae.o.2.1 0 _ rfl;have e1:=Ae.o.2.1 1 _ rfl;have Av:=h_ (keyV s x.field=(if bv_ s x.field then .tuple #[i_ (kOf s x.field),i_ 0] else .tuple #[i_ 0,i_ 2])) (by cases hk2:bv_ s x.field;exact keyV_no hk2;exact keyV_yes hk2);cases hk2:bv_ s x.field
 case false =>
  have HN:=q_ (learn_no (s:=s) (fr:=fr) (p:=bz_ s fr ts (cs.take k)) (c:=x) (by simp [lcond,hk2]));rw [keyV_no hk2];clear hk2 Av;by_cases h1:x.id=fr
  ·have g1:(x.id == fr)=true:=by simpa using h1
   clear h1;by_cases h2:3<=x.field
   ·go_wp2_with fail;go_roundw
    case rel=>exact ⟨k+1,OAx,on,oc,o_,zc_,q_ y8_⟩
    case measure=>simp [intOf] <;> omega
   go_wp2_with fail;go_roundw
   case rel=>exact ⟨k+1,OAx,on,oc,o_,zc_,q_ y8_⟩
   case measure=>simp [intOf] <;> omega
  have g1:(x.id == fr)=false:=by simpa using h1
  clear h1;go_wp2_with fail;go_roundw
  case rel=>exact ⟨k+1,OAx,on,oc,o_,zc_,q_ y8_⟩
  case measure=>simp [intOf] <;> omega
 case true =>
 rw [keyV_yes hk2];clear Av;by_cases h1:x.id=fr
 case neg =>
  have HN:=q_ (learn_no (s:=s) (fr:=fr) (p:=bz_ s fr ts (cs.take k)) (c:=x) (by simp [lcond,h1]));have g1:(x.id == fr)=false:=by simpa using h1
  clear h1 hk2;go_wp2_with fail;go_roundw
  case rel=>exact ⟨k+1,OAx,on,oc,o_,zc_,q_ y8_⟩
  case measure=>simp [intOf] <;> omega
 case pos =>
 have g1:(x.id == fr)=true:=by simpa using h1
 by_cases h2:3<=x.field
 case neg =>
  have HN:=q_ (learn_no (s:=s) (fr:=fr) (p:=bz_ s fr ts (cs.take k)) (c:=x) (by simp [lcond,h2]));clear h1 hk2;go_wp2_with fail;go_roundw
  case rel=>exact ⟨k+1,OAx,on,oc,o_,zc_,q_ y8_⟩
  case measure=>simp [intOf] <;> omega
 case pos =>
 have HN:=q_ (learn_yes (s:=s) (fr:=fr) (p:=bz_ s fr ts (cs.take k)) (c:=x) (by simp [lcond,h1,h2,hk2]));clear h1 hk2;have e2:=Ae.o.2.1 2 _ rfl;have e3:=Ae.o.2.1 3 _ rfl;have q7:=A2.o.q.2.1 0 _ rfl;have As:=reftrain_any OAx on oc (bz_ s fr ts (cs.take k)) (kOf s x.field) x.v w2 A2.o.pr (by rw [<-A2.o.pr.len];exact Nat.le_trans (en_ (Ah.o k).1.1 (Ah.o k).2) d_) (Ah.o k).1;unfold Val.value at As;have Ay:=q_ As;clear As;go_wp2_with fail;refine Ay.o.mono ?_;rintro e w3 ⟨A3,n3,c3,rfl,AC,Af,Aa⟩;have AF:=q_ (A2.o.put (c':=c3) Af AC Aa (by have h1:=A2.o.kp.size;have:=Ad.o;omega));have q9:=(A2.o.below Af).q.2.1 0 _ rfl;have AT:=(A2.o.below Af).q.2.2;clear e0 e1 e2 e3 q7 AC Af Aa Ay;go_wp2_with fail;go_roundw
 case rel=>exact ⟨k+1,A3,n3,c3,o_,zc_,q_ (by rw [A5.o,HN.o];exact AF.o)⟩
 case measure=>simp [intOf] <;> omega
end Go.Proofs.YtfolidlmgfhkiaaGreat.Pr
namespace Go.Proofs.YtfolidlmgfhkiaaGreat
open Go.RowKit Go.Proofs.Tryz
theorem Gr.slt {w w':World} {base K:Nat} {A A':OA} {n c m n' c':Nat} (h:Gr w base K A n c m A' n' c' w') {e:List CT} {B:OA} {q r L:Nat} (hp:SlT w (ownX A n c) L e B q r):SlT w' (ownX A' n' c') L e B q r :=
 hp.kept h.kp (fun k hk hn hx=>by rcases h.loc k hx with h1 | h1;exact hn h1;omega) (l_)
theorem Gr.nil {w w':World} {base K:Nat} {A':OA} {m n' c':Nat} (h:Gr w base K none 0 0 m A' n' c' w'):Below w w w':=h.kp.below (l_) (fun _ _ h=>by cases h)
theorem OwT.txt_any {X Y:NP} {w:World} {base K n c:Nat} {et:TypeId} {A:OA} (h:OwT w base et [.txt] X K A n c):OwT w base et [.txt] Y K A n c:=by
 obtain ⟨xs,ho,hx⟩:=h;refine ⟨xs,ho,fun k j t hk hj=>?_⟩;obtain ⟨u,hu,hv⟩:=hx k j t hk hj
 match j,hj with
 | 0,hj=>injection hj with hj;subst hj;obtain ⟨s,rfl⟩:=hv.str;exact ⟨_,hu,.txt s⟩
def cr:Nat->Nat
 | 0=>1
 | d+1=>1+20*cr d
def RNm (w:World) (K:Nat) (e:Ending) (w':World):Prop:=∃ A n c,e=.returned (.slice A n c)/\Hid (SlT w' (fun k=>k<w) K [.txt] A n c)
theorem reads_step (cst K:Nat) (hK:K<=900000000) (kd n:Int) (s:ByteArray) (op:Int) (A:OA) (m c:Nat) (w:World) (hm:m<=20) (hcst:1+m*cst<=K)
  (hk:∀ k,k<m->∃ (g o:Nat) (kd' n':Int) (s':ByteArray) (op':Int) (A':OA) (m' c':Nat),A=some (f_ g o)/\g<w/\w.cell? ⟨g,o+k*5,none⟩=some (i_ kd')/\w.cell? ⟨g,o+k*5+1,none⟩=some (i_ n')/\w.cell? ⟨g,o+k*5+2,none⟩=some (.string s')/\w.cell? ⟨g,o+k*5+3,none⟩=some (i_ op')/\w.cell? ⟨g,o+k*5+4,none⟩=some (.slice A' m' c') ∧
   ∀ (w':World),Below w w w'->Calls prog 188 #[.agg #[i_ kd',i_ n',.string s',i_ op',.slice A' m' c']] w' fun e w''=>RNm w' cst e w''/\Below w' w' w'') :
  Calls prog 188 #[.agg #[i_ kd,i_ n,.string s,i_ op,.slice A m c]] w fun e w'=>RNm w K e w'/\Below w w w':=by
 obtain ⟨W,hW,Ag,Aq,B0⟩:=af_ w [i_ kd,i_ n,.string s,i_ op,.slice A m c] 209;have Ai:=q_ B0;have HW:=q_ Ag;have HK:=q_ hk;have x0:=B0.2.1 0 _ rfl;have x2:=B0.2.1 2 _ rfl;have Am:(w:Nat)<W:=by omega
 clear B0 Ag hk;go_enter func188,ntmps188;go_upto_region 2 with fail;rw [<-hW];clear hW;have Aa:kd=3\/kd≠3:=by by_cases h:kd=3;exact .inl h;exact .inr h
 go_upto_if 10 with fail;go_cut [3] (fun v wx=>∃ (A1:OA) (n1 c1:Nat),v=.slice A1 n1 c1/\Hid (Gr W W K none 0 0 1 A1 n1 c1 wx))
 case first =>
  rcases Aa with Aa | Aa
  ·subst Aa;have HU:=q_ (lit_names (w:=W) (A:=none) (n:=0) (c:=0) (K:=K) s (fun g h=>by cases h) o_);go_wp2_with (at_builtin;refine cy_ (X:=nX) (K:=K) (base:=W) (A:=none) (n:=0) (c:=0) rfl _ _ rfl ei_str zb_ (OwT.nil _ _ _ _ _ _) (by simp [Act.eval] <;> omega) HU.o (fun k h=>h.elim) m_ o_ t_ ?_;intro A5 c5 w5 o5 g5 l5;have O5:=q_ o5;have G5:=q_ g5;have L5:=q_ l5;clear o5 g5 l5);go_meet;refine ⟨_,_,_,rfl,q_ ⟨o_,o_,O5.o,((Kp.refl _ W).alloc _).grown G5.o (fun k hk=>by cases hk),fun g hg=>?_⟩⟩;rcases L5.o g hg with h1 | h1
   ·cases h1
   exact .inr (by rw [h1];simp)
  go_wp2;go_meet;exact ⟨none,0,0,rfl,q_ (Gr.refl (OwT.nil _ _ _ _ _ _) _)⟩
 rename World=>W1
 obtain ⟨A1,n1,c1,rfl,G1⟩:=hcut;have x4:W1.cell? (f_ w 4)=some (.slice A m c):=(belc G1.o.nil Am).trans (Ai.o.2.1 4 _ rfl);clear x0 x2;go_upto_region 5 with fail;clear x4;go_loopw [3,19] (fun v i wr=>∃ (k:Nat) (A':OA) (n' c':Nat),k<=m/\v=.slice A' n' c'/\i=i_ k/\Hid (Gr W W K none 0 0 (1+k*cst) A' n' c' wr)) (fun _ i _=>m - (intOf i).toNat)
 case atStart=>exact ⟨0,A1,n1,c1,o_,rfl,rfl,q_ (G1.o.more o_)⟩
 obtain ⟨k,A2,n2,c2,Aw,rfl,rfl,HG⟩:=hrel;have Ac:Below W W wr:=HG.o.nil;have A7:=q_ (HW.o.trans (Ac.mono HW.o.size));have An:(w:Nat)<=wr:=A7.o.size;have Ap:(W:Nat)<=wr:=Ac.size;clear Ac;by_cases hlt:k<m
 ·have Ae:(k:Int)<(m:Int):=by omega
  have Al:(k+1)*cst<=m*cst:=Nat.mul_le_mul_right _ hlt;have Ah:(k+1)*cst=k*cst+cst:=Nat.succ_mul _ _;obtain ⟨g,o,kd',n',s',op',A',m',c',rfl,hg,k0,k1,k2,k3,k4,A0⟩:=HK.o k hlt;have Au:g<wr:=lt_ hg A7.o.size;have A3:∀ j,wr.cell? (f_ g j)=w.cell? (f_ g j):=fun j=>belc A7.o hg
  rw [<-A3] at k0 k1 k2 k3 k4;have Aj:=q_ A0;have A9:=h_ (Below wr wr (wr.alloc (.cells #[i_ kd',i_ n',.string s',i_ op',.slice A' m' c'] 209))) ((b_).alloc (l_) _);clear A3 A0;go_wp2_with fail;refine (Aj.o _ (A7.o.trans (A9.o.mono An))).mono ?_;rintro e W3 ⟨⟨B,nb,cb,rfl,hS⟩,Af⟩;have A8:Below wr wr W3:=A9.o.trans (Af.mono A9.o.size);have G3:=q_ (HG.o.below A8);have Az:nb<=cst:=hS.o.le;have HS:=h_ (SlT W3 (ownX A2 n2 c2) cst [.txt] B nb cb) (hS.o.less2 (fun k _ hx=>by have:=HG.o.own.olt _ hx;show k<_;have:=A9.o.size;omega));have Ax:n2<=1+k*cst:=by have:=HG.o.hi;omega
  clear Af A8 hS k0 k1 k2 k3 k4;go_upto_region 8 with fail;go_loopw [3,26] (fun v i wy=>∃ (j:Nat) (A4:OA) (n4 c4:Nat),j<=nb/\v=.slice A4 n4 c4/\i=i_ j/\Hid (Gr W3 W K A2 n2 c2 j A4 n4 c4 wy)) (fun _ i _=>nb - (intOf i).toNat)
  case atStart=>exact ⟨0,A2,n2,c2,o_,rfl,rfl,q_ (Gr.refl G3.o.own _)⟩
  rename World=>wy
  obtain ⟨j,A4,n4,c4,Av,rfl,rfl,HJ⟩:=hrel;by_cases hlj:j<nb
  ·have Ad:(j:Int)<(nb:Int):=by omega
   have Ak:=q_ (HJ.o.slt HS.o);have Ay:n4<=n2+j:=HJ.o.hi;obtain ⟨gb,ob,rfl,As,Ar,us,hv,hm⟩:=Ak.o.mt hlj;obtain ⟨u,hu,ht⟩:=hv.2 0 .txt rfl;obtain ⟨t,rfl⟩:=ht.str;have y0:wy.cell? ⟨gb,ob+j,none⟩=some (.string t):=by have:=hm 0 _ hu;simpa using this
   clear hv hm hu ht;go_wp2_with fail;refine (Has_any A4 n4 c4 t nX K wy (HJ.o.own.names o_) hK).mono ?_;rintro e W5 ⟨⟨b,rfl⟩,Ab⟩;have Ao:=q_ Ab;have G5:=q_ (HJ.o.below Ab);clear Ab y0;cases b
   case true =>
    go_wp2;go_roundw
    case rel=>exact ⟨j+1,A4,n4,c4,o_,rfl,zc_,q_ (G5.o.more o_)⟩
    case measure=>exact me_
   have HU:=q_ (lit_names (w:=W5) (A:=A4) (n:=n4) (c:=c4) (K:=K) t G5.o.own.olt o_);have HO:=q_ (G5.o.own.below ((b_).alloc (l_) (.cells #[.string t] 9)));have AA:(W:Nat)<=W5:=by have h1:=G3.o.kp.size;have h2:=G5.o.kp.size;omega
   go_wp2_with (at_builtin;refine cy_ rfl _ _ rfl ei_str zb_ HO.o zb_ HU.o (fun k h=>h.elim) m_ o_ za_ ?_;intro A6 c6 w6 o6 g6 l6;have O6:=q_ o6;have G6:=q_ g6;have L6:=q_ l6;clear o6 g6 l6);go_roundw
   case rel =>
    have G7:Gr W5 W K A4 n4 c4 1 A6 (n4+1) c6 w6:=⟨o_,l_,O6.o,((Kp.refl _ W5).alloc _).grown G6.o (fun k hk=>.inl hk),fun g hg=>by
     rcases L6.o g hg with h1 | h1
     ·exact .inl h1
     exact .inr (by rw [h1];simp)⟩
    exact ⟨j+1,A6,n4+1,c6,o_,rfl,zc_,q_ (G5.o.trans G7)⟩
   case measure=>exact me_
  have Ad:¬(j:Int)<(nb:Int):=by omega
  go_wp2;go_roundw
  case rel=>exact ⟨k+1,A4,n4,c4,o_,rfl,zc_,q_ ((G3.o.trans HJ.o).more o_)⟩
  case measure=>exact me_
 have Ae:¬(k:Int)<(m:Int):=by omega
 obtain rfl:k=m:=by omega
 go_wp2;go_ret;exact ⟨⟨A2,n2,c2,rfl,q_ (HG.o.own.txt_any.slT (fun q hq=>by have:q<w:=hq;omega) (by have:=HG.o.hi;omega))⟩,A7.o⟩
theorem Reads_any (X:NP):∀ (d:Nat) (vs:VL) (w:World),d<=4->VTs w X 20 (be_ d) vs->Calls prog 188 #[.agg vs.toArray] w fun e w'=>RNm w (cr d) e w'/\Below w w w'
 | 0,vs,w,_,h=>by
  obtain ⟨kd,n,s,op,A,c,rfl⟩:=h.expr0;exact reads_step 0 (cr 0) d_ kd n s op A 0 c w o_ d_ (fun k hk=>o_)
 | d+1,vs,w,hd,h=>by
  obtain ⟨kd,n,s,op,A,m,c,rfl,hp⟩:=h.expr;have hm:=hp.sl.le;have A0:cr (d+1)<=900000000:=by
   match d,hd with
   | 0,_=>decide
   | 1,_=>decide
   | 2,_=>decide
   | 3,_=>decide
  refine reads_step (cr d) (cr (d+1)) A0 kd n s op A m c w hm (by have:m*cr d<=20*cr d:=Nat.mul_le_mul_right _ hm;show 1+m*cr d<=1+20*cr d;omega) (fun k hk=>?_);obtain ⟨g,o,us,rfl,hg,hX,hu,A1,hc⟩:=hp.el hk;obtain ⟨A2,n',s',A3,A',m',c',rfl,_,_,_⟩:=A1;rw [ee_] at hc;exact ⟨g,o,A2,n',s',A3,A',m',c',rfl,hg,hc 0 _ rfl,hc 1 _ rfl,hc 2 _ rfl,hc 3 _ rfl,hc 4 _ rfl,fun w' hb=>Reads_any X d _ w' o_ (hu.up (.of_below hb) (l_))⟩
theorem Vars_t (X:NP) (K:Nat) (hK:K<=900000000) (d:Nat) (s:ByteArray) (P:OA) (np cp:Nat) (B:OA) (nb cb:Nat) (w:World) (hP:SlT w X 20 [.sat strP] P np cp) (hB:SlP w X 20 pS (ag_ d) B nb cb) (hc:20+cw d<=K) :
  Calls prog 109 #[.agg #[.string s,.slice P np cp,.slice B nb cb]] w fun e w'=>RNm w K e w'/\Below w w w':=by
 obtain ⟨W,hW,A0,A8,B0⟩:=af_ w [.string s,.slice P np cp,.slice B nb cb] 194;have A5:=q_ B0;have HW:=q_ A0;have x1:=B0.2.1 1 _ rfl;have A7:(w:Nat)<W:=by omega
 have Ab:=hP.le;have HP:=h_ (SlT W nX 20 [.sat strP] P np cp) ((hP.up (Kp.of_below A0) (l_)).less2 (fun _ _ h=>h.elim));have HS:=h_ (SlP W nX 20 pS (ag_ d) B nb cb) ((hB.below A0).less (fun _ _ h=>h.elim));clear B0 A0 hP hB;go_enter func109,ntmps109;go_upto_region 3 with fail;rw [<-hW];clear hW x1;go_loopw [3,9] (fun v i wr=>∃ (k:Nat) (A':OA) (n' c':Nat),k<=np/\v=.slice A' n' c'/\i=i_ k/\Hid (Gr W W K none 0 0 k A' n' c' wr)) (fun _ i _=>np - (intOf i).toNat)
 case atStart=>exact ⟨0,none,0,0,o_,rfl,rfl,q_ (Gr.refl (OwT.nil _ _ _ _ _ _) _)⟩
 obtain ⟨k,A2,n2,c2,A9,rfl,rfl,HG⟩:=hrel;have Aa:n2<=0+k:=HG.o.hi;have A4:(W:Nat)<=wr:=HG.o.kp.size;by_cases hlt:k<np
 ·have A1:(k:Int)<(np:Int):=by omega
  obtain ⟨g,o,rfl,hg,hX,us,hv,hm⟩:=(HP.o.up (Kp.of_below HG.o.nil) (l_)).mt hlt;obtain ⟨u,hu,ht⟩:=hv.2 0 (.sat strP) rfl;obtain ⟨t,rfl,_⟩:strP u:=by cases ht;assumption
  have y0:wr.cell? ⟨g,o+k,none⟩=some (.string t):=by have:=hm 0 _ hu;simpa using this
  clear hv hm hu ht;go_wp2_with fail;refine (add_t wr W K A2 n2 c2 t HG.o.own o_ hK A4).mono ?_;rintro e W3 ⟨A3,n3,c3,rfl,G3⟩;go_wp2;go_roundw
  case rel=>exact ⟨k+1,A3,n3,c3,o_,rfl,zc_,q_ (HG.o.trans G3.o)⟩
  case measure=>exact me_
 have A1:¬(k:Int)<(np:Int):=by omega
 have x2:wr.cell? (f_ w 2)=some (.slice B nb cb):=(belc HG.o.nil A7).trans (A5.o.2.1 2 _ rfl);have A6:=h_ (SlP wr (ownX A2 n2 c2) 20 pS (ag_ d) B nb cb) (HG.o.stay (HS.o.less (fun _ _ h=>by cases h)));go_wp2_with fail;refine (walk_t W K hK d B nb cb A2 n2 c2 wr A6.o HG.o.own o_ A4).mono ?_;rintro e W3 ⟨A3,n3,c3,rfl,G3⟩;have G4:=q_ (HG.o.trans G3.o);go_wp2;go_ret;exact ⟨⟨A3,n3,c3,rfl,q_ (G4.o.own.txt_any.slT (fun q hq=>by have:q<w:=hq;omega) (by have:=G4.o.hi;omega))⟩,HW.o.trans (G4.o.nil.mono HW.o.size)⟩
theorem expr_ok0:ExprOK 0:=mex_step 0 d_ (fun j h=>absurd h o_)
theorem expr_ok1:ExprOK 1:=mex_step 1 d_ (fun j h=>by injection h with h;subst h;exact expr_ok0)
theorem expr_ok2:ExprOK 2:=mex_step 2 d_ (fun j h=>by injection h with h;subst h;exact expr_ok1)
theorem cm_:∀ k,k<=2->ExprOK k
 | 0,_=>expr_ok0
 | 1,_=>expr_ok1
 | 2,_=>expr_ok2
def PtrOK:Prop:=∀ (d b lp:Nat) (X:NP) (w:World),Mk d b lp w->(∀ q,Zm d b q->X q)->(∀ q,X q->q<w)->Calls prog 205 #[.pointer (some (a_ b))] w fun e w'=>RE X 2 e w'/\Md d b lp w w'
theorem pointer_ok:PtrOK:=by
 intro d b lp X w hM hz Ac;obtain ⟨W,hW,A9,Ag,B0⟩:=af_ w [i_ 0,i_ 0,.string ⟨#[]⟩,i_ 0,.slice none 0 0] 209;have A3:=hM.below A9;have Aa:b<w:=hM.lt;obtain ⟨X1,A4⟩:∃ X1:NP,X1=fun q=>X q\/q=w:=⟨_,rfl⟩
 obtain ⟨Z1,A5⟩:∃ Z1:NP,Z1=fun q=>Zm d b q\/q=w:=⟨_,rfl⟩
 have A2:=h_ (X1 w/\Z1 w) (⟨by rw [A4];exact .inr rfl,by rw [A5];exact .inr rfl⟩);have Ab:InvR d b lp X1 Z1 w w (be_ (2)) pE W:=⟨A3,.of_below A9,fun q hq=>by rw [A4] at hq;rcases hq with hq | hq;(have:=Ac q hq;omega);omega,_,B0,vts_ex (SlP.nil _ _ _ _ _),pE_ex x_ x_ d_⟩;have hC:IC d b lp (x1 X1) (InvR d b lp X1 Z1 w w (be_ (2)) pE):=InvR.ic (fun _ _ _ h=>h) (fun q hq=>by rw [A4];exact .inl (hz q hq)) (fun q hq=>by rw [A5];exact .inl hq) hM.nz;have HC:=q_ hC;have A6:=h_ (∀ w',Mk d b lp w'->Kp (Zm d b) W w'->InvR d b lp X1 Z1 w w (be_ (2)) pE w') (fun w' h1 h2=>hC.up W w' Ab h1 h2);have A0:=h_ (∀ (a:Act) (w2:World),InvR d b lp X1 Z1 w w (be_ (2)) pE w2->a.defers=[]->a.tmps.getD 2 undef=.pointer (some (a_ w))->bodyPost prog f205 (fun e w'=>RE X (2) e w'/\Md d b lp w w') .ret a w2) (fun a w2 hI A1 ha=>by
  obtain ⟨cs,g1,g2,g3⟩:=hI.bx
  obtain ⟨kd,n,s,op,A,m,c,rfl,_⟩:=g2.expr
  refine retC results205 ha underlying209 rfl (cs:=exL kd n s op A m c) isz5 g1.whole A1 ⟨⟨_,_,_,_,_,_,_,rfl,q_ ⟨g2.less (fun q _ hq=>by rw [A4];exact .inl hq),g3⟩⟩,hI.ok,hI.kp.mono (fun q hq Ae=>?_)⟩
  rw [A5] at Ae
  rcases Ae with h | h
  ·exact h
  omega)
 have c0:=A3.c0;have Ah:=A3.lt;have HD:=q_ A3.dice;have Af:=q_ A3;clear hM hz Ac B0 A9 Ab hC Ag A4 A5;go_enter func205,ntmps205;go_upto_region 1 with fail;rw [<-hW];clear hW;go_upto_region 2 with (go_at_call 26;refine (bo_ d 4 W HD.o d_ d_).mono ?_;rintro e w1 ⟨r,hr,rfl,ht,_⟩);have A8:=q_ (Af.o.thrown ht);have A7:=q_ (ht.kp b);clear c0 Ah ht;by_cases h0:r=0
 ·subst h0;go_upto_region 3 with fail;refine bh_ (X:=(x1 X1)) (Inv:=(InvR d b lp X1 Z1 w w (be_ (2)) pE)) (ks:=fun i=>([(kV _ (pt b)),(kEx _ 2),(kAny _)]:List (SK (x1 X1))).getD i (kAny _)) k_ (A6.o _ A8.o A7.o) ?_ ?_
  ·intro i o ho a w hI hout hin
   match i,ho with
   | 0,ho=>cases ho;exact M0_
   | 1,ho=>cases ho;exact ck_ (k:=1) HC.o (cm_ 1 d_) rfl H0_ rfl hI
   | 2,ho=>cases ho;exact df_ (fun _ h=>h) Aa A2.o.1 A2.o.2 rfl (hout 2 d_) (show (kEx _ 2).p w _ from H1_) hI
   | q+3,ho=>exact n_ ho
  exact te_
 have Ai:¬(r:Int)=0:=by omega
 by_cases h1:r=1
 ·subst h1;go_upto_region 5 with fail;refine bh_ (X:=(x1 X1)) (Inv:=(InvR d b lp X1 Z1 w w (be_ (2)) pE)) (ks:=fun i=>([(kV _ (pt b)),(kV _ (pt b)),(kV _ (pt b)),(kV _ (pt d)),(kNat _ 2),(kEx _ 0),(kExs _ 0 1),(kEx _ 1),(kAny _)]:List (SK (x1 X1))).getD i (kAny _)) k_ (A6.o _ A8.o A7.o) ?_ ?_
  ·intro i o ho a w hI hout hin
   match i,ho with
   | 0,ho=>cases ho;exact M0_
   | 1,ho=>cases ho;exact cd_ rfl H0_ hI
   | 2,ho=>cases ho;exact cc_ d_ rfl H1_ hI
   | 3,ho=>cases ho;exact bl_ HC.o rfl H2_ hI
   | 4,ho=>cases ho;exact br_ (n:=2) HC.o rfl H3_ rfl d_ d_ hI
   | 5,ho=>cases ho;exact eq_ HC.o rfl ⟨_,rfl,d_⟩ hI
   | 6,ho=>cases ho;exact du_ HC.o rfl (show (kEx _ 0).p w _ from H5_) hI
   | 7,ho=>cases ho;exact rk_be3 rfl (cx_ (show (kNat _ 2).p w _ from H4_)) (show (kExs _ 0 1).p w _ from H6_) hI
   | 8,ho=>cases ho;exact df_ (fun _ h=>h) Aa A2.o.1 A2.o.2 rfl (hout 2 d_) (bj_ (d':=2) d_ (show (kEx _ 1).p w _ from H7_)) hI
   | q+9,ho=>exact n_ ho
  exact te_
 have Aj:¬(r:Int)=1:=by omega
 go_upto_region 6 with fail;refine bh_ (X:=(x1 X1)) (Inv:=(InvR d b lp X1 Z1 w w (be_ (2)) pE)) (ks:=fun i=>([(bu_ _ 2),(kV _ (pt b)),(kV _ (pt b)),(kV _ (pt b)),(kV _ (pt d)),(kNat _ 2),(dj_ _),(kStr _),(kEx _ 0),(kAny _)]:List (SK (x1 X1))).getD i (kAny _)) k_ (A6.o _ A8.o A7.o) ?_ ?_
 ·intro i o ho a w hI hout hin
  match i,ho with
  | 0,ho=>cases ho;exact rk_bst2 HC.o rfl d_ d_ hI
  | 1,ho=>cases ho;exact M0_
  | 2,ho=>cases ho;exact cd_ rfl H1_ hI
  | 3,ho=>cases ho;exact cc_ d_ rfl H2_ hI
  | 4,ho=>cases ho;exact bl_ HC.o rfl H3_ hI
  | 5,ho=>cases ho;exact br_ (n:=2) HC.o rfl H4_ rfl d_ d_ hI
  | 6,ho=>cases ho;exact rk_idx (n:=2) rfl (show (bu_ _ 2).p w _ from H0_) (show (kNat _ 2).p w _ from H5_) hI
  | 7,ho=>cases ho;exact er_ rfl (show (dj_ _).p w _ from H6_) hI
  | 8,ho=>cases ho;exact eq_ HC.o rfl (show (kStr _).p w _ from H7_) hI
  | 9,ho=>cases ho;exact df_ (fun _ h=>h) Aa A2.o.1 A2.o.2 rfl (hout 2 d_) (bj_ (d':=2) d_ (show (kEx _ 0).p w _ from H8_)) hI
  | q+10,ho=>exact n_ ho
 exact te_
def CallOK:Prop:=∀ (d b lp:Nat) (X:NP) (s:ByteArray) (w:World),s.size<=100->Mk d b lp w->(∀ q,Zm d b q->X q)->(∀ q,X q->q<w)->Calls prog 206 #[.pointer (some (a_ b)),.string s] w fun e w'=>RS X 0 e w'/\Md d b lp w w'
theorem call_ok:CallOK:=by
 intro d b lp X s w hs hM hz Ad;obtain ⟨W,hW,Aa,Ag,B0⟩:=af_ w [i_ 0,.string ⟨#[]⟩,.string ⟨#[]⟩,i_ 0,i_ 0,.slice none 0 0,.slice none 0 0,.slice none 0 0] 212;have A3:=hM.below Aa;have Ab:b<w:=hM.lt;obtain ⟨X1,A4⟩:∃ X1:NP,X1=fun q=>X q\/q=w:=⟨_,rfl⟩
 obtain ⟨Z1,A7⟩:∃ Z1:NP,Z1=fun q=>Zm d b q\/q=w:=⟨_,rfl⟩
 have A2:=h_ (X1 w/\Z1 w) (⟨by rw [A4];exact .inr rfl,by rw [A7];exact .inr rfl⟩);have Ac:InvR d b lp X1 Z1 w w (ag_ (0)) pS W:=⟨A3,.of_below Aa,fun q hq=>by rw [A4] at hq;rcases hq with hq | hq;(have:=Ad q hq;omega);omega,_,B0,eg_ (SlP.nil _ _ _ _ _),pS_st x_ x_ x_ d_ d_⟩;have hC:IC d b lp (x1 X1) (InvR d b lp X1 Z1 w w (ag_ (0)) pS):=InvR.ic (fun _ _ _ h=>h) (fun q hq=>by rw [A4];exact .inl (hz q hq)) (fun q hq=>by rw [A7];exact .inl hq) hM.nz;have HC:=q_ hC;have A8:=h_ (∀ w',Mk d b lp w'->Kp (Zm d b) W w'->InvR d b lp X1 Z1 w w (ag_ (0)) pS w') (fun w' h1 h2=>hC.up W w' Ac h1 h2);have A0:=h_ (∀ (a:Act) (w2:World),InvR d b lp X1 Z1 w w (ag_ (0)) pS w2->a.defers=[]->a.tmps.getD 4 undef=.pointer (some (a_ w))->bodyPost prog f206 (fun e w'=>RS X (0) e w'/\Md d b lp w w') .ret a w2) (fun a w2 hI A1 ha=>by
  obtain ⟨cs,g1,g2,g3⟩:=hI.bx
  obtain ⟨kd,s,f,n,op,A,B,C,m,c,c1,c2,rfl,_⟩:=g2.stmt0
  refine retC results206 ha underlying212 rfl (cs:=stL kd s f n op A m c B 0 c1 C 0 c2) isz8 g1.whole A1 ⟨⟨_,_,_,_,_,_,_,_,_,_,_,_,_,_,rfl,q_ ⟨g2.less (fun q _ hq=>by rw [A4];exact .inl hq),g3⟩⟩,hI.ok,hI.kp.mono (fun q hq Af=>?_)⟩
  rw [A7] at Af
  rcases Af with h | h
  ·exact h
  omega)
 have c0:=A3.c0;have Ah:=A3.lt;have HD:=q_ A3.dice;have A9:=q_ A3;clear hM hz Ad B0 Aa Ac hC Ag A4 A7;obtain ⟨fn,c3⟩:=A9.o.c3;go_enter func206,ntmps206;go_upto_region 1 with fail;rw [<-hW];clear hW;by_cases hf:fn=0
 ·subst hf;go_upto_if 17 with (go_at_call 26;refine (bo_ d 2 W HD.o d_ d_).mono ?_;rintro e w1 ⟨r,hr,rfl,ht,_⟩);have A6:=q_ (A9.o.thrown ht);have A5:=q_ (ht.kp b);clear c0 Ah ht c3;by_cases h0:r=0
  ·subst h0;go_upto_region 2 with fail;refine dr_ (X:=(x1 X1)) (Inv:=(InvR d b lp X1 Z1 w w (ag_ (0)) pS)) (ks:=fun i=>([(kStr _),(kV _ (pt b)),(kEx _ 2),(kV _ (pt b)),(kV _ (pt b)),(kV _ (pt b)),(kV _ (pt d)),(kNat _ 4),(kEx _ 0),(kExs _ dE 2),(kSt _ 0),(kAny _)]:List (SK (x1 X1))).getD i (kAny _)) rfl k_ (A8.o _ (A6.o.below (Below.drew (b_))) (A5.o.ba_ (Below.drew (b_)))) ?_ ?_
   ·intro i o ho a w hI hout hin
    match i,ho with
    | 0,ho=>cases ho;exact bn_ (.inl rfl) (show (kStr _).p w _ from ⟨s,hout 1 d_,hs⟩) hI
    | 1,ho=>cases ho;exact M0_
    | 2,ho=>cases ho;exact ck_ (k:=1) HC.o (cm_ 1 d_) rfl H1_ rfl hI
    | 3,ho=>cases ho;exact M0_
    | 4,ho=>cases ho;exact cd_ rfl H3_ hI
    | 5,ho=>cases ho;exact cc_ d_ rfl H4_ hI
    | 6,ho=>cases ho;exact bl_ HC.o rfl H5_ hI
    | 7,ho=>cases ho;exact br_ (n:=4) HC.o rfl H6_ rfl d_ d_ hI
    | 8,ho=>cases ho;obtain ⟨q,hq⟩:=(cx_ (show (kNat _ 4).p w _ from H7_));exact rk_num HC.o rfl hq hI
    | 9,ho=>cases ho;exact rk_bse2 HC.o rfl (bj_ (d':=dE) d_ (show (kEx _ 2).p w _ from H2_)) (bj_ (d':=dE) d_ (show (kEx _ 0).p w _ from H8_)) hI
    | 10,ho=>cases ho;exact rk_bs_0125 rfl rfl (show (kStr _).p w _ from H0_) rfl d_ (show (kExs _ dE 2).p w _ from H9_) d_ d_ (fun _=>.inl d_) hI
    | 11,ho=>cases ho;exact bk_ (fun _ h=>h) Ab A2.o.1 A2.o.2 rfl (hout 4 d_) (show (kSt _ 0).p w _ from H10_) hI
    | q+12,ho=>exact n_ ho
   exact tf_
  have Ai:¬(r:Int)=0:=by omega
  go_upto_region 3 with fail;refine bh_ (X:=(x1 X1)) (Inv:=(InvR d b lp X1 Z1 w w (ag_ (0)) pS)) (ks:=fun i=>([(kStr _),(kV _ (pt b)),(kEx _ 2),(kExs _ dE 1),(kSt _ 0),(kAny _)]:List (SK (x1 X1))).getD i (kAny _)) k_ (A8.o _ A6.o A5.o) ?_ ?_
  ·intro i o ho a w hI hout hin
   match i,ho with
   | 0,ho=>cases ho;exact bn_ (.inl rfl) (show (kStr _).p w _ from ⟨s,hout 1 d_,hs⟩) hI
   | 1,ho=>cases ho;exact M0_
   | 2,ho=>cases ho;exact ck_ (k:=1) HC.o (cm_ 1 d_) rfl H1_ rfl hI
   | 3,ho=>cases ho;exact du_ HC.o rfl (bj_ (d':=dE) d_ (show (kEx _ 2).p w _ from H2_)) hI
   | 4,ho=>cases ho;exact rk_bs_0125 rfl rfl (show (kStr _).p w _ from H0_) rfl d_ (show (kExs _ dE 1).p w _ from H3_) d_ d_ (fun _=>.inr d_) hI
   | 5,ho=>cases ho;exact bk_ (fun _ h=>h) Ab A2.o.1 A2.o.2 rfl (hout 4 d_) (show (kSt _ 0).p w _ from H4_) hI
   | q+6,ho=>exact n_ ho
  exact tf_
 have A6:=A9;have A5:=q_ (Kp.refl (Zm d b) W);go_upto_region 3 with fail;refine bh_ (X:=(x1 X1)) (Inv:=(InvR d b lp X1 Z1 w w (ag_ (0)) pS)) (ks:=fun i=>([(kStr _),(kV _ (pt b)),(kEx _ 2),(kExs _ dE 1),(kSt _ 0),(kAny _)]:List (SK (x1 X1))).getD i (kAny _)) k_ (A8.o _ A6.o A5.o) ?_ ?_
 ·intro i o ho a w hI hout hin
  match i,ho with
  | 0,ho=>cases ho;exact bn_ (.inl rfl) (show (kStr _).p w _ from ⟨s,hout 1 d_,hs⟩) hI
  | 1,ho=>cases ho;exact M0_
  | 2,ho=>cases ho;exact ck_ (k:=1) HC.o (cm_ 1 d_) rfl H1_ rfl hI
  | 3,ho=>cases ho;exact du_ HC.o rfl (bj_ (d':=dE) d_ (show (kEx _ 2).p w _ from H2_)) hI
  | 4,ho=>cases ho;exact rk_bs_0125 rfl rfl (show (kStr _).p w _ from H0_) rfl d_ (show (kExs _ dE 1).p w _ from H3_) d_ d_ (fun _=>.inr d_) hI
  | 5,ho=>cases ho;exact bk_ (fun _ h=>h) Ab A2.o.1 A2.o.2 rfl (hout 4 d_) (show (kSt _ 0).p w _ from H4_) hI
  | q+6,ho=>exact n_ ho
 exact tf_
structure FnC (w:World) (A:OA) (k:Nat) (s:ByteArray) (P:OA) (np cp:Nat) (B:OA) (nb cb g o:Nat):Prop where
 hA:A=some (f_ g o)
 lt:g<w
 k0:w.cell? ⟨g,o+k*3,none⟩=some (.string s)
 k1:w.cell? ⟨g,o+k*3+1,none⟩=some (.slice P np cp)
 k2:w.cell? ⟨g,o+k*3+2,none⟩=some (.slice B nb cb)
theorem FnC.up {w w':World} {A:OA} {k:Nat} {s:ByteArray} {P:OA} {np cp:Nat} {B:OA} {nb cb g o:Nat} (h:FnC w A k s P np cp B nb cb g o) (hb:Below w w w'):FnC w' A k s P np cp B nb cb g o:=by
 have hc:∀ j,w'.cell? (f_ g j)=w.cell? (f_ g j):=fun j=>belc hb h.lt
 exact ⟨h.hA,lt_ h.lt hb.size,(hc _).trans h.k0,(hc _).trans h.k1,(hc _).trans h.k2⟩
theorem SlT.fn {d:Nat} {X:NP} {w:World} {K:Nat} {A:OA} {n c k:Nat} (h:SlT w X K (dc_ d) A n c) (hk:k<n):∃ (s:ByteArray) (P:OA) (np cp:Nat) (B:OA) (nb cb g o:Nat),FnC w A k s P np cp B nb cb g o/\s.size<=100/\SlT w X K [.sat strP] P np cp/\SlP w X K pS (ag_ d) B nb cb/\¬X g:=by
 obtain ⟨g,o,rfl,hg,hX,vs,hv,hm⟩:=h.mt hk;obtain ⟨a,r1,rfl,ha,h1⟩:=hv.head;obtain ⟨b,r2,rfl,hb,h2⟩:=h1.head;obtain ⟨x,r3,rfl,hx,h3⟩:=h2.head;obtain ⟨s,rfl,hs⟩:strP a:=by cases ha;assumption
 obtain ⟨P,np,cp,rfl,hP⟩:=hb.slice;obtain ⟨B,nb,cb,rfl,hB⟩:=hx.dm_;exact ⟨s,P,np,cp,B,nb,cb,g,o,⟨rfl,hg,by have:=hm 0 _ rfl;simpa [dc_] using this,by have:=hm 1 _ rfl;simpa [dc_] using this,by have:=hm 2 _ rfl;simpa [dc_] using this⟩,hs,hP,hB,hX⟩
theorem Shaped_t (X:NP) (K:Nat) (hK:K<=900000000) (d:Nat) (A:OA) (n c:Nat) (w:World) (h:SlT w X K (dc_ d) A n c) :
  Calls prog 159 #[.agg #[.slice A n c]] w fun e w'=>RI e/\Below w w w':=by
 obtain ⟨W,hW,A9,Ag,B0⟩:=af_ w [.slice A n c] 136;have Ae:=q_ B0;have HW:=q_ A9;have H:=q_ h;have Al:=h.le;have x0:=B0.2.1 0 _ rfl;clear B0 A9 h;go_enter func159,ntmps159;go_upto_region 1 with fail;rw [<-hW];clear hW;go_cut [3] (fun v wx=>∃ b:Bool,v=.bool b/\Hid (wx=W))
 case first =>
  go_wp2;all_goals
   go_meet;exact ⟨_,rfl,q_ rfl⟩
 case rest =>
 rename World=>W1
 obtain ⟨bl,rfl,Ab⟩:=hcut;have hw:=Ab.o;subst hw;clear Ab;go_upto_region 4 with fail;clear x0;go_loopw [3,4,25] (fun b a i wr=>∃ (k:Nat) (p:Bool) (q:Int),k<=n/\b=.bool p/\a=i_ q/\i=i_ k/\Hid (Below W1 W1 wr)) (fun _ _ i _=>n - (intOf i).toNat)
 case atStart=>exact ⟨0,bl,0,o_,rfl,rfl,rfl,q_ (b_)⟩
 obtain ⟨k,p,q,Ak,rfl,rfl,rfl,HR⟩:=hrel;have A2:=q_ (HW.o.trans (HR.o.mono HW.o.size));by_cases hlt:k<n
 ·have A5:(k:Int)<(n:Int):=by omega
  obtain ⟨s,P,np,cp,B,nb,cb,g,o,Aa,hs,hP,hB,_⟩:=H.o.fn hlt;obtain ⟨rfl,hg,k0,k1,k2⟩:=Aa.up A2.o;obtain ⟨V,hV,A3,Af,B1⟩:=af_ wr [.string s,.slice P np cp,.slice B nb cb] 194;have A0:=q_ (A2.o.trans (A3.mono A2.o.size));have A6:=q_ (HR.o.trans (A3.mono HR.o.size));have KC:=h_ (∀ w',Below V V w'->(w'.cell? (a_ wr)=some (.string s)/\w'.cell? (f_ wr 1)=some (.slice P np cp)/\w'.cell? (f_ wr 2)=some (.slice B nb cb))) (fun w' hb=>⟨(B1.below hb).2.1 0 _ rfl,(B1.below hb).2.1 1 _ rfl,(B1.below hb).2.1 2 _ rfl⟩);have Ac:=hP.le;have HP:=q_ hP;have HB:=q_ hB;clear B1 A3 Aa hP hB;go_upto_region 6 with fail;rw [<-hV];clear hV k0 k1 k2;obtain ⟨x0,x1,x2⟩:=KC.o V (b_);go_wp2_with fail;refine (Name05_any s V hs).mono ?_;rintro e W2 ⟨⟨b,rfl⟩,A8⟩;have H2:=q_ A8;clear x0 x1 x2 A8;obtain ⟨x0,x1,x2⟩:=KC.o W2 H2.o;cases b
  case false =>
   go_wp2;go_ret;exact ⟨⟨_,rfl⟩,A0.o.trans (H2.o.mono A0.o.size)⟩
  case true =>
  go_upto_region 9 with fail;clear x0 x1 x2;go_loopw [36] (fun i wy=>∃ j:Nat,j<=np/\i=i_ j/\Hid (Below V V wy)) (fun i _=>np - (intOf i).toNat)
  case atStart=>exact ⟨0,o_,rfl,H2⟩
  rename World=>wy
  obtain ⟨j,Aj,rfl,HY⟩:=hrel;have A7:=q_ (A0.o.trans (HY.o.mono A0.o.size));by_cases hlj:j<np
  ·have A4:(j:Int)<(np:Int):=by omega
   obtain ⟨gp,op,rfl,Ai,Ah,us,hv,hm⟩:=(HP.o.up (Kp.of_below A7.o) (l_)).mt hlj;obtain ⟨u,hu,ht⟩:=hv.2 0 (.sat strP) rfl;obtain ⟨t,rfl,Ad⟩:strP u:=by cases ht;assumption
   have y0:wy.cell? ⟨gp,op+j,none⟩=some (.string t):=by have:=hm 0 _ hu;simpa using this
   clear hv hm hu ht;go_wp2_with fail;refine (Name05_any t wy Ad).mono ?_;rintro e W3 ⟨⟨b,rfl⟩,A1⟩;have H3:=q_ (HY.o.trans (A1.mono HY.o.size));clear A1 y0;cases b
   case false =>
    exact td_
   go_wp2;go_roundw
   case rel=>exact ⟨j+1,o_,zc_,H3⟩
   case measure=>exact me_
  have A4:¬(j:Int)<(np:Int):=by omega
  obtain ⟨x0,x1,x2⟩:=KC.o wy HY.o;go_wp2_with fail;refine (measure_any X K hK d B nb cb wy (HB.o.below A7.o)).mono ?_;rintro e W3 ⟨⟨a1,b1,o1,rfl⟩,A1⟩;have H3:=q_ (HY.o.trans (A1.mono HY.o.size));clear x0 x1 x2 A1;obtain ⟨x0,x1,x2⟩:=KC.o W3 H3.o;cases o1
  case false =>
   exact td_
  go_wp2;all_goals
   go_roundw
   case rel=>exact ⟨k+1,_,_,o_,rfl,rfl,zc_,q_ (A6.o.trans (H3.o.mono A6.o.size))⟩
   case measure=>exact me_
 have A5:¬(k:Int)<(n:Int):=by omega
 go_wp2;all_goals
  go_ret;exact ⟨⟨_,rfl⟩,A2.o⟩
def nameAt (w:World) (A:OA) (q:Nat) (s:ByteArray):Prop:=∃ g o,A=some (f_ g o)/\w.cell? ⟨g,o+q*3,none⟩=some (.string s)
def RIx (n:Nat) (want:Prop) (e:Ending):Prop:=∃ r:Int,e=.returned (i_ r)/\(r=-1\/∃ k:Nat,r=k/\k<n)/\Hid (want->r≠-1)
theorem Index_t (X:NP) (K:Nat) (hK:K<=900000000) (d:Nat) (A:OA) (n c:Nat) (s:ByteArray) (w:World) (h:SlT w X K (dc_ d) A n c) :
  Calls prog 160 #[.agg #[.slice A n c],.string s] w fun e w'=>RIx n (∃ q,q<n/\nameAt w A q s) e/\Below w w w':=by
 obtain ⟨W,hW,A4,A5,B0⟩:=af_ w [.slice A n c] 136;have HW:=q_ A4;have H:=q_ h;have A7:=h.le;have x0:=B0.2.1 0 _ rfl;clear B0 A4 h;go_enter func160,ntmps160;go_upto_region 2 with fail;rw [<-hW];clear hW x0;go_loopw [10] (fun i wr=>∃ k:Nat,k<=n/\i=i_ k/\Hid (Below W W wr)/\Hid ((∃ q,q<n/\nameAt w A q s)->∃ q,k<=q/\q<n/\nameAt w A q s)) (fun i _=>n - (intOf i).toNat)
 case atStart=>exact ⟨0,o_,rfl,q_ (b_),q_ (fun ⟨q,h1,h2⟩=>⟨q,Nat.zero_le _,h1,h2⟩)⟩
 obtain ⟨k,A6,rfl,HR,HN⟩:=hrel;have A0:=q_ (HW.o.trans (HR.o.mono HW.o.size));have A9:(W:Nat)<=wr:=HR.o.size;have A8:(w:Nat)<=wr:=A0.o.size;by_cases hlt:k<n
 ·have A3:(k:Int)<(n:Int):=by omega
  obtain ⟨t,P,np,cp,B,nb,cb,g,o,A2,hs,hP,hB,_⟩:=H.o.fn hlt;have HF:=q_ A2;obtain ⟨rfl,hg,k0,k1,k2⟩:=A2.up A0.o;clear A2 hP hB;have A1:(t.toList == s.toList)=true\/(t.toList == s.toList)=false:=by cases (t.toList == s.toList);exact .inr rfl;exact .inl rfl
  rcases A1 with A1 | A1
  ·go_wp2;go_ret;exact ⟨⟨_,rfl,.inr ⟨k,rfl,hlt⟩,q_ (fun _=>o_)⟩,(bel A0.o)⟩
  have HT:=q_ A1;go_wp2;go_roundw
  case rel =>
   refine ⟨k+1,o_,zc_,q_ (bel HR.o),q_ (fun hq=>?_)⟩;obtain ⟨q,h1,h2,h3⟩:=HN.o hq;refine ⟨q,?_,h2,h3⟩;rcases Nat.lt_or_ge k q with h4 | h4
   ·exact h4
   exfalso;obtain rfl:q=k:=by omega
   obtain ⟨g',o',e1,e2⟩:=h3;injection e1 with e1;injection e1 with e3 e4;subst e3 e4;rw [HF.o.k0] at e2;injection e2 with e2;injection e2 with e2;subst e2;have:=HT.o;simp at this
  case measure=>exact me_
 have A3:¬(k:Int)<(n:Int):=by omega
 go_wp2;go_ret;exact ⟨⟨_,rfl,.inl rfl,q_ (fun hq=>by obtain ⟨q,h1,h2,_⟩:=HN.o hq;omega)⟩,A0.o⟩
theorem stb_new {w:World} {kd:Int} {s f:ByteArray} {n op:Int} {A B C:OA} {m c m1 c1 m2 c2:Nat} {V:World} (B0:Bx V w [i_ kd,.string s,.string f,i_ n,i_ op,.slice A m c,.slice B m1 c1,.slice C m2 c2]):∀ w',Below V V w'->StB w' w kd s f n op A B C m c m1 c1 m2 c2:=fun w' hb =>
 ⟨(B0.below hb).2.1 0 _ rfl,(B0.below hb).2.1 1 _ rfl,(B0.below hb).2.1 2 _ rfl,(B0.below hb).2.1 3 _ rfl,(B0.below hb).2.1 4 _ rfl,(B0.below hb).2.1 5 _ rfl,(B0.below hb).2.1 6 _ rfl,(B0.below hb).2.1 7 _ rfl⟩
theorem stmts_step (X:NP) (d:Nat) (A:OA) (n c:Nat) (VA:OA) (nv cv Kv:Nat) (hKv:Kv<=900000000) (L:OA) (nl cl:Nat) (hnl:nl<=20) (w:World) (h:SlT w X 20 (dc_ d) A n c) (hv:SlT w nX Kv [.txt] VA nv cv)
  (hk:∀ k,k<nl->∃ (kd:Int) (s f:ByteArray) (nn op:Int) (E B C:OA) (m c' m1 c1 m2 c2 g o:Nat),StC w L k kd s f nn op E B C m c' m1 c1 m2 c2 g o/\SlP w X 20 pE (be_ dE) E m c' ∧
   ∀ w':World,Below w w w'->(Calls prog 162 #[.agg #[.slice A n c],.slice VA nv cv,.slice B m1 c1] w' fun e w''=>RI e/\Below w' w' w'')/\Calls prog 162 #[.agg #[.slice A n c],.slice VA nv cv,.slice C m2 c2] w' fun e w''=>RI e/\Below w' w' w'') :
  Calls prog 162 #[.agg #[.slice A n c],.slice VA nv cv,.slice L nl cl] w fun e w'=>RI e/\Below w w w':=by
 obtain ⟨W,hW,Aj,AB,B0⟩:=af_ w [.slice A n c] 136;have A5:=h_ (∀ w',Below W W w'->w'.cell? (a_ w)=some (.slice A n c)) (fun w' hb=>(B0.below hb).2.1 0 _ rfl);have HW:=q_ Aj;have H:=q_ h;have HV:=q_ hv;have HK:=q_ hk;have AL:=h.le;have AO:=hv.le;clear B0 Aj h hv hk;go_enter func162,ntmps162;go_upto_region 2 with fail;rw [<-hW];clear hW;go_loopw [18] (fun i wr=>∃ k:Nat,k<=nl/\i=i_ k/\Hid (Below W W wr)) (fun i _=>nl - (intOf i).toNat)
 case atStart=>exact ⟨0,o_,rfl,q_ (b_)⟩
 obtain ⟨k,AJ,rfl,HR⟩:=hrel;have A6:=q_ (HW.o.trans (HR.o.mono HW.o.size));have Ay:(w:Nat)<=wr:=A6.o.size;by_cases hlt:k<nl
 ·have Ab:(k:Int)<(nl:Int):=by omega
  obtain ⟨kd,s,f,nn,op,E,B,C,m,c',m1,c1,m2,c2,g,o,Am,hE,A2⟩:=HK.o k hlt;obtain ⟨rfl,hg,k0,k1,k2,k3,k4,k5,k6,k7⟩:=Am.up A6.o;obtain ⟨V,hV,A8,AA,B0⟩:=af_ wr [i_ kd,.string s,.string f,i_ nn,i_ op,.slice E m c',.slice B m1 c1,.slice C m2 c2] 212;have A0:=q_ (A6.o.trans (A8.mono Ay));have A3:=q_ (HR.o.trans (A8.mono HR.o.size));have KC:=q_ (stb_new B0);have HE:=q_ hE;have AK:=hE.sl.le;have Ad:=q_ A2;clear B0 A8 Am hE A2;go_upto_region 4 with fail;rw [<-hV];clear hV k0 k1 k2 k3 k4 k5 k6 k7;obtain ⟨x0,x1,x2,x3,x4,x5,x6,x7⟩:=KC.o V (b_);go_upto_region 5 with fail;clear x0 x1 x2 x3 x4 x5 x6 x7;go_loopw [25] (fun i wy=>∃ j:Nat,j<=m/\i=i_ j/\Hid (Below V V wy)) (fun i _=>m - (intOf i).toNat)
  case atStart=>exact ⟨0,o_,rfl,q_ (b_)⟩
  rename World=>wy
  obtain ⟨j,AI,rfl,HY⟩:=hrel;have A7:=q_ (A0.o.trans (HY.o.mono A0.o.size));have Ao:(w:Nat)<=wy:=A7.o.size;have Ax:(V:Nat)<=wy:=HY.o.size;by_cases hlj:j<m
  ·have A9:(j:Int)<(m:Int):=by omega
   obtain ⟨ge,oe,us,rfl,Al,AC,hu,Av,hc⟩:=HE.o.el hlj;obtain ⟨Ap,n',s',Aq,A',m',Af,rfl,_,_,_⟩:=Av;rw [ee_] at hc;have A1:∀ j,wy.cell? (f_ ge j)=w.cell? (f_ ge j):=fun j=>belc A7.o Al
   have AH:ge<wy:=lt_ Al Ao;have k0:wy.cell? ⟨ge,oe+j*5,none⟩=some (i_ Ap):=(A1 _).trans (hc 0 _ rfl);have k1:wy.cell? ⟨ge,oe+j*5+1,none⟩=some (i_ n'):=(A1 _).trans (hc 1 _ rfl);have k2:wy.cell? ⟨ge,oe+j*5+2,none⟩=some (.string s'):=(A1 _).trans (hc 2 _ rfl);have k3:wy.cell? ⟨ge,oe+j*5+3,none⟩=some (i_ Aq):=(A1 _).trans (hc 3 _ rfl);have k4:wy.cell? ⟨ge,oe+j*5+4,none⟩=some (.slice A' m' Af):=(A1 _).trans (hc 4 _ rfl);have HU:=q_ (hu.up (Kp.of_below (A7.o.alloc Ao (.cells #[i_ Ap,i_ n',.string s',i_ Aq,.slice A' m' Af] 209))) (l_));clear A1 hc hu;go_wp2_with fail;refine (Reads_any X dE _ _ d_ HU.o).mono ?_;rintro e W3 ⟨⟨RA,rn,rc,rfl,hR⟩,A4⟩;have H3:=h_ (Below V V W3) ((HY.o.alloc Ax _).trans (A4.mono za_));have AN:=hR.o.le;clear A4 k0 k1 k2 k3 k4;go_upto_region 8 with fail;go_loopw [32] (fun i wz=>∃ q:Nat,q<=rn/\i=i_ q/\Hid (Below W3 W3 wz)) (fun i _=>rn - (intOf i).toNat)
   case atStart=>exact ⟨0,o_,rfl,q_ (b_)⟩
   rename World=>wz
   obtain ⟨q,Aw,rfl,HZ⟩:=hrel;have Ae:=q_ (H3.o.trans (HZ.o.mono H3.o.size));have As:=q_ (A0.o.trans (Ae.o.mono A0.o.size));have AE:cr dE<=900000000:=by decide
   by_cases hlq:q<rn
   ·have Aa:(q:Int)<(rn:Int):=by omega
    obtain ⟨gr,Az,rfl,AG,AD,vs,An,hm⟩:=(hR.o.up (Kp.of_below HZ.o) (l_)).mt hlq;obtain ⟨u,hu,ht⟩:=An.2 0 .txt rfl;obtain ⟨t,rfl⟩:=ht.str;have y0:wz.cell? ⟨gr,Az+q,none⟩=some (.string t):=by have:=hm 0 _ hu;simpa using this
    clear An hm hu ht;go_wp2_with fail;refine (Has_any VA nv cv t nX Kv wz (HV.o.up (Kp.of_below As.o) (l_)) hKv).mono ?_;rintro e W4 ⟨⟨b,rfl⟩,Ag⟩;have H4:=q_ (HZ.o.trans (Ag.mono HZ.o.size));clear Ag y0;cases b
    case false =>
     go_wp2;go_ret;exact ⟨⟨_,rfl⟩,A0.o.trans ((H3.o.trans (H4.o.mono H3.o.size)).mono A0.o.size)⟩
    go_wp2;go_roundw
    case rel=>exact ⟨q+1,o_,zc_,H4⟩
    case measure=>exact me_
   have Aa:¬(q:Int)<(rn:Int):=by omega
   go_wp2;go_roundw
   case rel=>exact ⟨j+1,o_,zc_,Ae⟩
   case measure=>exact me_
  have A9:¬(j:Int)<(m:Int):=by omega
  obtain ⟨x0,x1,x2,x3,x4,x5,x6,x7⟩:=KC.o wy HY.o;have p0:=A5.o wy (A3.o.trans (HY.o.mono A3.o.size));go_upto_if 44 with fail;go_cut [] (fun wz=>Hid (Below V V wz))
  case first =>
   by_cases hkd:kd=3
   case neg =>
    go_wp2;go_meet;exact HY
   subst hkd;go_wp2_with fail;refine (Index_t X 20 d_ d A n c f wy (H.o.up (Kp.of_below A7.o) (l_))).mono ?_;rintro e W3 ⟨⟨r,rfl,hr,_⟩,A4⟩;have H3:=q_ (HY.o.trans (A4.mono HY.o.size));clear x0 x1 x2 x3 x4 x5 x6 x7 p0 A4;rcases hr with rfl | ⟨q,rfl,hq⟩
   ·exact td_
   obtain ⟨x0,x1,x2,x3,x4,x5,x6,x7⟩:=KC.o W3 H3.o;have p0:=A5.o W3 (A3.o.trans (H3.o.mono A3.o.size));obtain ⟨fs,P,np,cp,FB,nb,cb,gf,AP,Ak,_,hP,_,_⟩:=H.o.fn hq;obtain ⟨rfl,AF,f0,f1,f2⟩:=Ak.up (A0.o.trans (H3.o.mono A0.o.size));have Au:=hP.le;have AM:¬(q:Int)<0:=by omega
   have Aw:(q:Int)<(n:Int):=by omega
   have Ac:(np:Int)=(m:Int)\/(np:Int)≠(m:Int):=by omega
   clear Ak hP;go_upto_region 18 with fail;go_quiet (fail);rcases Ac with Ac | Ac
   ·go_wp2;all_goals first
     | (go_ret;exact ⟨⟨_,rfl⟩,A0.o.trans ((bel H3.o) |>.mono A0.o.size)⟩)
     | (go_meet;exact q_ (bel H3.o))
   go_wp2;all_goals first
    | (go_ret;exact ⟨⟨_,rfl⟩,A0.o.trans (Below.mono (B:=V) (bel H3.o) A0.o.size)⟩)
    | (go_meet;exact q_ (bel H3.o))
  rename World=>wz
  have HZ:=hcut;clear x0 x1 x2 x3 x4 x5 x6 x7 p0;obtain ⟨x0,x1,x2,x3,x4,x5,x6,x7⟩:=KC.o wz HZ.o;go_upto_region 20 with fail;go_cut [70] (fun v wq=>∃ b:Bool,v=.bool b/\Hid (Below V V wq))
  case first =>
   go_wp2_with (go_at_call 169;refine (ez_ _ _).mono ?_;rintro e w1 ⟨⟨b,rfl⟩,hb⟩;have Ar:=q_ (HZ.o.trans (hb.mono HZ.o.size)));all_goals
    go_meet;first
     | exact ⟨_,rfl,Ar⟩
     | exact ⟨_,rfl,HZ⟩
  rename World=>wq
  obtain ⟨b,rfl,HQ⟩:=hcut;clear x0 x1 x2 x3 x4 x5 x6 x7;obtain ⟨x0,x1,x2,x3,x4,x5,x6,x7⟩:=KC.o wq HQ.o;have p0:=A5.o wq (A3.o.trans (HQ.o.mono A3.o.size));cases b
  case true =>
   go_wp2;go_ret;exact ⟨⟨_,rfl⟩,A0.o.trans (HQ.o.mono A0.o.size)⟩
  case false =>
  go_wp2_with fail;refine (Ad.o wq (A0.o.trans (HQ.o.mono A0.o.size))).1.mono ?_;rintro e W5 ⟨⟨r1,rfl⟩,Ah⟩;have H5:=q_ (HQ.o.trans (Ah.mono HQ.o.size));clear x0 x1 x2 x3 x4 x5 x6 x7 p0 Ah;obtain ⟨x0,x1,x2,x3,x4,x5,x6,x7⟩:=KC.o W5 H5.o;have p0:=A5.o W5 (A3.o.trans (H5.o.mono A3.o.size));by_cases hr1:r1=0
  case neg =>
   go_wp2;go_ret;exact ⟨⟨_,rfl⟩,A0.o.trans (H5.o.mono A0.o.size)⟩
  case pos =>
  subst hr1;go_wp2_with fail;refine (Ad.o W5 (A0.o.trans (H5.o.mono A0.o.size))).2.mono ?_;rintro e W6 ⟨⟨r2,rfl⟩,Ai⟩;have H6:=q_ (H5.o.trans (Ai.mono H5.o.size));clear x0 x1 x2 x3 x4 x5 x6 x7 p0 Ai;by_cases hr2:r2=0
  case neg =>
   go_wp2;go_ret;exact ⟨⟨_,rfl⟩,A0.o.trans (H6.o.mono A0.o.size)⟩
  case pos =>
  subst hr2;go_wp2;go_roundw
  case rel=>exact ⟨k+1,o_,zc_,q_ (A3.o.trans (H6.o.mono A3.o.size))⟩
  case measure=>exact me_
 have Ab:¬(k:Int)<(nl:Int):=by omega
 go_wp2;go_ret;exact ⟨⟨_,rfl⟩,A6.o⟩
theorem stmts_t (X:NP) (d:Nat) (A:OA) (n c:Nat) (VA:OA) (nv cv Kv:Nat) (hKv:Kv<=900000000):∀ (dd:Nat) (L:OA) (nl cl:Nat) (w:World),SlT w X 20 (dc_ d) A n c->SlT w nX Kv [.txt] VA nv cv->SlP w X 20 pS (ag_ dd) L nl cl →
  Calls prog 162 #[.agg #[.slice A n c],.slice VA nv cv,.slice L nl cl] w fun e w'=>RI e/\Below w w w'
 | 0,L,nl,cl,w,h,hv,hl=>by
  refine stmts_step X d A n c VA nv cv Kv hKv L nl cl hl.sl.le w h hv (fun k hk=>?_);obtain ⟨kd,s,f,nn,op,E,B,C,m,c',m1,c1,m2,c2,g,o,h1,h2,h3,_,_,_,_,h0,_⟩:=hl.st hk;obtain ⟨rfl,rfl⟩:=h0 rfl;exact ⟨kd,s,f,nn,op,E,B,C,m,c',0,c1,0,c2,g,o,h1,h2,fun w' hb =>
   ⟨stmts_step X d A n c VA nv cv Kv hKv B 0 c1 o_ w' (h.up (Kp.of_below hb) (l_)) (hv.up (Kp.of_below hb) (l_)) (fun k hk=>o_),stmts_step X d A n c VA nv cv Kv hKv C 0 c2 o_ w' (h.up (Kp.of_below hb) (l_)) (hv.up (Kp.of_below hb) (l_)) (fun k hk=>o_)⟩⟩
 | dd+1,L,nl,cl,w,h,hv,hl=>by
  refine stmts_step X d A n c VA nv cv Kv hKv L nl cl hl.sl.le w h hv (fun k hk=>?_);obtain ⟨kd,s,f,nn,op,E,B,C,m,c',m1,c1,m2,c2,g,o,h1,h2,h3,_,_,_,_,_,hd⟩:=hl.st hk;exact ⟨kd,s,f,nn,op,E,B,C,m,c',m1,c1,m2,c2,g,o,h1,h2,fun w' hb =>
   ⟨stmts_t X d A n c VA nv cv Kv hKv dd B m1 c1 w' (h.up (Kp.of_below hb) (l_)) (hv.up (Kp.of_below hb) (l_)) ((hd dd rfl).1.below hb),stmts_t X d A n c VA nv cv Kv hKv dd C m2 c2 w' (h.up (Kp.of_below hb) (l_)) (hv.up (Kp.of_below hb) (l_)) ((hd dd rfl).2.below hb)⟩⟩
def RCk (e:Ending):Prop:=∃ a b:Int,e=.returned (.tuple #[i_ a,i_ b])
theorem SlT.txt_of {w:World} {X:NP} {K:Nat} {A:OA} {n c:Nat} (h:SlT w X K [.sat strP] A n c):SlT w X K [.txt] A n c :=
 ⟨h.le,h.cap,h.max,h.nul,fun ad hA=>by
  obtain ⟨g,o,e,hg,hX,f,hf,ht⟩:=h.at_ ad hA
  refine ⟨g,o,e,hg,hX,f,fun k j t hk hj=>?_,fun k j t hk hj=>?_⟩
  ·match j,hj with
   | 0,_=>exact hf k 0 _ hk rfl
  match j,hj with
  | 0,hj =>
   injection hj with hj
   subst hj
   have:=ht k 0 (.sat strP) hk rfl
   obtain ⟨s,hs,_⟩:strP (f k 0):=by generalize f k 0=v at this;cases this;assumption
   rw [hs];exact .txt s⟩
theorem Check07_t (X:NP) (d:Nat) (hd:d<=3) (A:OA) (n c:Nat) (w:World) (h:SlT w X 20 (dc_ d) A n c) :
  Calls prog 108 #[.agg #[.slice A n c]] w fun e w'=>RCk e/\Below w w w':=by
 obtain ⟨W,hW,Ag,An,B0⟩:=af_ w [.slice A n c] 136;have A5:=h_ (∀ w',Below W W w'->w'.cell? (a_ w)=some (.slice A n c)) (fun w' hb=>(B0.below hb).2.1 0 _ rfl);have HW:=q_ Ag;have H:=q_ h;have Ay:=h.le;have Ao:20+cw d<=900000000:=by
  match d,hd with
  | 0,_=>decide
  | 1,_=>decide
  | 2,_=>decide
  | 3,_=>decide
 obtain ⟨Ar,As,A4,_⟩:=ei_str.hi;have p0:=A5.o W (b_);clear B0 Ag h;go_enter func108,ntmps108;go_upto_region 1 with fail;rw [<-hW];clear hW;go_wp2_with fail;refine (Shaped_t X 20 d_ d A n c W (H.o.up (Kp.of_below HW.o) (l_))).mono ?_;rintro e W1 ⟨⟨r0,rfl⟩,Ad⟩;have H1:=q_ Ad;clear p0 Ad;by_cases hr0:r0=0
 case neg =>
  go_wp2;go_ret2;exact ⟨⟨_,_,rfl⟩,HW.o.trans (H1.o.mono HW.o.size)⟩
 case pos =>
 subst hr0;have p0:=A5.o W1 H1.o;go_upto_region 5 with fail;clear p0;go_loopw [19] (fun i wr=>∃ k:Nat,k<=n/\i=i_ k/\Hid (Below W W wr)) (fun i _=>n - (intOf i).toNat)
 case atStart=>exact ⟨0,o_,rfl,H1⟩
 obtain ⟨k,Ax,rfl,HR⟩:=hrel;have A6:=q_ (HW.o.trans (HR.o.mono HW.o.size));by_cases hlt:k<n
 ·have Ab:(k:Int)<(n:Int):=by omega
  obtain ⟨s,P,np,cp,B,nb,cb,g,o,Ah,hs,hP,hB,_⟩:=H.o.fn hlt;obtain ⟨rfl,hg,k0,k1,k2⟩:=Ah.up A6.o;obtain ⟨V,hV,A8,Am,B1⟩:=af_ wr [.string s,.slice P np cp,.slice B nb cb] 194;have A0:=q_ (A6.o.trans (A8.mono A6.o.size));have A2:=q_ (HR.o.trans (A8.mono HR.o.size));have KC:=h_ (∀ w',Below V V w'->(w'.cell? (a_ wr)=some (.string s)/\w'.cell? (f_ wr 1)=some (.slice P np cp)/\w'.cell? (f_ wr 2)=some (.slice B nb cb))) (fun w' hb=>⟨(B1.below hb).2.1 0 _ rfl,(B1.below hb).2.1 1 _ rfl,(B1.below hb).2.1 2 _ rfl⟩);have Ap:=hP.le;have Aq:=hP.cap;have HP:=q_ hP;have HB:=q_ hB;clear B1 A8 Ah hP hB Am An;go_upto_region 7 with fail;rw [<-hV];clear hV k0 k1 k2;obtain ⟨x0,x1,x2⟩:=KC.o V (b_);go_upto_region 8 with fail;clear x0 x1 x2;go_loopw [27] (fun i wy=>∃ j:Nat,j<=np/\i=i_ j/\Hid (Below V V wy)) (fun i _=>np - (intOf i).toNat)
  case atStart=>exact ⟨0,o_,rfl,q_ (b_)⟩
  rename World=>wy
  obtain ⟨j,Aw,rfl,HY⟩:=hrel;have A7:=q_ (A0.o.trans (HY.o.mono A0.o.size));obtain ⟨x0,x1,x2⟩:=KC.o wy HY.o;have p0:=A5.o wy (A2.o.trans (HY.o.mono A2.o.size));by_cases hlj:j<np
  ·have Aa:(j:Int)<(np:Int):=by omega
   obtain ⟨gp,op,rfl,Av,Au,us,hv,hm⟩:=(HP.o.up (Kp.of_below A7.o) (l_)).mt hlj;obtain ⟨u,hu,ht⟩:=hv.2 0 (.sat strP) rfl;obtain ⟨t,rfl,AB⟩:strP u:=by cases ht;assumption
   have y0:wy.cell? ⟨gp,op+j,none⟩=some (.string t):=by have:=hm 0 _ hu;simpa using this
   have AA:∀ w',(Instr.slice 188 (.slice (some (f_ gp op)) np cp) none (some (i_ j)) none).run prog w'=.ok (.slice (some (f_ gp op)) j cp) w':=fun w'=>slice_high underlying188 A4 o_ w'
   have Ak:=q_ ((HP.o.take (k:=j) o_ cp o_ (l_)).txt_of);clear hv hm hu ht;go_upto_region 10 with fail;go_cut [45] (fun v wz=>∃ b:Bool,v=.bool b/\Hid (Below V V wz))
   case first =>
    go_wp2_with fail;refine (Index_t X 20 d_ d _ n c s wy (H.o.up (Kp.of_below A7.o) (l_))).mono ?_;rintro e W3 ⟨⟨r,rfl,_,_⟩,A3⟩;have H3:=q_ (HY.o.trans (A3.mono HY.o.size));clear x0 x1 x2 p0 y0 A3;obtain ⟨x0,x1,x2⟩:=KC.o W3 H3.o;go_wp2_with (go_at_call 161;refine (Has_any _ _ _ _ X 20 W3 (Ak.o.up (Kp.of_below (A0.o.trans (H3.o.mono A0.o.size))) (l_)) d_).mono ?_;rintro e w1 ⟨⟨b,rfl⟩,hb⟩;have Aj:=q_ (H3.o.trans (hb.mono H3.o.size)));all_goals
     go_meet;first
      | exact ⟨_,rfl,Aj⟩
      | exact ⟨_,rfl,H3⟩
   rename World=>wz
   obtain ⟨b,rfl,HZ⟩:=hcut;clear x0 x1 x2 p0 y0;cases b
   case true =>
    go_wp2;go_ret2;exact ⟨⟨_,_,rfl⟩,A0.o.trans (HZ.o.mono A0.o.size)⟩
   go_wp2;go_roundw
   case rel=>exact ⟨j+1,o_,zc_,HZ⟩
   case measure=>exact me_
  have Aa:¬(j:Int)<(np:Int):=by omega
  go_wp2_with fail;refine (Index_t X 20 d_ d _ n c s wy (H.o.up (Kp.of_below A7.o) (l_))).mono ?_;rintro e W3 ⟨⟨r,rfl,_,_⟩,A3⟩;have H3:=q_ (HY.o.trans (A3.mono HY.o.size));clear x0 x1 x2 p0 A3;obtain ⟨x0,x1,x2⟩:=KC.o W3 H3.o;have Ac:r<(k:Int)\/¬r<(k:Int):=by omega
  rcases Ac with Ac | Ac
  ·go_wp2;go_ret2;exact ⟨⟨_,_,rfl⟩,A0.o.trans (H3.o.mono A0.o.size)⟩
  go_wp2_with fail;refine (Vars_t X 900000000 (l_) d s P np cp B nb cb W3 (HP.o.up (Kp.of_below (A0.o.trans (H3.o.mono A0.o.size))) (l_)) (HB.o.below (A0.o.trans (H3.o.mono A0.o.size))) Ao).mono ?_;rintro e W4 ⟨⟨VA,nv,cv,rfl,hR⟩,Ae⟩;have H4:=q_ (H3.o.trans (Ae.mono H3.o.size));have Al:=h_ (SlT W4 nX 900000000 [.txt] VA nv cv) (hR.o.less2 (fun _ _ h=>h.elim));have Az:=hR.o.le;clear x0 x1 x2 Ae hR;obtain ⟨x0,x1,x2⟩:=KC.o W4 H4.o;go_upto_region 16 with fail;go_cut [64] (fun v wz=>∃ b:Bool,v=.bool b/\Hid (wz=W4))
  case first =>
   have A9:((k:Int) == 0)=true\/((k:Int) == 0)=false:=by cases ((k:Int) == 0);exact .inr rfl;exact .inl rfl
   rcases A9 with A9 | A9
   all_goals
    go_wp2;all_goals
     go_meet;exact ⟨_,rfl,q_ rfl⟩
  rename World=>wz
  obtain ⟨b,rfl,Ai⟩:=hcut;have hw:=Ai.o;subst hw;clear Ai;cases b
  case true =>
   go_wp2;go_ret2;exact ⟨⟨_,_,rfl⟩,A0.o.trans (H4.o.mono A0.o.size)⟩
  case false =>
  have A1:(16:Int)<(nv:Int)\/¬(16:Int)<(nv:Int):=by omega
  rcases A1 with A1 | A1
  ·go_wp2;go_ret2;exact ⟨⟨_,_,rfl⟩,A0.o.trans (H4.o.mono A0.o.size)⟩
  have p0:=A5.o wz (A2.o.trans (H4.o.mono A2.o.size));go_wp2_with fail;refine (stmts_t X d _ n c VA nv cv 900000000 (l_) d B nb cb wz (H.o.up (Kp.of_below (A0.o.trans (H4.o.mono A0.o.size))) (l_)) Al.o (HB.o.below (A0.o.trans (H4.o.mono A0.o.size)))).mono ?_;rintro e W5 ⟨⟨r1,rfl⟩,Af⟩;have H5:=q_ (H4.o.trans (Af.mono H4.o.size));clear x0 x1 x2 p0 Af;by_cases hr1:r1=0
  case neg =>
   go_wp2;go_ret2;exact ⟨⟨_,_,rfl⟩,A0.o.trans (H5.o.mono A0.o.size)⟩
  case pos =>
  subst hr1;go_wp2;go_roundw
  case rel=>exact ⟨k+1,o_,zc_,q_ (A2.o.trans (H5.o.mono A2.o.size))⟩
  case measure=>exact me_
 have Ab:¬(k:Int)<(n:Int):=by omega
 go_wp2;go_ret2;exact ⟨⟨_,_,rfl⟩,A6.o⟩
section
variable {Q:Exit->Act->World->Prop} {X:XE} {Inv:World->Prop} {o:Oper} {a:Act} {w:World} {d b lp:Nat} {x y:Operand}
theorem rk_pointer (hC:IC d b lp X Inv) (ho:o.op=.call { callee:=.value (.func 205),args:=#[x],argTypes:=#[203] }) (hx:a.eval x=.pointer (some (a_ b))) (hI:Inv w):RnK prog Q X Inv (kEx X 2) o a w:=by
 have hf:a.eval (.func 205)=.func (.func 205) #[] #[]:=rfl;generalize hr:a.eval=r at hx hf;refine co_ (f:=205) (args:=#[.pointer (some (a_ b))]) y1_ ((pointer_ok d b lp X w (hC.ok w hI) hC.zx (hC.lt w hI)).mono ?_);exact uw_
theorem rk_callm (hC:IC d b lp X Inv) (ho:o.op=.call { callee:=.value (.func 206),args:=#[x,y],argTypes:=#[203,9] }) (hx:a.eval x=.pointer (some (a_ b))) (hy:(kStr X).p w (a.eval y)) (hI:Inv w):RnK prog Q X Inv (kSt X 0) o a w:=by
 obtain ⟨s,hy,hs⟩:=hy;have hf:a.eval (.func 206)=.func (.func 206) #[] #[]:=rfl;generalize hr:a.eval=r at hx hy hf;refine co_ (f:=206) (args:=#[.pointer (some (a_ b)),.string s]) yb_ ((call_ok d b lp X s w hs (hC.ok w hI) hC.zx (hC.lt w hI)).mono ?_);exact um_
end
def SimpleOK:Prop:=∀ (d b lp:Nat) (X:NP) (w:World),Mk d b lp w->(∀ q,Zm d b q->X q)->(∀ q,X q->q<w)->Calls prog 196 #[.pointer (some (a_ b))] w fun e w'=>RS X 0 e w'/\Md d b lp w w'
theorem simple_ok:SimpleOK:=by
 intro d b lp X w hM hz Ah;obtain ⟨W,hW,Ae,Al,B0⟩:=af_ w [i_ 0,.string ⟨#[]⟩,.string ⟨#[]⟩,i_ 0,i_ 0,.slice none 0 0,.slice none 0 0,.slice none 0 0] 212;have A9:=hM.below Ae;have A7:b<w:=hM.lt;obtain ⟨X1,Aa⟩:∃ X1:NP,X1=fun q=>X q\/q=w:=⟨_,rfl⟩
 obtain ⟨Z1,Ac⟩:∃ Z1:NP,Z1=fun q=>Zm d b q\/q=w:=⟨_,rfl⟩
 have A2:=h_ (X1 w/\Z1 w) (⟨by rw [Aa];exact .inr rfl,by rw [Ac];exact .inr rfl⟩);have Af:InvR d b lp X1 Z1 w w (ag_ (0)) pS W:=⟨A9,.of_below Ae,fun q hq=>by rw [Aa] at hq;rcases hq with hq | hq;(have:=Ah q hq;omega);omega,_,B0,eg_ (SlP.nil _ _ _ _ _),pS_st x_ x_ x_ d_ d_⟩;have hC:IC d b lp (x1 X1) (InvR d b lp X1 Z1 w w (ag_ (0)) pS):=InvR.ic (fun _ _ _ h=>h) (fun q hq=>by rw [Aa];exact .inl (hz q hq)) (fun q hq=>by rw [Ac];exact .inl hq) hM.nz;have HC:=q_ hC;have A5:=h_ (∀ w',Mk d b lp w'->Kp (Zm d b) W w'->InvR d b lp X1 Z1 w w (ag_ (0)) pS w') (fun w' h1 h2=>hC.up W w' Af h1 h2);have A1:=h_ (∀ (a:Act) (w2:World),InvR d b lp X1 Z1 w w (ag_ (0)) pS w2->a.defers=[]->a.tmps.getD 2 undef=.pointer (some (a_ w))->bodyPost prog f196 (fun e w'=>RS X (0) e w'/\Md d b lp w w') .ret a w2) (fun a w2 hI A0 ha=>by
  obtain ⟨cs,g1,g2,g3⟩:=hI.bx
  obtain ⟨kd,s,f,n,op,A,B,C,m,c,c1,c2,rfl,_⟩:=g2.stmt0
  refine retC results196 ha underlying212 rfl (cs:=stL kd s f n op A m c B 0 c1 C 0 c2) isz8 g1.whole A0 ⟨⟨_,_,_,_,_,_,_,_,_,_,_,_,_,_,rfl,q_ ⟨g2.less (fun q _ hq=>by rw [Aa];exact .inl hq),g3⟩⟩,hI.ok,hI.kp.mono (fun q hq Ai=>?_)⟩
  rw [Ac] at Ai
  rcases Ai with h | h
  ·exact h
  omega)
 have c0:=A9.c0;have Ad:=A9.lt;have HD:=q_ A9.dice;have Ak:=q_ A9;clear hM hz Ah B0 Ae Af hC Al Aa Ac;go_enter func196,ntmps196;go_upto_region 1 with fail;rw [<-hW];clear hW;go_cut [3] (fun v wx=>∃ s:ByteArray,v=.string s/\s.size<=100/\Hid (Mk d b lp wx)/\Hid (Kp (Zm d b) W wx))
 case first =>
  refine dr_ (X:=⟨Zm d b,fun _=>True⟩) (Inv:=fun w2=>Mk d b lp w2/\Kp (Zm d b) W w2) (ks:=fun i=>([(bu_ _ 5),(kV _ (pt b)),(kV _ (pt b)),(kV _ (pt b)),(kV _ (pt d)),(bu_ _ 5),(kV _ (i_ (5:Nat))),(kNat _ 5),(dj_ _),(kStr _),(kStr _)]:List (SK (x1 (Zm d b)))).getD i (kAny _)) rfl k_ ⟨Ak.o.below (Below.drew (b_)),Kp.of_below (Below.drew (b_))⟩ ?_ ?_
  ·have HC:=h_ (IC d b lp ⟨Zm d b,fun _=>True⟩ (fun w2=>Mk d b lp w2/\Kp (Zm d b) W w2)) (⟨fun _ h=>h.1,fun _ h=>h,fun _ h=>h.1.zlt,fun _ _ h h1 h2=>⟨h1,h.2.trans h2⟩,fun _ _ _ _ h=>h⟩);intro i o ho a w hI hout hin
   match i,ho with
   | 0,ho=>cases ho;exact rk_names HC.o rfl hI
   | 1,ho=>cases ho;exact M0_
   | 2,ho=>cases ho;exact cd_ rfl H1_ hI
   | 3,ho=>cases ho;exact cc_ d_ rfl H2_ hI
   | 4,ho=>cases ho;exact bl_ HC.o rfl H3_ hI
   | 5,ho=>cases ho;exact rk_names HC.o rfl hI
   | 6,ho=>cases ho;exact rk_len rfl (show (bu_ _ 5).p w _ from H5_) hI
   | 7,ho=>cases ho;exact br_ (n:=5) HC.o rfl H4_ H6_ d_ d_ hI
   | 8,ho=>cases ho;exact rk_idx (n:=5) rfl (show (bu_ _ 5).p w _ from H0_) (show (kNat _ 5).p w _ from H7_) hI
   | 9,ho=>cases ho;exact er_ rfl (show (dj_ _).p w _ from H8_) hI
   | 10,ho=>cases ho;exact bn_ (.inr rfl) (show (kStr _).p w _ from H9_) hI
   | q+11,ho=>exact n_ ho
  intro a w2 hI hsz A0 hout A4;obtain ⟨gs,Ag⟩:∃ gs:Nat->Value,∀ t,a.tmps.getD t undef=gs t:=⟨_,fun _=>rfl⟩;obtain ⟨s,hs,hz⟩:(kStr ⟨Zm d b,fun _=>True⟩).p w2 (gs 3):=by rw [<-Ag];exact A4 10 _ _ rfl rfl
  have ha:=do_ (D:=[4,5,6,7,8,9,10,11,12,13,3]) hsz A0 t_ hout Ag;simp only [List.foldl_cons,List.foldl_nil,Act.put,List.setIfInBounds_toArray,List.set_cons_zero,List.set_cons_succ] at ha;subst ha;go_wp2;go_meet;first | exact ⟨s,rfl,hz,q_ hI.1,q_ hI.2⟩ | exact ⟨s,hs,hz,q_ hI.1,q_ hI.2⟩
 case rest =>
 rename World=>w0
 obtain ⟨s,rfl,hs,A8,Aj⟩:=hcut;clear c0 Ad;have c0:=A8.o.c0;have Ad:=A8.o.lt;obtain ⟨fn,c3⟩:=A8.o.c3;go_upto_region 3 with (go_at_call 26;refine (bo_ d 13 w0 A8.o.dice d_ d_).mono ?_;rintro e w1 ⟨r,hr,rfl,ht,_⟩);have A3:=q_ (A8.o.thrown ht);have A6:=q_ (Aj.o.trans (ht.kp b));clear c0 Ad ht c3;obtain ⟨fn,c3⟩:=A3.o.c3;have Ad:=A3.o.lt;have Ab:r=0\/r=1\/r=2\/r=3\/r=4\/r=5\/r=6\/r=7\/r=8\/r=9\/(r=10/\fn<2)\/(r=10/\¬fn<2)\/r=11\/r=12:=by omega
 rcases Ab with rfl | rfl | rfl | rfl | rfl | rfl | rfl | rfl | rfl | rfl | ⟨rfl,hfn⟩ | ⟨rfl,hfn⟩ | rfl | rfl
 ·go_upto_region 5 with fail;refine bh_ (X:=(x1 X1)) (Inv:=(InvR d b lp X1 Z1 w w (ag_ (0)) pS)) (ks:=fun i=>([(kStr _),(kV _ (pt b)),(kEx _ 3),(kSt _ 0),(kAny _)]:List (SK (x1 X1))).getD i (kAny _)) k_ (A5.o _ A3.o A6.o) ?_ ?_
  ·intro i o ho a w hI hout hin
   match i,ho with
   | 0,ho=>cases ho;exact bn_ (.inl rfl) (show (kStr _).p w _ from ⟨s,hout 3 d_,hs⟩) hI
   | 1,ho=>cases ho;exact M0_
   | 2,ho=>cases ho;exact ck_ (k:=2) HC.o (cm_ 2 d_) rfl H1_ rfl hI
   | 3,ho=>cases ho;exact dn_ HC.o rfl (show (kStr _).p w _ from H0_) (bj_ (d':=dE) d_ (show (kEx _ 3).p w _ from H2_)) hI
   | 4,ho=>cases ho;exact bk_ (fun _ h=>h) A7 A2.o.1 A2.o.2 rfl (hout 2 d_) (show (kSt _ 0).p w _ from H3_) hI
   | q+5,ho=>exact n_ ho
  exact v1_
 ·go_upto_region 5 with fail;refine bh_ (X:=(x1 X1)) (Inv:=(InvR d b lp X1 Z1 w w (ag_ (0)) pS)) (ks:=fun i=>([(kStr _),(kV _ (pt b)),(kEx _ 3),(kSt _ 0),(kAny _)]:List (SK (x1 X1))).getD i (kAny _)) k_ (A5.o _ A3.o A6.o) ?_ ?_
  ·intro i o ho a w hI hout hin
   match i,ho with
   | 0,ho=>cases ho;exact bn_ (.inl rfl) (show (kStr _).p w _ from ⟨s,hout 3 d_,hs⟩) hI
   | 1,ho=>cases ho;exact M0_
   | 2,ho=>cases ho;exact ck_ (k:=2) HC.o (cm_ 2 d_) rfl H1_ rfl hI
   | 3,ho=>cases ho;exact dn_ HC.o rfl (show (kStr _).p w _ from H0_) (bj_ (d':=dE) d_ (show (kEx _ 3).p w _ from H2_)) hI
   | 4,ho=>cases ho;exact bk_ (fun _ h=>h) A7 A2.o.1 A2.o.2 rfl (hout 2 d_) (show (kSt _ 0).p w _ from H3_) hI
   | q+5,ho=>exact n_ ho
  exact v1_
 ·go_upto_region 7 with fail;refine dr_ (X:=(x1 X1)) (Inv:=(InvR d b lp X1 Z1 w w (ag_ (0)) pS)) (ks:=fun i=>([(bu_ _ 2),(kV _ (pt b)),(kV _ (pt b)),(kV _ (pt b)),(kV _ (pt d)),(kNat _ 2),(dj_ _),(kStr _),(kV _ (pt b)),(kV _ (pt b)),(kV _ (pt b)),(kV _ (pt d)),(kNat _ 2),(kInt _),(kEx _ 0),(kSt _ 0),(kAny _)]:List (SK (x1 X1))).getD i (kAny _)) rfl k_ (A5.o _ (A3.o.below (Below.drew (b_))) (A6.o.ba_ (Below.drew (b_)))) ?_ ?_
  ·intro i o ho a w hI hout hin
   match i,ho with
   | 0,ho=>cases ho;exact rk_bst2 HC.o rfl d_ d_ hI
   | 1,ho=>cases ho;exact M0_
   | 2,ho=>cases ho;exact cd_ rfl H1_ hI
   | 3,ho=>cases ho;exact cc_ d_ rfl H2_ hI
   | 4,ho=>cases ho;exact bl_ HC.o rfl H3_ hI
   | 5,ho=>cases ho;exact br_ (n:=2) HC.o rfl H4_ rfl d_ d_ hI
   | 6,ho=>cases ho;exact rk_idx (n:=2) rfl (show (bu_ _ 2).p w _ from H0_) (show (kNat _ 2).p w _ from H5_) hI
   | 7,ho=>cases ho;exact er_ rfl (show (dj_ _).p w _ from H6_) hI
   | 8,ho=>cases ho;exact M0_
   | 9,ho=>cases ho;exact cd_ rfl H8_ hI
   | 10,ho=>cases ho;exact cc_ d_ rfl H9_ hI
   | 11,ho=>cases ho;exact bl_ HC.o rfl H10_ hI
   | 12,ho=>cases ho;exact br_ (n:=2) HC.o rfl H11_ rfl d_ d_ hI
   | 13,ho=>cases ho;exact rk_add (.inl rfl) rfl ⟨_,rfl⟩ (cx_ (show (kNat _ 2).p w _ from H12_)) hI
   | 14,ho=>cases ho;exact rk_be1 rfl d_ (show (kInt _).p w _ from H13_) hI
   | 15,ho=>cases ho;exact dn_ HC.o rfl (show (kStr _).p w _ from H7_) (bj_ (d':=dE) d_ (show (kEx _ 0).p w _ from H14_)) hI
   | 16,ho=>cases ho;exact bk_ (fun _ h=>h) A7 A2.o.1 A2.o.2 rfl (hout 2 d_) (show (kSt _ 0).p w _ from H15_) hI
   | q+17,ho=>exact n_ ho
  exact v1_
 ·go_upto_region 10 with fail;refine bh_ (X:=(x1 X1)) (Inv:=(InvR d b lp X1 Z1 w w (ag_ (0)) pS)) (ks:=fun i=>([(kV _ (pt b)),(kV _ (pt b)),(kV _ (pt b)),(kV _ (pt d)),(kNat _ 3),(kV _ (pt b)),(kEx _ 2),(kV _ (pt b)),(kEx _ 2),(kExs _ dE 2),(kSt _ 0),(kAny _)]:List (SK (x1 X1))).getD i (kAny _)) k_ (A5.o _ A3.o A6.o) ?_ ?_
  ·intro i o ho a w hI hout hin
   match i,ho with
   | 0,ho=>cases ho;exact M0_
   | 1,ho=>cases ho;exact cd_ rfl H0_ hI
   | 2,ho=>cases ho;exact cc_ d_ rfl H1_ hI
   | 3,ho=>cases ho;exact bl_ HC.o rfl H2_ hI
   | 4,ho=>cases ho;exact br_ (n:=3) HC.o rfl H3_ rfl d_ d_ hI
   | 5,ho=>cases ho;exact M0_
   | 6,ho=>cases ho;exact rk_pointer HC.o rfl H5_ hI
   | 7,ho=>cases ho;exact M0_
   | 8,ho=>cases ho;exact ck_ (k:=1) HC.o (cm_ 1 d_) rfl H7_ rfl hI
   | 9,ho=>cases ho;exact rk_bse2 HC.o rfl (bj_ (d':=dE) d_ (show (kEx _ 2).p w _ from H6_)) (bj_ (d':=dE) d_ (show (kEx _ 2).p w _ from H8_)) hI
   | 10,ho=>cases ho;exact rk_bs_035 rfl rfl (cx_ (show (kNat _ 3).p w _ from H4_)) (show (kExs _ dE 2).p w _ from H9_) d_ d_ (fun h=>absurd h d_) hI
   | 11,ho=>cases ho;exact bk_ (fun _ h=>h) A7 A2.o.1 A2.o.2 rfl (hout 2 d_) (show (kSt _ 0).p w _ from H10_) hI
   | q+12,ho=>exact n_ ho
  exact v1_
 ·go_upto_region 10 with fail;refine bh_ (X:=(x1 X1)) (Inv:=(InvR d b lp X1 Z1 w w (ag_ (0)) pS)) (ks:=fun i=>([(kV _ (pt b)),(kV _ (pt b)),(kV _ (pt b)),(kV _ (pt d)),(kNat _ 3),(kV _ (pt b)),(kEx _ 2),(kV _ (pt b)),(kEx _ 2),(kExs _ dE 2),(kSt _ 0),(kAny _)]:List (SK (x1 X1))).getD i (kAny _)) k_ (A5.o _ A3.o A6.o) ?_ ?_
  ·intro i o ho a w hI hout hin
   match i,ho with
   | 0,ho=>cases ho;exact M0_
   | 1,ho=>cases ho;exact cd_ rfl H0_ hI
   | 2,ho=>cases ho;exact cc_ d_ rfl H1_ hI
   | 3,ho=>cases ho;exact bl_ HC.o rfl H2_ hI
   | 4,ho=>cases ho;exact br_ (n:=3) HC.o rfl H3_ rfl d_ d_ hI
   | 5,ho=>cases ho;exact M0_
   | 6,ho=>cases ho;exact rk_pointer HC.o rfl H5_ hI
   | 7,ho=>cases ho;exact M0_
   | 8,ho=>cases ho;exact ck_ (k:=1) HC.o (cm_ 1 d_) rfl H7_ rfl hI
   | 9,ho=>cases ho;exact rk_bse2 HC.o rfl (bj_ (d':=dE) d_ (show (kEx _ 2).p w _ from H6_)) (bj_ (d':=dE) d_ (show (kEx _ 2).p w _ from H8_)) hI
   | 10,ho=>cases ho;exact rk_bs_035 rfl rfl (cx_ (show (kNat _ 3).p w _ from H4_)) (show (kExs _ dE 2).p w _ from H9_) d_ d_ (fun h=>absurd h d_) hI
   | 11,ho=>cases ho;exact bk_ (fun _ h=>h) A7 A2.o.1 A2.o.2 rfl (hout 2 d_) (show (kSt _ 0).p w _ from H10_) hI
   | q+12,ho=>exact n_ ho
  exact v1_
 ·go_upto_region 13 with fail;refine dr_ (X:=(x1 X1)) (Inv:=(InvR d b lp X1 Z1 w w (ag_ (0)) pS)) (ks:=fun i=>([(bu_ _ 2),(kV _ (pt b)),(kV _ (pt b)),(kV _ (pt b)),(kV _ (pt d)),(kNat _ 2),(dj_ _),(kStr _),(kInts' _ 4),(kV _ (pt b)),(kV _ (pt b)),(kV _ (pt b)),(kV _ (pt d)),(kNat _ 4),(kPInt' _),(kInt _),(kV _ (pt b)),(kEx _ 2),(kExs _ dE 1),(kSt _ 0),(kAny _)]:List (SK (x1 X1))).getD i (kAny _)) rfl k_ (A5.o _ (A3.o.below (Below.drew (b_))) (A6.o.ba_ (Below.drew (b_)))) ?_ ?_
  ·intro i o ho a w hI hout hin
   match i,ho with
   | 0,ho=>cases ho;exact rk_bst2 HC.o rfl d_ d_ hI
   | 1,ho=>cases ho;exact M0_
   | 2,ho=>cases ho;exact cd_ rfl H1_ hI
   | 3,ho=>cases ho;exact cc_ d_ rfl H2_ hI
   | 4,ho=>cases ho;exact bl_ HC.o rfl H3_ hI
   | 5,ho=>cases ho;exact br_ (n:=2) HC.o rfl H4_ rfl d_ d_ hI
   | 6,ho=>cases ho;exact rk_idx (n:=2) rfl (show (bu_ _ 2).p w _ from H0_) (show (kNat _ 2).p w _ from H5_) hI
   | 7,ho=>cases ho;exact er_ rfl (show (dj_ _).p w _ from H6_) hI
   | 8,ho=>cases ho;exact rk_bsi4' HC.o rfl hI
   | 9,ho=>cases ho;exact M0_
   | 10,ho=>cases ho;exact cd_ rfl H9_ hI
   | 11,ho=>cases ho;exact cc_ d_ rfl H10_ hI
   | 12,ho=>cases ho;exact bl_ HC.o rfl H11_ hI
   | 13,ho=>cases ho;exact br_ (n:=4) HC.o rfl H12_ rfl d_ d_ hI
   | 14,ho=>cases ho;exact rk_idxi' (n:=4) rfl (show (kInts' _ 4).p w _ from H8_) (show (kNat _ 4).p w _ from H13_) hI
   | 15,ho=>cases ho;exact rk_lint' rfl (show (kPInt' _).p w _ from H14_) hI
   | 16,ho=>cases ho;exact M0_
   | 17,ho=>cases ho;exact ck_ (k:=1) HC.o (cm_ 1 d_) rfl H16_ rfl hI
   | 18,ho=>cases ho;exact du_ HC.o rfl (bj_ (d':=dE) d_ (show (kEx _ 2).p w _ from H17_)) hI
   | 19,ho=>cases ho;exact rk_bs_0145 rfl rfl (show (kStr _).p w _ from H7_) (show (kInt _).p w _ from H15_) (show (kExs _ dE 1).p w _ from H18_) d_ d_ (fun h=>absurd h d_) hI
   | 20,ho=>cases ho;exact bk_ (fun _ h=>h) A7 A2.o.1 A2.o.2 rfl (hout 2 d_) (show (kSt _ 0).p w _ from H19_) hI
   | q+21,ho=>exact n_ ho
  exact v1_
 ·go_upto_region 13 with fail;refine dr_ (X:=(x1 X1)) (Inv:=(InvR d b lp X1 Z1 w w (ag_ (0)) pS)) (ks:=fun i=>([(bu_ _ 2),(kV _ (pt b)),(kV _ (pt b)),(kV _ (pt b)),(kV _ (pt d)),(kNat _ 2),(dj_ _),(kStr _),(kInts' _ 4),(kV _ (pt b)),(kV _ (pt b)),(kV _ (pt b)),(kV _ (pt d)),(kNat _ 4),(kPInt' _),(kInt _),(kV _ (pt b)),(kEx _ 2),(kExs _ dE 1),(kSt _ 0),(kAny _)]:List (SK (x1 X1))).getD i (kAny _)) rfl k_ (A5.o _ (A3.o.below (Below.drew (b_))) (A6.o.ba_ (Below.drew (b_)))) ?_ ?_
  ·intro i o ho a w hI hout hin
   match i,ho with
   | 0,ho=>cases ho;exact rk_bst2 HC.o rfl d_ d_ hI
   | 1,ho=>cases ho;exact M0_
   | 2,ho=>cases ho;exact cd_ rfl H1_ hI
   | 3,ho=>cases ho;exact cc_ d_ rfl H2_ hI
   | 4,ho=>cases ho;exact bl_ HC.o rfl H3_ hI
   | 5,ho=>cases ho;exact br_ (n:=2) HC.o rfl H4_ rfl d_ d_ hI
   | 6,ho=>cases ho;exact rk_idx (n:=2) rfl (show (bu_ _ 2).p w _ from H0_) (show (kNat _ 2).p w _ from H5_) hI
   | 7,ho=>cases ho;exact er_ rfl (show (dj_ _).p w _ from H6_) hI
   | 8,ho=>cases ho;exact rk_bsi4' HC.o rfl hI
   | 9,ho=>cases ho;exact M0_
   | 10,ho=>cases ho;exact cd_ rfl H9_ hI
   | 11,ho=>cases ho;exact cc_ d_ rfl H10_ hI
   | 12,ho=>cases ho;exact bl_ HC.o rfl H11_ hI
   | 13,ho=>cases ho;exact br_ (n:=4) HC.o rfl H12_ rfl d_ d_ hI
   | 14,ho=>cases ho;exact rk_idxi' (n:=4) rfl (show (kInts' _ 4).p w _ from H8_) (show (kNat _ 4).p w _ from H13_) hI
   | 15,ho=>cases ho;exact rk_lint' rfl (show (kPInt' _).p w _ from H14_) hI
   | 16,ho=>cases ho;exact M0_
   | 17,ho=>cases ho;exact ck_ (k:=1) HC.o (cm_ 1 d_) rfl H16_ rfl hI
   | 18,ho=>cases ho;exact du_ HC.o rfl (bj_ (d':=dE) d_ (show (kEx _ 2).p w _ from H17_)) hI
   | 19,ho=>cases ho;exact rk_bs_0145 rfl rfl (show (kStr _).p w _ from H7_) (show (kInt _).p w _ from H15_) (show (kExs _ dE 1).p w _ from H18_) d_ d_ (fun h=>absurd h d_) hI
   | 20,ho=>cases ho;exact bk_ (fun _ h=>h) A7 A2.o.1 A2.o.2 rfl (hout 2 d_) (show (kSt _ 0).p w _ from H19_) hI
   | q+21,ho=>exact n_ ho
  exact v1_
 ·go_upto_region 15 with fail;refine bh_ (X:=(x1 X1)) (Inv:=(InvR d b lp X1 Z1 w w (ag_ (0)) pS)) (ks:=fun i=>([(kV _ (pt b)),(kEx _ 2),(kExs _ dE 1),(kSt _ 0),(kAny _)]:List (SK (x1 X1))).getD i (kAny _)) k_ (A5.o _ A3.o A6.o) ?_ ?_
  ·intro i o ho a w hI hout hin
   match i,ho with
   | 0,ho=>cases ho;exact M0_
   | 1,ho=>cases ho;exact ck_ (k:=1) HC.o (cm_ 1 d_) rfl H0_ rfl hI
   | 2,ho=>cases ho;exact du_ HC.o rfl (bj_ (d':=dE) d_ (show (kEx _ 2).p w _ from H1_)) hI
   | 3,ho=>cases ho;exact rk_bs_05 rfl rfl (show (kExs _ dE 1).p w _ from H2_) d_ d_ (fun h=>absurd h d_) hI
   | 4,ho=>cases ho;exact bk_ (fun _ h=>h) A7 A2.o.1 A2.o.2 rfl (hout 2 d_) (show (kSt _ 0).p w _ from H3_) hI
   | q+5,ho=>exact n_ ho
  exact v1_
 ·go_upto_region 17 with fail;refine bh_ (X:=(x1 X1)) (Inv:=(InvR d b lp X1 Z1 w w (ag_ (0)) pS)) (ks:=fun i=>([(kStr _),(kV _ (pt b)),(kEx _ 2),(kExs _ dE 1),(kSt _ 0),(kAny _)]:List (SK (x1 X1))).getD i (kAny _)) k_ (A5.o _ A3.o A6.o) ?_ ?_
  ·intro i o ho a w hI hout hin
   match i,ho with
   | 0,ho=>cases ho;exact bn_ (.inl rfl) (show (kStr _).p w _ from ⟨s,hout 3 d_,hs⟩) hI
   | 1,ho=>cases ho;exact M0_
   | 2,ho=>cases ho;exact ck_ (k:=1) HC.o (cm_ 1 d_) rfl H1_ rfl hI
   | 3,ho=>cases ho;exact du_ HC.o rfl (bj_ (d':=dE) d_ (show (kEx _ 2).p w _ from H2_)) hI
   | 4,ho=>cases ho;exact rk_bs_015 rfl rfl (show (kStr _).p w _ from H0_) (show (kExs _ dE 1).p w _ from H3_) d_ d_ (fun h=>absurd h d_) hI
   | 5,ho=>cases ho;exact bk_ (fun _ h=>h) A7 A2.o.1 A2.o.2 rfl (hout 2 d_) (show (kSt _ 0).p w _ from H4_) hI
   | q+6,ho=>exact n_ ho
  exact v1_
 ·go_upto_region 19 with fail;refine bh_ (X:=(x1 X1)) (Inv:=(InvR d b lp X1 Z1 w w (ag_ (0)) pS)) (ks:=fun i=>([(kEx _ 0),(kV _ (pt b)),(kEx _ 2),(kEx _ 3),(kSt _ 0),(kAny _)]:List (SK (x1 X1))).getD i (kAny _)) k_ (A5.o _ A3.o A6.o) ?_ ?_
  ·intro i o ho a w hI hout hin
   match i,ho with
   | 0,ho=>cases ho;exact eq_ HC.o rfl ⟨_,rfl,d_⟩ hI
   | 1,ho=>cases ho;exact M0_
   | 2,ho=>cases ho;exact ck_ (k:=1) HC.o (cm_ 1 d_) rfl H1_ rfl hI
   | 3,ho=>cases ho;exact rk_bin HC.o rfl ⟨_,rfl⟩ (bj_ (d':=2) d_ (show (kEx _ 0).p w _ from H0_)) (show (kEx _ 2).p w _ from H2_) hI
   | 4,ho=>cases ho;exact dn_ HC.o rfl ⟨_,rfl,d_⟩ (bj_ (d':=dE) d_ (show (kEx _ 3).p w _ from H3_)) hI
   | 5,ho=>cases ho;exact bk_ (fun _ h=>h) A7 A2.o.1 A2.o.2 rfl (hout 2 d_) (show (kSt _ 0).p w _ from H4_) hI
   | q+6,ho=>exact n_ ho
  exact v1_
 ·go_upto_region 22 with fail;refine bh_ (X:=(x1 X1)) (Inv:=(InvR d b lp X1 Z1 w w (ag_ (0)) pS)) (ks:=fun i=>([(kV _ (pt b)),(kStr _),(kSt _ 0),(kAny _)]:List (SK (x1 X1))).getD i (kAny _)) k_ (A5.o _ A3.o A6.o) ?_ ?_
  ·intro i o ho a w hI hout hin
   match i,ho with
   | 0,ho=>cases ho;exact M0_
   | 1,ho=>cases ho;exact bn_ (.inl rfl) (show (kStr _).p w _ from ⟨s,hout 3 d_,hs⟩) hI
   | 2,ho=>cases ho;exact rk_callm HC.o rfl H0_ (show (kStr _).p w _ from H1_) hI
   | 3,ho=>cases ho;exact bk_ (fun _ h=>h) A7 A2.o.1 A2.o.2 rfl (hout 2 d_) (show (kSt _ 0).p w _ from H2_) hI
   | q+4,ho=>exact n_ ho
  exact v1_
 ·go_upto_region 25 with fail;refine bh_ (X:=(x1 X1)) (Inv:=(InvR d b lp X1 Z1 w w (ag_ (0)) pS)) (ks:=fun i=>([(kStr _),(kV _ (pt b)),(kEx _ 2),(kSt _ 0),(kAny _)]:List (SK (x1 X1))).getD i (kAny _)) k_ (A5.o _ A3.o A6.o) ?_ ?_
  ·intro i o ho a w hI hout hin
   match i,ho with
   | 0,ho=>cases ho;exact bn_ (.inl rfl) (show (kStr _).p w _ from ⟨s,hout 3 d_,hs⟩) hI
   | 1,ho=>cases ho;exact M0_
   | 2,ho=>cases ho;exact rk_pointer HC.o rfl H1_ hI
   | 3,ho=>cases ho;exact dn_ HC.o rfl (show (kStr _).p w _ from H0_) (bj_ (d':=dE) d_ (show (kEx _ 2).p w _ from H2_)) hI
   | 4,ho=>cases ho;exact bk_ (fun _ h=>h) A7 A2.o.1 A2.o.2 rfl (hout 2 d_) (show (kSt _ 0).p w _ from H3_) hI
   | q+5,ho=>exact n_ ho
  exact v1_
 ·go_upto_region 24 with fail;refine dr_ (X:=(x1 X1)) (Inv:=(InvR d b lp X1 Z1 w w (ag_ (0)) pS)) (ks:=fun i=>([(kInts _ 2),(kV _ (pt b)),(kV _ (pt b)),(kV _ (pt b)),(kV _ (pt d)),(kNat _ 2),(kPInt _),(kKind _),(kV _ (pt b)),(kEx _ 2),(kExs _ dE 1),(kSt _ 0),(kAny _)]:List (SK (x1 X1))).getD i (kAny _)) rfl k_ (A5.o _ (A3.o.below (Below.drew (b_))) (A6.o.ba_ (Below.drew (b_)))) ?_ ?_
  ·intro i o ho a w hI hout hin
   match i,ho with
   | 0,ho=>cases ho;exact rk_bsi2 HC.o rfl d_ d_ hI
   | 1,ho=>cases ho;exact M0_
   | 2,ho=>cases ho;exact cd_ rfl H1_ hI
   | 3,ho=>cases ho;exact cc_ d_ rfl H2_ hI
   | 4,ho=>cases ho;exact bl_ HC.o rfl H3_ hI
   | 5,ho=>cases ho;exact br_ (n:=2) HC.o rfl H4_ rfl d_ d_ hI
   | 6,ho=>cases ho;exact rk_idxi (n:=2) rfl (show (kInts _ 2).p w _ from H0_) (show (kNat _ 2).p w _ from H5_) hI
   | 7,ho=>cases ho;exact rk_lint rfl (show (kPInt _).p w _ from H6_) hI
   | 8,ho=>cases ho;exact M0_
   | 9,ho=>cases ho;exact ck_ (k:=1) HC.o (cm_ 1 d_) rfl H8_ rfl hI
   | 10,ho=>cases ho;exact du_ HC.o rfl (bj_ (d':=dE) d_ (show (kEx _ 2).p w _ from H9_)) hI
   | 11,ho=>cases ho;obtain ⟨q,hq,Am,An,Ao⟩:=(show (kKind _).p w _ from H7_);exact rk_bs_05 rfl hq (show (kExs _ dE 1).p w _ from H10_) (fun h=>absurd h An) (fun h=>absurd h Ao) (fun h=>absurd h Am) hI
   | 12,ho=>cases ho;exact bk_ (fun _ h=>h) A7 A2.o.1 A2.o.2 rfl (hout 2 d_) (show (kSt _ 0).p w _ from H11_) hI
   | q+13,ho=>exact n_ ho
  exact v1_
 go_upto_region 25 with fail;refine bh_ (X:=(x1 X1)) (Inv:=(InvR d b lp X1 Z1 w w (ag_ (0)) pS)) (ks:=fun i=>([(kStr _),(kV _ (pt b)),(kEx _ 2),(kSt _ 0),(kAny _)]:List (SK (x1 X1))).getD i (kAny _)) k_ (A5.o _ A3.o A6.o) ?_ ?_
 ·intro i o ho a w hI hout hin
  match i,ho with
  | 0,ho=>cases ho;exact bn_ (.inl rfl) (show (kStr _).p w _ from ⟨s,hout 3 d_,hs⟩) hI
  | 1,ho=>cases ho;exact M0_
  | 2,ho=>cases ho;exact rk_pointer HC.o rfl H1_ hI
  | 3,ho=>cases ho;exact dn_ HC.o rfl (show (kStr _).p w _ from H0_) (bj_ (d':=dE) d_ (show (kEx _ 2).p w _ from H2_)) hI
  | 4,ho=>cases ho;exact bk_ (fun _ h=>h) A7 A2.o.1 A2.o.2 rfl (hout 2 d_) (show (kSt _ 0).p w _ from H3_) hI
  | q+5,ho=>exact n_ ho
 exact v1_
end Go.Proofs.YtfolidlmgfhkiaaGreat
