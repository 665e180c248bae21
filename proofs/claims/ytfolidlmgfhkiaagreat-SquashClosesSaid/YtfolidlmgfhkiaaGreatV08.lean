/- Lemmas on functions of the program, under the conditions that each states. -/
import Derived.Test.YtfolidlmgfhkiaaGreatV02
import Derived.Deep.RegionHeld2
set_option linter.unusedVariables false
set_option linter.unusedSimpArgs false
set_option maxRecDepth 100000
set_option maxHeartbeats 8000000
namespace Go.Proofs.YtfolidlmgfhkiaaGreat
open Go.RowKit Go.Proofs.Tryz
theorem gt_of {id:Int}:∀ {l:List PO} {k:Nat},k<=l.length->(∀ (i:Nat) (x:PO),i<k->l[i]?=some x->¬id<x.id)->(∀ x,l[k]?=some x->id<x.id)->gt id l=k
 | [],k,h,_,_=>by simp at h;subst h;rfl
 | y :: l,0,_,_,h=>by have:=h y rfl;simp [gt,this]
 | y :: l,k+1,h,h1,h2=>by
  have h0:=h1 0 y o_ rfl;have ih:=gt_of (id:=id) (l:=l) (k:=k) yp_ (fun i x hi hx=>h1 (i+1) x o_ (by simpa using hx)) (fun x hx=>h2 x (by simpa using hx));simp [gt,h0,ih]
theorem Sl.take {α:Type} {w:World} {B sz n k:Nat} {cells:α->VL} {A:OA} {l:List α} (h:Sl w B sz cells A n l) (hk:k<=n):Sl w B sz cells A k (l.take k):=by
 refine ⟨by rw [List.length_take,h.len];omega,fun h0=>?_⟩;obtain ⟨ab,ao,e,A1,A0⟩:=h.at_ o_;refine ⟨ab,ao,e,A1,fun i x hx=>?_⟩;rw [List.getElem?_take] at hx;split at hx
 ·exact A0 i x hx
 cases hx
def PutPos (id:Int) (L:List PO) (k:Nat):Prop:=(idx id L=none/\gt id L=k)\/idx id L=some k
theorem putO_pos {o:PO} {L:List PO} {k:Nat} (h:PutPos o.id L k) (hk:k<=L.length):putO o L=L.take k ++ [o] ++ L.drop (if idxI o.id L<0 then k else k+1):=by
 rcases h with ⟨h1,h2⟩ | h1
 ·rw [if_pos (by rw [idxI,h1];decide)];unfold putO;rw [h1,h2]
 have A0:k<L.length:=by
  rcases bm_ o.id L with ⟨h2,_⟩ | ⟨i,x,h2,hx,_,_⟩
  ·rw [h2] at h1;cases h1
  rw [h2] at h1;injection h1 with h1;subst h1;exact (e_ hx).1
 rw [if_neg (by rw [idxI,h1];simp)];unfold putO;rw [h1];simp only [List.set_eq_take_append_cons_drop,if_pos A0,List.append_assoc,List.cons_append,List.nil_append]
def Mid (wx:World) (r k:Nat) (o:Ob) (l:List Ob) (wz:World):Prop:=∃ (A6:OA) (c6:Nat) (A5:OA) (n5 c5:Nat) (w6:World),wz=w6.setCell (a_ r) (.slice A6 (k+1) c6)/\Below wx wx w6 ∧
 Hid (w6.ownsRow wx 90 2 (.slice A6 (k+1) c6) (k+1) ((l.take k ++ [(⟨o.id,A5,n5,c5,o.s⟩:Ob)]).flatMap Ob.cells))/\Hid (Sl w6 w6 2 Val.cells A5 n5 o.s)/\n5=o.s.length/\Hid (Form A5 n5 c5 w6) ∧
 Hid (∀ ad,A5=some ad->wx<=ad.block/\(Value.slice A6 (k+1) c6).ownBlock≠some ad.block)
theorem mid_intro {wx w4 Y w6:World} {k n5 c4 c5 c6 r:Nat} {A4 A5 A6:OA} {o:Ob} {l:List Ob} {u:Obj} (hb4:Below wx wx w4) (H4:w4.ownsRow wx 90 2 (.slice A4 (0+k) c4) (0+k) ([] ++ (l.take k).flatMap Ob.cells))
  (hbY:Below w4 w4 Y) (hown5:Y.ownsRow w4 38 2 (.slice A5 n5 c5) n5 (o.s.flatMap Val.cells)) (hn5:n5=o.s.length)
  (hown6:w6.ownsRow wx 90 2 (.slice A6 (0+k+1) c6) (0+k+1) (([] ++ (l.take k).flatMap Ob.cells) ++ Ob.cells ⟨o.id,A5,n5,c5,o.s⟩)) (hgr6:(Y.alloc u).grownBy w6 (Value.slice A4 (0+k) c4).ownBlock)
  (hor6:∀ g,(Value.slice A6 (0+k+1) c6).ownBlock=some g->(Value.slice A4 (0+k) c4).ownBlock=some g\/g=(Y.alloc u).heap.size) :
  Mid wx r k o l (w6.setCell (a_ r) (.slice A6 (k+1) c6)):=by
 have e:0+k=k:=Nat.zero_add k;have A1:Below Y Y (Y.alloc u):=(b_).alloc (l_) _;have A7:=hb4.size;have A9:=hbY.size;have A8:(Y.alloc u).heap.size=Y+1:=by simp
 have A3:Below wx wx (Y.alloc u):=(hb4.trans (hbY.mono A7)).trans (A1.mono o_);have A2:∀ ad,A5=some ad->w4<=ad.block/\ad.block<Y:=fun ad A0=>by subst A0;exact am_ hown5 (k:=ad.block) rfl
 refine ⟨A6,c6,A5,n5,c5,w6,rfl,A3.grown hgr6 o_ (fun g hg=>(am_ H4 hg).1),q_ ?_,q_ ?_,hn5,q_ ((form_own hown5).mono (by have:=hgr6.size;omega)),q_ fun ad A0=>?_⟩
 ·have h:=own_eq (congrArg (·+1) e) hown6
  simpa using h
 ·refine (((Sl.da_ Val.size hn5.symm hown5).up A1).apart (l_) hgr6 (fun _ ad A0 e=>?_)).mono hgr6.size;have h1:=A2 ad A0;have h2:=am_ H4 e.symm;omega
 have h1:=A2 ad A0;refine ⟨o_,fun e=>?_⟩;have h2:(Value.slice A6 (0+k+1) c6).ownBlock=some ad.block:=by cases A6 <;> exact e
 rcases hor6 _ h2 with h3 | h3
 ·have:=am_ H4 h3;omega
 omega
theorem put_done {X:NP} {K:Nat} {w wx wz w8:World} {n k k2 n5 c5 c6 c8:Nat} {A A5 A6 A8:OA} {l:List Ob} {o:Ob} {v:Value} (bwz:Below w w wz) (hwz:(wx:Nat)<=wz.drew) (hwx:(w:Nat)+3<wx) (hs:Hp w w A n l) (hobs:∀ o ∈ l,SlT w X K valT o.A o.n o.c) (hX:∀ k,X k->k<w) (hk:k<=n) (hkk:k<=k2) (hk2:k2<=n) (hnK:n<=K)
  (hsl:Sl wz wz 2 Val.cells A5 n5 o.s) (hform:Form A5 n5 c5 wz) (hoK:n5<=K) (hlo:∀ ad,A5=some ad->wx<=ad.block/\(Value.slice A6 (k+1) c6).ownBlock≠some ad.block)
  (hgo:∀ ad,(Value.slice A6 (k+1) c6).ownBlock=some ad->wx<=ad) (hown8:w8.ownsRow wx 90 2 (.slice A8 (k+1+(n - k2)) c8) (k+1+(n - k2)) ((l.take k ++ [(⟨o.id,A5,n5,c5,o.s⟩:Ob)]).flatMap Ob.cells ++ (l.drop k2).flatMap Ob.cells))
  (hgr8:wz.drew.grownBy w8 (Value.slice A6 (k+1) c6).ownBlock) :
  RH X (K+1) (.returned (.agg #[.slice A8 (k+1+(n - k2)) c8])) ((w8.setCell (a_ (w+3)) v).setCell (a_ (w+2)) (.slice A8 (k+1+(n - k2)) c8))/\Below w w ((w8.setCell (a_ (w+3)) v).setCell (a_ (w+2)) (.slice A8 (k+1+(n - k2)) c8)):=by
 have hl:=hs.sl.len;have A9:=hgr8.size;have Aa:(wz.drew:Nat)=wz:=rfl;have h8:w8.ownsRow wx 90 2 (.slice A8 (k+1+(n - k2)) c8) (k+1+(n - k2)) ((l.take k ++ [(⟨o.id,A5,n5,c5,o.s⟩:Ob)] ++ l.drop k2).flatMap Ob.cells):=by
  rw [List.flatMap_append];exact hown8
 have hne:∀ b,b<wx.heap.size->(Value.slice A8 (k+1+(n - k2)) c8).ownBlock≠some b:=fun b hb e=>by have:=(am_ h8 e).1;omega
 have hF:=cl_ (cl_ h8 (a:=(a_ (w+3))) v (hne _ hwx)) (a:=(a_ (w+2))) (.slice A8 (k+1+(n - k2)) c8) (hne _ (by show (w:Nat)+2<_;omega));have A3:Below w w wz.drew:=bwz.trans ((Below.drew (b_)).mono bwz.size);have A7:Below w w w8:=A3.grown hgr8 A3.size (fun g hg=>by have:=hgo g hg;omega);have A2:Below w w ((w8.setCell (a_ (w+3)) v).setCell (a_ (w+2)) (.slice A8 (k+1+(n - k2)) c8)):=(A7.setCell (by show _<=(w:Nat)+3;omega) _).setCell (by show _<=(w:Nat)+2;omega) _;have A1:(l.take k ++ [(⟨o.id,A5,n5,c5,o.s⟩:Ob)] ++ l.drop k2).length=k+1+(n - k2):=by simp [hl];omega
 refine ⟨⟨A8,_,c8,rfl,q_ (SlT.of_sl (e:=objT) (Sl.da_ Ob.size A1 hF) (form_own hF) (fun ad A0 hx=>?_) o_ (fun x hx=>vts_ob ?_))⟩,A2⟩
 ·have:=own_lo h8 (l_) ad A0;have:=hX _ hx;omega
 have A4:x ∈ l->SlT _ X (K+1) valT x.A x.n x.c:=fun hm=>(hobs x hm).up (Kp.of_below A2) o_
 simp only [List.mem_append,List.mem_singleton] at hx;rcases hx with (hx | rfl) | hx
 ·exact A4 (List.mem_of_mem_take hx)
 ·have hd:Sl wz.drew wz.drew 2 Val.cells A5 n5 o.s:=hsl.up (Below.drew (b_));have h1:=(hd.apart (l_) hgr8 (fun _ ad A0 e=>(hlo ad A0).2 e.symm)).mono A9;have h2:=((h1.set (p:=(a_ (w+3))) (fun ad A0=>by have:=(hlo ad A0).1;show ad.block≠w+3;omega) v).set (p:=(a_ (w+2))) (fun ad A0=>by have:=(hlo ad A0).1;show ad.block≠w+2;omega) (.slice A8 (k+1+(n - k2)) c8));refine SlT.of_vals h2 (hform.mono zp_) (fun ad A0 hx=>?_) (by show n5<=K+1;omega);have:=(hlo ad A0).1;have:=hX _ hx;omega
 exact A4 (List.mem_of_mem_drop hx)
theorem Put_t (X:NP) (K:Nat) (A:OA) (n c:Nat) (o:Ob) (w:World) (ht:SlT w X K objT A n c) (hto:SlT w X K valT o.A o.n o.c) (ho:Sl w w 2 Val.cells o.A o.n o.s) (hK:K<=4398046510976) (hX:∀ k,X k->k<w) :
  Calls prog 130 #[.agg #[.slice A n c],.agg #[i_ o.id,.slice o.A o.n o.c]] w fun e w'=>RH X (K+1) e w'/\Below w w w':=by
 obtain ⟨l,hs,Ao⟩:=ht.hp o_;have hn:n<=4398046510976:=Nat.le_trans ht.le hK;have hm:o.n<=8796093021952:=Nat.le_trans hto.le o_;have Bb:n<=c:=ht.cap;have AT:=q_ ht.le;have AX:=q_ hto.le;have Ax:=q_ Ao;have B0:=q_ hX;clear ht hto Ao hX;obtain ⟨i0,Ai,AD,Av,AE⟩:=info_parts CloneObj.infoE;have HL:=q_ hs.sl.len;have AY:=q_ ho.len;have HS:=q_ hs;obtain ⟨w2,A0⟩:=ex_ ((((w.alloc (.cells #[.slice A n c] 35)).alloc (.cells #[i_ o.id,.slice o.A o.n o.c] 90)).alloc (.cells #[.slice none 0 0] 35)).alloc (.cells #[.slice none 0 0] 35));have Ab:Below w w w2:=by rw [A0];exact (bel (b_))
 have Bj:(w:Nat)+4<=w2:=by rw [A0];simp
 have HA:=h_ (w2.cell? (a_ w)=some (.slice A n c)) (by rw [A0,al_ _ _ _ _ y_,al_ _ _ _ _ y_,al_ _ _ _ _ t_,ar_ _ _ _ _ _ rfl];rfl);have Aw:=h_ (w2.cell? (a_ (w+1))=some (i_ o.id)) xx_;have AR:=h_ (w2.cell? (f_ (w+1) 1)=some (.slice o.A o.n o.c)) xx_;have HD:=h_ (w2.cell? (a_ (w+2))=some (.slice none 0 0)) (by rw [A0,al_ _ _ _ _ t_,ar_ _ _ _ _ _ t_];rfl);have HF:=h_ (w2.frozen? (a_ (w+2))=false) (by rw [A0,et_ _ _ _ _ t_,bu_ _ _ _ _ _ t_]);have HE:=h_ (w2.cell? (a_ (w+3))=some (.slice none 0 0)) yn_;have HG:=h_ (w2.frozen? (a_ (w+3))=false) (by rw [A0,bu_ _ _ _ _ _ t_]);have AH:=q_ (hs.up Ab);have AV:=q_ (ho.up Ab);clear hs ho;go_enter func130,ntmps130;go_wp2_with fail;rw [<-A0];have HW:=q_ A0;clear A0;refine (refat_any A n c l o.id w2 AH.o.sl o_).mono ?_;rintro e w3 ⟨rfl,Ag⟩;have Bk:=Ag.size;have e0:w3.cell? (a_ w)=some (.slice A n c):=(belc Ag o_).trans HA.o;have e1:w3.cell? (a_ (w+1))=some (i_ o.id):=(belc Ag o_).trans Aw.o;have Bi:Below w w w3:=Ab.trans (Ag.mono Ab.size);have S3:=q_ (HS.o.sl);go_upto_if 14 with fail;go_cut [6,7] (fun s6 s7 wx=>∃ k:Nat,k<=n/\s6=i_ (idxI o.id (l.map Ob.po))/\s7=i_ k/\Hid (PutPos o.id (l.map Ob.po) k)/\Below w2 w2 wx)
 case first =>
  rcases bm_ o.id (l.map Ob.po) with ⟨hi,Aj⟩ | ⟨i,x,hi,hx,hxid,hfst⟩
  ·have HI:=h_ (idxI o.id (l.map Ob.po)=-1) yy_;have AG:=q_ hi;have AU:=q_ Aj;clear hi Aj;rw [HI.o];go_wp2_with fail;clear e0 e1;go_loopw [7] (fun s wr=>∃ j:Nat,j<=n/\s=i_ j/\Hid (∀ (i:Nat) (x:Ob),i<j->l[i]?=some x->¬o.id<x.id)/\Below w2 w2 wr) (fun s _=>n - (intOf s).toNat)
   case atStart=>exact ⟨0,Nat.zero_le _,rfl,q_ (fun i x h=>absurd h o_),Ag⟩
   obtain ⟨j,hj,rfl,Aj,Af⟩:=hrel;have Bn:=Af.size;have B2:Below w w wr:=Ab.trans (Af.mono Ab.size);have e0:wr.cell? (a_ w)=some (.slice A n c):=(belc Af o_).trans HA.o;have e1:wr.cell? (a_ (w+1))=some (i_ o.id):=(belc Af o_).trans Aw.o;by_cases hlt:j<n
   ·obtain ⟨x,hx⟩:∃ x,l[j]?=some x:=⟨_,ge_ z8_⟩;obtain ⟨ab,ao,B5,B9,AN⟩:=S3.o.at_ o_;subst B5;have c0:wr.cell? ⟨ab,ao+j*2,none⟩=some (i_ x.id):=(belc B2 B9).trans (AN j x hx 0 _ rfl);have Ba:(j:Int)<(n:Int):=by omega
    have HX:=q_ hx;clear AN hx;by_cases hid:x.id<o.id
    ·go_wp2;go_quiet (fail);go_wp2;go_roundw
     case rel=>exact ⟨j+1,o_,zb_,q_ (fun i y hi hy=>by
      by_cases hij:i=j
      ·subst hij;rw [HX.o] at hy;injection hy with hy;subst hy;omega
      exact Aj.o i y o_ hy),below_drewN ((bel Af)) _⟩
     case measure=>exact me_
    have HP:=h_ (PutPos o.id (l.map Ob.po) j) (.inl ⟨AG.o,gt_of (by rw [List.length_map,HL.o];exact hj) (fun i y hi hy=>by obtain ⟨z,hz,rfl⟩:=po_at' hy;exact Aj.o i z hi hz) (fun y hy=>by
     obtain ⟨z,hz,rfl⟩:=po_at' hy
     rw [HX.o] at hz;injection hz with hz;subst hz
     have h1:x.po.id≠o.id:=AU.o j x.po (po_at HX.o)
     have h2:x.po.id=x.id:=rfl
     omega)⟩)
    go_wp2;go_quiet (fail);go_wp2;go_meet;exact ⟨j,hj,by rw [HI.o],rfl,HP,below_drewN ((bel Af)) _⟩
   obtain rfl:j=n:=by omega
   have HP:=h_ (PutPos o.id (l.map Ob.po) j) (.inl ⟨AG.o,gt_of (by rw [List.length_map,HL.o];exact l_) (fun i y hi hy=>by obtain ⟨z,hz,rfl⟩:=po_at' hy;exact Aj.o i z hi hz) (fun y hy=>by
     obtain ⟨z,hz,rfl⟩:=po_at' hy
     have:=(e_ hz).1;have:=HL.o;omega)⟩)
   go_wp2;go_quiet (fail);go_wp2;go_meet;exact ⟨j,l_,by rw [HI.o],rfl,HP,below_drewN ((bel Af)) _⟩
  have HI:=h_ (idxI o.id (l.map Ob.po)=i) yy_;have Ai:¬(i:Int)<0:=by omega
  have HP:=h_ (PutPos o.id (l.map Ob.po) i) (.inr hi);have hin:i<=n:=by have:=(e_ hx).1;rw [List.length_map,HL.o] at this;omega
  clear hi hx hxid hfst;rw [HI.o];go_wp2;go_meet;exact ⟨i,hin,by rw [HI.o],rfl,HP,Ag⟩
 obtain ⟨k,hk,rfl,rfl,As,A1⟩:=hcut
 rename World=>wx
 clear e0 e1;have Bo:=A1.size;have AK:Below w w wx:=Ab.trans (A1.mono Ab.size);have B7:k<=c:=by omega
 have Bd:∀ w',(Instr.slice 33 (.slice A n c) none (some (i_ (k:Int))) none).run prog w'=.ok (.slice A k c) w':=slice_high underlying33 Ai B7;have x0:wx.cell? (a_ w)=some (.slice A n c):=(belc A1 o_).trans HA.o;have x1:wx.cell? (a_ (w+1))=some (i_ o.id):=(belc A1 o_).trans Aw.o;have x2:wx.cell? (f_ (w+1) 1)=some (.slice o.A o.n o.c):=(belc A1 o_).trans AR.o;have x5:wx.cell? (a_ (w+3))=some (.slice none 0 0):=(belc A1 o_).trans HE.o;have f5:wx.frozen? (a_ (w+3))=false:=(belf A1 o_).trans HG.o;have l0:(w:Nat)<wx:=by omega
 have l1:(w:Nat)+1<wx:=by omega
 have l3:(w:Nat)+3<wx:=by omega
 have AI:=q_ (((AH.o.sl.take hk).up (A1.trans (Below.drew (b_))):Sl wx.drew wx.drew 2 Ob.cells A k (l.take k)).src Ob.size);have AW:=q_ (AV.o.up A1);go_wp2_with fail;go_cut [34] (fun _ wz=>Mid wx (w+3) k o l wz)
 case first =>
  go_region_law (first
    | (refine dn_ rfl (.tmp 34) (.tmp 38) 33 rfl wx 90 i0 _ 2 32 underlying33 Ai AD Av AE rfl d_ (.slice none 0 0) 0 [] v_ (World.ownsRow_nil _ _ _ _) A k c ((l.take k).flatMap Ob.cells) v_ AI.o.1 (by rw [cj_ Ob.size,List.length_take,HL.o,Nat.min_eq_left hk]) AI.o.2 (ob_one _) m_ o_ (l_) ?_;intro A4 c4 w4 Ad Ak B4;have A9:Below wx wx w4:=(Below.drew (b_)).grown Ak (l_) (fun k hk=>by cases hk);have p0:=(belc A9 l0).trans x0;have p1:=(belc A9 l1).trans x1;have p2:=(belc A9 l1).trans x2;have p5:=(belc A9 l3).trans x5;have g5:=(belf A9 l3).trans f5;have Bf:=A9.size;have O4:=q_ (AW.o.up A9);have H4:=q_ Ad;clear Ad Ak B4)
    | (go_simp;go_at_call 179;refine (object_any o w4 O4.o hm).mono ?_;rintro e Y ⟨A5,n5,c5,rfl,Ap,AB,Aa⟩;rw [show o.po.id=o.id from rfl];have Bm:=Aa.size;have r0:=(belc Aa o_).trans p0;have r1:=(belc Aa o_).trans p1;have r2:=(belc Aa o_).trans p2;have r5:=(belc Aa o_).trans p5;have k5:=(belf Aa o_).trans g5;have AS:=q_ AB;clear AB;have AM:Below Y Y (Y.alloc (.cells #[.int .i64 o.id,.slice A5 n5 c5] 90)):=(b_).alloc (l_) _;have Au:(Y.alloc (.cells #[.int .i64 o.id,.slice A5 n5 c5] 90)).heap.size=Y+1:=t_;have AQ:=q_ (own_below (own_below H4.o Aa) AM))
    | (refine dn_ rfl (.tmp 39) (.tmp 42) 33 rfl wx 90 i0 _ 2 32 underlying33 Ai AD Av AE rfl d_ (.slice A4 (0+k) c4) (0+k) ([] ++ (l.take k).flatMap Ob.cells) v_ AQ.o (some (a_ Y)) 1 1 (Ob.cells ⟨o.id,A5,n5,c5,o.s⟩) v_ w3_ rfl (fun ad h j' u hu=>by injection h with h;subst h;rw [Addr.add_lit,ar_ _ _ _ _ _ rfl,Nat.zero_add,<-Array.getElem?_toList];exact hu) (by simp [Ob.cells,Value.oneCell']) m_ o_ (by rw [Au];omega) ?_;intro A6 c6 w6 Aq Al AC;have A3:Below wx wx w6:=((A9.trans (Aa.mono Bf)).trans (AM.mono o_)).grown Al (by rw [Au];omega) (fun g hg=>(am_ H4.o hg).1);have t5:=(belc A3 l3).trans x5;have s5:=(belf A3 l3).trans f5))
  all_goals
   go_wp2;go_meet;exact mid_intro A9 H4.o Aa Ap.o AS.o Aq Al AC
 rename World=>wz
 obtain ⟨A6,c6,A5,n5,c5,w6,A7,A3,Ae,AF,AB,Az,An⟩:=hcut;have Bl:=A3.size;have Ah:∀ ad,(Value.slice A6 (k+1) c6).ownBlock=some ad->wx<=ad:=fun ad h=>(am_ Ae.o h).1
 have B3:(Value.slice A6 (k+1) c6).ownBlock≠some (w.heap.size+3):=fun h=>by have:=Ah _ h;omega
 have AO:w6.grownBy wz (some (w+3)):=by rw [A7];exact dt_ w6 (a_ (w+3)) _
 have AP:(w6:Nat)<=wz:=AO.size;have y5:w6.cell? (a_ (w+3))=some (.slice none 0 0):=(belc A3 l3).trans x5;have z5:wz.cell? (a_ (w+3))=some (.slice A6 (k+1) c6):=by rw [A7];exact World.cell?_setCell_same _ _ _ y5
 have g5:wz.frozen? (a_ (w+3))=false:=by rw [A7,World.frozen?_setCell];exact (belf A3 l3).trans f5
 have z0:wz.cell? (a_ w)=some (.slice A n c):=by rw [A7,bh_ _ _ _ _ zm_];exact (belc A3 l0).trans x0
 have z4:wz.cell? (a_ (w+2))=some (.slice none 0 0):=by rw [A7,bh_ _ _ _ _ zm_];exact (belc A3 o_).trans ((belc A1 o_).trans HD.o)
 have g4:wz.frozen? (a_ (w+2))=false:=by rw [A7,World.frozen?_setCell];exact (belf A3 o_).trans ((belf A1 o_).trans HF.o)
 have Ay:=h_ (wz.ownsRow wx 90 2 (.slice A6 (k+1) c6) (k+1) _) (by rw [A7];exact cl_ Ae.o _ B3);have B1:=h_ (Sl wz wz 2 Val.cells A5 n5 o.s) ((AF.o.apart (l_) AO (fun _ ad B6 e=>by have:=(An.o ad B6).1;injection e with e;omega)).mono AP);have AL:Below w w wz:=by rw [A7];exact (AK.trans (A3.mono AK.size)).setCell (by show _<=(w:Nat)+3;omega) _
 have Bp:(w:Nat)<wz:=by omega
 have Bq:(w:Nat)+2<wz:=by omega
 have Br:(w:Nat)+3<wz:=by omega
 have B8:k<=l.length:=by rw [HL.o];exact hk
 obtain ⟨k2,Ac⟩:∃ k2:Nat,k2=if idxI o.id (l.map Ob.po)<0 then k else k+1:=⟨_,rfl⟩
 have Am:k2<=n:=by
  rw [Ac];split
  ·exact hk
  rename_i hneg
  rcases As.o with ⟨h1,_⟩ | h1
  ·exact absurd (show idxI o.id (l.map Ob.po)<0 by rw [idxI,h1];decide) hneg
  rcases bm_ o.id (l.map Ob.po) with ⟨h2,_⟩ | ⟨i,x,h2,hx,_,_⟩
  ·rw [h2] at h1;cases h1
  rw [h2] at h1;injection h1 with h1;subst h1;have:=(e_ hx).1;rw [List.length_map,HL.o] at this;omega
 have AA:k<=k2:=by rw [Ac];split <;> omega
 have Bh:=h_ (putO o.po (l.map Ob.po)=(l.map Ob.po).take k ++ [o.po] ++ (l.map Ob.po).drop k2) (by rw [Ac];exact putO_pos As.o (by rw [List.length_map];exact B8));have Bg:=q_ A7;clear A7 Bd x0 x1 x2 x5 f5 y5;go_upto_if 46 with fail;go_cut [7] (fun s wq=>s=i_ (k2:Int)/\wq=wz)
 case first =>
  by_cases hneg:idxI o.id (l.map Ob.po)<0
  ·rw [if_pos hneg] at Ac;go_wp2;go_meet;exact ⟨by rw [Ac],rfl⟩
  rw [if_neg hneg] at Ac;go_wp2;go_meet;refine ⟨?_,rfl⟩;rw [Ac];go_num
 obtain ⟨rfl,rfl⟩:=hcut
 rename World=>wz
 have Be:∀ w',(Instr.slice 33 (.slice A n c) (some (i_ (k2:Int))) none none).run prog w'=.ok (.slice (cutA A c k2 2) (n - k2) (c - k2)) w':=fun w'=>by rw [es_ underlying33 Ai Am,Av]
 have AJ:=q_ ((Sl.src_low (k:=k2) (HS.o.sl.up (AL.trans (Below.drew (b_))):Sl wz.drew wz.drew 2 Ob.cells A n l) Ob.size Bb:(cutA A c k2 2=none->n - k2=0)/\∀ ad,cutA A c k2 2=some ad->∀ (j:Nat) (u:Value),((l.drop k2).flatMap Ob.cells)[j]?=some u->wz.drew.cell? (ad.add j)=some u));have AZ:=q_ (own_below Ay.o (Below.drew (Below.refl wz wz)));clear Ac;go_wp2_with fail;go_region_law (first
  | (refine dn_ rfl (.tmp 50) (.tmp 54) 33 rfl wx 90 i0 _ 2 32 underlying33 Ai AD Av AE rfl d_ (.slice A6 (k+1) c6) (k+1) ((l.take k ++ [(⟨o.id,A5,n5,c5,o.s⟩:Ob)]).flatMap Ob.cells) v_ AZ.o (cutA A c k2 2) (n - k2) (c - k2) ((l.drop k2).flatMap Ob.cells) v_ AJ.o.1 (by rw [cj_ Ob.size,List.length_drop,HL.o]) AJ.o.2 (ob_one _) m_ o_ (by show (wx:Nat)<=wz;omega) ?_;intro A8 c8 w8 Ar A2 Bc;have t5:=((gcell A2).1 (w+3) 0 wb_ (fun e=>by have:=Ah _ e.symm;omega)).trans z5;have s5:=((gcell A2).2 (w+3) 0 wb_ (fun e=>by have:=Ah _ e.symm;omega)).trans g5;have t4:=((gcell A2).1 (w+2) 0 wb_ (fun e=>by have:=Ah _ e.symm;omega)).trans z4;have s4:=((gcell A2).2 (w+2) 0 wb_ (fun e=>by have:=Ah _ e.symm;omega)).trans g4))
 all_goals
  go_wp2;refine bodyPost_ret (v:=.agg #[.slice A8 (k+1+(n - k2)) c8]) (by simp [results,results130,go_sem,t4,t5]) rfl ?_;exact put_done AL (show (wx:Nat)<=wz.drew from by show _<=(wz:Nat);omega) o_ HS.o Ax.o B0.o hk AA Am AT.o B1.o (Az.o.mono AP) (by have h1:=AX.o;have h2:=AY.o;omega) An.o Ah Ar A2
end Go.Proofs.YtfolidlmgfhkiaaGreat
