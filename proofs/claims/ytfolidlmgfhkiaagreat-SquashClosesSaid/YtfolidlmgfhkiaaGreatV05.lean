/- Lemmas on functions of the program, under the conditions that each states. -/
import Derived.Test.YtfolidlmgfhkiaaGreatV04
set_option linter.unusedVariables false
set_option linter.unusedSimpArgs false
set_option maxRecDepth 100000
set_option maxHeartbeats 4000000
namespace Go.Proofs.YtfolidlmgfhkiaaGreat.Sq
open Go.RowKit Go.Proofs.Tryz
structure Ou (w:World) (base p:Nat) (v:Value) (l:List Int):Prop where
 cell:w.cell? (a_ p)=some v
 fr:w.frozen? (a_ p)=false
 own:w.ownsRow base 3 1 v l.length (l.flatMap intCells)
 ne:v.ownBlock≠some p
 lt:p<w
 bp:base<=p
theorem Ou.below {w w':World} {base p:Nat} {v:Value} {l:List Int} (h:Ou w base p v l) (hb:Below w w w'):Ou w' base p v l :=
 ⟨(belc hb h.lt).trans h.cell,(belf hb h.lt).trans h.fr,own_below h.own hb,h.ne,lt_ h.lt hb.size,h.bp⟩
theorem Ou.next {w W w1:World} {base p:Nat} {v:Value} {l:List Int} (h:Ou w base p v l) (hW:Below w w W) (x:Int) {A':OA} {c':Nat}
  (ho:w1.ownsRow base 3 1 (.slice A' (l.length+1) c') (l.length+1) (l.flatMap intCells ++ intCells x)) (hg:W.grownBy w1 v.ownBlock) (hf:∀ g,(Value.slice A' (l.length+1) c').ownBlock=some g->v.ownBlock=some g\/g=W) :
  Ou (w1.setCell (a_ p) (.slice A' (l.length+1) c')) base p (.slice A' (l.length+1) c') (l ++ [x])/\w1.cell? (a_ p)=some v/\w1.frozen? (a_ p)=false/\Below base w (w1.setCell (a_ p) (.slice A' (l.length+1) c')):=by
 have hz:=hW.size;have A3:=hg.size;have A1:=h.lt;have A0:=h.bp;have hne:some p≠v.ownBlock:=fun e=>h.ne e.symm
 have c1:w1.cell? (a_ p)=some v:=((gcell hg).1 p 0 o_ hne).trans ((belc hW A1).trans h.cell);have f1:w1.frozen? (a_ p)=false:=((gcell hg).2 p 0 o_ hne).trans ((belf hW A1).trans h.fr);have A2:(Value.slice A' (l.length+1) c').ownBlock≠some p:=fun e=>by
  rcases hf p e with h1 | h1
  ·exact h.ne h1
  omega
 refine ⟨⟨World.cell?_setCell_same _ _ _ c1,by rw [World.frozen?_setCell];exact f1,?_,A2,zp_,A0⟩,c1,f1,?_⟩
 ·have e1:(l ++ [x]).length=l.length+1:=by simp
  have e2:(l ++ [x]).flatMap intCells=l.flatMap intCells ++ intCells x:=by simp
  rw [e1,e2];exact cl_ ho _ A2
 exact ((hW.mono o_).grown hg o_ (fun k hk=>(h.own.lt k hk).1)).setCell (p:=(a_ p)) A0 _
structure Jv (w:World) (base p q:Nat) (v:Value) (j:Int):Prop where
 cell:w.cell? (a_ q)=some (i_ j)
 fr:w.frozen? (a_ q)=false
 lt:q<w
 bq:base<=q
 ne:v.ownBlock≠some q
 np:q≠p
theorem Jv.below {w w':World} {base p q:Nat} {v:Value} {j:Int} (h:Jv w base p q v j) (hb:Below w w w'):Jv w' base p q v j :=
 ⟨(belc hb h.lt).trans h.cell,(belf hb h.lt).trans h.fr,lt_ h.lt hb.size,h.bq,h.ne,h.np⟩
theorem infoInt:(prog.info? 3).map (fun i=>(i.zero,i.size,i.bytes))=some (some (i_ 0),1,8):=by kernel_rfl
def GivesI (l:List Int) (w:World) (e:Ending) (w':World):Prop:=∃ A n c,e=.returned (.slice A n c)/\Sl w' w' 1 intCells A n l/\Below w w w'
def jOf (v:Value) (w:World):Nat:=match v with | .pointer (some a)=>(intOf ((w.cell? a).getD (i_ 0))).toNat | _=>0
theorem dependents_any (HA:OA) (hn hc:Nat) (ol:List Ob) (B:OA) (m d:Nat) (w0:World) (l:List (Tr w0)) (k:Nat) (w:World) (hw0:Below w0 w0 w)
  (hh:Hp w w HA hn ol) (hhn:hn<=9000000000000) (hl:Sl w w 48 Tr.cells B m l) (hm:m<=900000) (hd:m<=d) (hk:k<m) :
  Calls prog 11 #[.agg #[.slice HA hn hc],.slice B m d,i_ k] w (GivesI (dep (fun j c=>srcP (fun i f=>cn_ i f (ol.map Ob.po)) (l.map (·.t)) j c.id c.field) (l.map (·.t)) k (m - (k+1))) w):=by
 have HH:=q_ hh;have AE:=q_ hhn;have HL:=q_ hl;have Ag:=q_ hw0;have AX:¬(k:Int)<0:=by omega
 have AZ:¬(k:Int) ≥ (m:Int):=by omega
 have AY:IntKind.i64.wrap ((k:Int)+1)=(k:Int)+1:=by rw [IntKind.wrap_i64];omega
 clear hh hhn hl hw0;obtain ⟨i0,hi,AR,AS,AT⟩:=info_parts infoInt;obtain ⟨src,A6⟩:=ex_ ((fun (j:Nat) (c:Cl)=>srcP (fun i f=>cn_ i f (ol.map Ob.po)) (l.map (·.t)) j c.id c.field));have Am:=q_ A6;rw [<-A6];clear A6;obtain ⟨b4,Ap⟩:=ex_ (w.heap.size+1);obtain ⟨b7,Ah⟩:=ex_ (w.heap.size+3);obtain ⟨b8,Ai⟩:=ex_ (w.heap.size+4);obtain ⟨W,hW⟩:=ex_ (((((w.alloc (.cells #[.slice HA hn hc] 35)).alloc (.cells #[.slice B m d] 41)).alloc (.cells #[i_ k] 3)).alloc (.cells #[.slice (some (a_ (w.heap.size+2))) 1 1] 30)).alloc (.cells #[i_ ((k:Int)+1)] 3));have Az:Below w.heap.size w W:=by rw [hW];exact (bel (b_))
 have AA:(W:Nat)=w+5:=by rw [hW];simp
 have q3:W.cell? (a_ w)=some (.slice HA hn hc):=(by rw [hW,al_ _ _ _ _ y_,al_ _ _ _ _ y_,al_ _ _ _ _ y_,al_ _ _ _ _ y_,ar_ _ _ _ _ _ y_];rfl);have q4:W.cell? (a_ b4)=some (.slice B m d):=by rw [Ap];exact (by rw [hW,al_ _ _ _ _ y_,al_ _ _ _ _ y_,al_ _ _ _ _ y_,ar_ _ _ _ _ _ y_];rfl)
 have q7:W.cell? (a_ b7)=some (.slice (some (a_ (w+2))) 1 1):=by rw [Ah];exact (by rw [hW,al_ _ _ _ _ y_,ar_ _ _ _ _ _ y_];rfl)
 have AB:W.frozen? (a_ b7)=false:=by rw [Ah];exact (by rw [hW,et_ _ _ _ _ y_,bu_ _ _ _ _ _ y_])
 have q8:W.cell? (a_ b8)=some (i_ ((k:Int)+1)):=by rw [Ai];exact (by rw [hW,ar_ _ _ _ _ _ y_];rfl)
 have AC:W.frozen? (a_ b8)=false:=by rw [Ai];exact (by rw [hW,bu_ _ _ _ _ _ y_])
 have Ae:W.ownsRow (w+2) 3 1 (.slice (some (a_ (w+2))) 1 1) 1 [i_ (k:Int)]:=by
  have h:=World.ownsRow_lit (base:=w+2) (e:=3) (size:=1) ((w.alloc (.cells #[.slice HA hn hc] 35)).alloc (.cells #[.slice B m d] 41)) #[i_ (k:Int)] 1 t_ d_ rfl;rw [show ((w.alloc (.cells #[.slice HA hn hc] 35)).alloc (.cells #[.slice B m d] 41)).heap.size=w+2 by simp] at h;rw [hW];exact own_below (own_below h ((b_).alloc (l_) _)) ((b_).alloc (l_) _)
 have AH:Hid (Ou W (w+2) b7 (.slice (some (a_ (w+2))) 1 1) (dep src (l.map (·.t)) k 0)):=q_ ⟨q7,AB,Ae,fun e=>by injection e with e;simp only at e;omega,o_,o_⟩;have AF:Hid (Jv W (w+2) b7 b8 (.slice (some (a_ (w+2))) 1 1) ((k+1+0:Nat):Int)):=q_ ⟨q8,AC,o_,o_,fun e=>by injection e with e;simp only at e;omega,o_⟩;have HQ:=q_ (And.intro q3 q4);have HE:=q_ (And.intro Ap (And.intro Ah (And.intro Ai AA)));have AD:=q_ Az;clear q3 q4 q7 AB q8 AC Ae Az AA;go_enter func11,ntmps11;go_wp2_with fail;rw [show (w:Nat)+1+1=w+2 from rfl,<-hW,show w+2+1+1=b8 by omega,show w+2+1=b7 by omega,show w+1=b4 by omega];clear hW Ap Ah Ai;go_loopw [8] (fun i wr=>∃ (jm pj:Nat) (v:Value),jm<=m - (k+1)/\i=.pointer (some (a_ pj))/\Hid (Ou wr (w+2) b7 v (dep src (l.map (·.t)) k jm))/\Hid (Jv wr (w+2) b7 pj v ((k+1+jm:Nat):Int))/\Hid (Below (w+2) W wr)) (fun i wr=>m - jOf i wr)
 case atStart=>exact ⟨0,b8,_,Nat.zero_le _,rfl,AH,AF,q_ (b_)⟩
 obtain ⟨jm,pj,v,AW,rfl,hO,hJ,hb⟩:=hrel;have c4:=(belc hb.o (b:=b4) (o:=0) (by have:=HE.o;omega)).trans HQ.o.2;have c8:=hJ.o.cell;have Aw:=hJ.o.fr;have Aa:=q_ (AD.o.trans (hb.o.mono o_));obtain ⟨q,hq⟩:=ex_ (k+1+jm);rw [<-hq] at c8 hJ;have An:=q_ hq;by_cases hlt:jm<m - (k+1)
 case neg =>
  have AO:¬(q:Int)<(m:Int):=by omega
  have AK:jm=m - (k+1):=by omega
  subst AK;have h7:=hO.o.cell;obtain ⟨A',c',rfl⟩:=own_form hO.o.own (by have:=List.length_pos_of_mem (dep_first (src:=src) (l:=l.map (·.t)) (k:=k) (m - (k+1)));exact this);clear hq;go_wp2_with fail;go_ret;exact ⟨A',_,c',rfl,Sl.da_ (cells:=intCells) (fun _=>rfl) rfl hO.o.own,Aa.o⟩
 case pos =>
 have AO:(q:Int)<(m:Int):=by omega
 have AP:q<m:=by omega
 have Af:=(HL.o.up Aa.o);obtain ⟨ab,ao,hB,AL,Ay⟩:=Af.at_ o_;subst hB;obtain ⟨t,ht⟩:∃ t,l[q]?=some t:=⟨_,ge_ (by have:=HL.o.len;omega)⟩;have c37:wr.cell? ⟨ab,ao+q*48+37,none⟩=some (.slice t.t.RA t.t.rn t.t.rc):=by rw [Nat.add_assoc];exact Ay q t ht 37 _ t.t.c37
 have HT:=q_ ht;have Au:=q_ (t.rq.up (Ag.o.trans (Aa.o.mono Ag.o.size)));obtain ⟨out,hout⟩:=ex_ (dep src (l.map (·.t)) k jm);rw [<-hout] at hO;have A9:=q_ hout;obtain ⟨A',c',rfl⟩:=own_form hO.o.own (by rw [hout];exact List.length_pos_of_mem (dep_first (src:=src) (l:=l.map (·.t)) (k:=k) jm));have Ad:out.length<=1000000:=by rw [hout];have:=dep_len (src:=src) (l:=l.map (·.t)) (k:=k) jm;omega
 have A4:=q_ Ad;have h7:=hO.o.cell;clear Ay ht Af hq hout Ad AL;go_wp2_with fail;refine (SqXT.con t.t.RA t.t.rn t.t.rc t.t.rs (fun c=>out.contains (src q c)) b7 w b4 pj wr Au.o.rs (by have:=Au.o.rn;omega) (fun x _ w' A5=>by
  have Ao:=hO.o.below A5
  have Ax:=hJ.o.below A5
  have Aq:=Aa.o.trans (A5.mono Aa.o.size)
  have e3:=HE.o
  have h:=tainted_any x A' out.length c' out HA hn hc ol (some (f_ ab ao)) m d w0 l q b7 w b4 pj w' (Ag.o.trans (Aq.mono Ag.o.size)) (HH.o.up Aq) AE.o (HL.o.up Aq) hm hd AP (Sl.da_ (cells:=intCells) (fun _=>rfl) rfl Ao.own) A4.o Ao.cell
   ((belc A5 (by have:=hb.o.size;omega)).trans ((belc hb.o o_).trans HQ.o.1)) ((belc A5 (by have:=hb.o.size;omega)).trans c4) Ax.cell ⟨Ao.lt,by have:=hb.o.size;have:=A5.size;omega,by have:=hb.o.size;have:=A5.size;omega,Ax.lt⟩
  rw [Am.o]
  exact h)).mono ?_
 rintro e w1 ⟨rfl,A8⟩;have AU:=q_ A8;have A0:=q_ (hO.o.below A8);have A7:=q_ (hJ.o.below A8);have As:=q_ (hb.o.trans (A8.mono (by have:=hb.o.size;have:=HE.o;omega)));have Av:=h_ ((l.map (·.t))[q]?=some t.t) (by rw [List.getElem?_map,HT.o];rfl);have Aj:=An.o;have B0:(q:Int)+1<=(m:Int):=by omega
 have B1:IntKind.i64.wrap ((q:Int)+1)=(q:Int)+1:=by rw [IntKind.wrap_i64];omega
 have g8:=A7.o.cell;have AV:=A7.o.fr;cases htn:t.t.rs.any (fun c=>out.contains (src q c))
 case false =>
  have HD:=q_ (show dep src (l.map (·.t)) k (jm+1)=out from by
   have h:=Av.out
   rw [Aj] at h htn
   rw [dep,h]
   simp only
   rw [<-A9.o]
   unfold taint
   rw [htn]
   rfl)
  clear htn A8 c4 c8 Aw c37 h7 Aj;go_wp2_with fail;go_roundw
  case rel=>exact ⟨jm+1,w1,_,o_,rfl,q_ (by rw [HD.o];exact A0.o.below ((b_).alloc (l_) _)),q_ ⟨by rw [ar_ _ _ _ _ _ rfl];have:=An.o;show some (Value.int IntKind.i64 ((q:Int)+1))=_;congr 2;omega,bu_ _ _ _ _ _ rfl,zj_,x9_,fun e=>by have:=(A0.o.own.lt _ e).2;omega,fun e=>by have:=A0.o.lt;omega⟩,q_ (As.o.alloc x9_ _)⟩
  have h8:=hJ.o.cell;simp [jOf,intOf,h8];omega
 have HD:=q_ (show dep src (l.map (·.t)) k (jm+1)=out ++ [(q:Int)] from by
  have h:=Av.out
  rw [Aj] at h htn ⊢
  rw [dep,h]
  simp only
  rw [<-A9.o]
  unfold taint
  rw [htn]
  rfl)
 have Al:=q_ ((b_).alloc (l_) _:Below w1 w1 (w1.alloc (.cells #[i_ (q:Int)] 3)));have AG:=h_ (∀ ad,(some (a_ w1):OA)=some ad->∀ (j:Nat) (u:Value),(intCells (q:Int))[j]?=some u->(w1.alloc (.cells #[i_ (q:Int)] 3)).cell? (ad.add j)=some u) (fun ad h j u hu=>by
  injection h with h
  subst h
  rw [Addr.add_lit,ar_ _ _ _ _ _ rfl,Nat.zero_add,List.getElem?_toArray]
  exact hu)
 have Ar:=h_ ((w:Nat)+2<=w1) x9_;have g7:=A0.o.cell;have AM:=A7.o.np;have AN:¬b7=pj:=fun e=>AM e.symm
 clear htn A8 c4 c8 Aw c37 h7 Aj;go_wp2_with (at_builtin;refine bt_ rfl _ _ 30 rfl (w+2) 3 i0 _ 1 8 underlying30 hi AR AS AT rfl d_ (.slice A' out.length c') out.length (out.flatMap intCells) rfl (own_below A0.o.own Al.o) (some (a_ w1)) 1 1 (intCells (q:Int)) rfl w3_ rfl AG.o (by simp [intCells,Value.oneCell']) (by have:=A4.o;unfold maxLen;omega) (by have:=A4.o;omega) (by have:=Ar.o;simp;omega) ?_;intro A3 c3 w3 A1 A2 Ab;have Ak:=A0.o.next Al.o (q:Int) A1 A2 Ab;have u7:=Ak.2.1;have B2:=Ak.2.2.1;have u8:=((gcell A2).1 pj 0 (by have:=A7.o.lt;simp;omega) (fun e=>A7.o.ne e.symm)).trans ((belc Al.o A7.o.lt).trans g8));have HX:=q_ Ak;have AI:=q_ A1;have AQ:(w1:Nat)+1<=w3:=by have:=A2.size;simpa using this
 clear A1 A2 Ab Ak;go_roundw
 case rel=>exact ⟨jm+1,w3,.slice A3 (out.length+1) c3,o_,rfl,q_ (by rw [HD.o];exact HX.o.1.below ((b_).alloc (l_) _)),q_ ⟨by rw [ar_ _ _ _ _ _ t_];have:=An.o;show some (Value.int IntKind.i64 ((q:Int)+1))=_;congr 2;omega,bu_ _ _ _ _ _ t_,zj_,by have:=Ar.o;omega,fun e=>by have:=(AI.o.lt _ e).2;omega,fun e=>by have:=A0.o.lt;omega⟩,q_ ((As.o.trans HX.o.2.2.2).alloc (by have:=Ar.o;simp;omega) _)⟩
 have h8:=hJ.o.cell;have AJ:((w3.setCell (a_ b7) (.slice A3 (out.length+1) c3)).alloc (.cells #[i_ ((q:Int)+1)] 3)).cell? (a_ w3)=some (i_ ((q:Int)+1)):=by rw [ar_ _ _ _ _ _ t_];rfl
 simp only [jOf,h8,AJ,Option.getD_some,intOf];omega
end Go.Proofs.YtfolidlmgfhkiaaGreat.Sq
namespace Go.Proofs.YtfolidlmgfhkiaaGreat
open Go.RowKit
def Zm (d b:Nat):NP:=fun k=>k=d\/k=b
structure Mk (d b:Nat) (lp:Nat) (w:World):Prop where
 dice:Dice w d
 ne:d<b
 lt:b<w
 c0:w.cell? (a_ b)=some (pt d)
 c1:∃ left,w.cell? (f_ b 1)=some (i_ left)
 c2:w.cell? (f_ b 2)=some (i_ lp)
 c3:∃ fn,w.cell? (f_ b 3)=some (i_ fn)
 fz:∀ j,w.frozen? (f_ b j)=false
section
variable {d b lp:Nat} {w w' w2:World}
theorem Mk.below (h:Mk d b lp w) (hb:Below w w w'):Mk d b lp w':=by
 obtain ⟨l,h1⟩:=h.c1;obtain ⟨f,h3⟩:=h.c3;exact ⟨h.dice.below hb,h.ne,lt_ h.lt hb.size,(belc hb h.lt).trans h.c0,⟨l,(belc hb h.lt).trans h1⟩,(belc hb h.lt).trans h.c2,⟨f,(belc hb h.lt).trans h3⟩,fun j=>(belf hb h.lt).trans (h.fz j)⟩
theorem Mk.thrown (h:Mk d b lp w) (ht:cd_ w d w'):Mk d b lp w':=by
 have hne:b≠d:=by have:=h.ne;omega
 obtain ⟨l,h1⟩:=h.c1;obtain ⟨f,h3⟩:=h.c3;exact ⟨ht.dice,h.ne,lt_ h.lt ht.size,(ht.cell h.lt hne).trans h.c0,⟨l,(ht.cell h.lt hne).trans h1⟩,(ht.cell h.lt hne).trans h.c2,⟨f,(ht.cell h.lt hne).trans h3⟩,fun j=>(ht.frozen h.lt hne).trans (h.fz j)⟩
theorem cd_.kp (ht:cd_ w d w') (b:Nat):Kp (Zm d b) w w':=(Kp.refl _ w).grown ht.grown (fun k hk=>by injection hk with hk;exact .inl (.inl hk.symm))
theorem Mk.set1 (h:Mk d b lp w) (x:Int):Mk d b lp (w.setCell (f_ b 1) (i_ x)):=by
 obtain ⟨l,h1⟩:=h.c1;obtain ⟨f,h3⟩:=h.c3;have hs:∀ j,j≠1->(w.setCell (f_ b 1) (i_ x)).cell? (f_ b j)=w.cell? (f_ b j):=fun j hj=>bh_ _ _ _ _ zm_
 refine ⟨?_,h.ne,wf_,(hs 0 o_).trans h.c0,⟨x,World.cell?_setCell_same _ _ _ h1⟩,(hs 2 o_).trans h.c2,⟨f,(hs 3 o_).trans h3⟩,fun j=>(World.frozen?_setCell ..).trans (h.fz j)⟩;exact h.dice.set (p:=(f_ b 1)) h.ne _
theorem Mk.set2 (h:Mk d b lp w) (x:Nat):Mk d b x (w.setCell (f_ b 2) (i_ x)):=by
 obtain ⟨l,h1⟩:=h.c1;obtain ⟨f,h3⟩:=h.c3;have hs:∀ j,j≠2->(w.setCell (f_ b 2) (i_ x)).cell? (f_ b j)=w.cell? (f_ b j):=fun j hj=>bh_ _ _ _ _ zm_
 refine ⟨?_,h.ne,wf_,(hs 0 o_).trans h.c0,⟨l,(hs 1 o_).trans h1⟩,World.cell?_setCell_same _ _ _ h.c2,⟨f,(hs 3 o_).trans h3⟩,fun j=>(World.frozen?_setCell ..).trans (h.fz j)⟩;exact h.dice.set (p:=(f_ b 2)) h.ne _
theorem Mk.set3 (h:Mk d b lp w) (x:Int):Mk d b lp (w.setCell (f_ b 3) (i_ x)):=by
 obtain ⟨l,h1⟩:=h.c1;obtain ⟨f,h3⟩:=h.c3;have hs:∀ j,j≠3->(w.setCell (f_ b 3) (i_ x)).cell? (f_ b j)=w.cell? (f_ b j):=fun j hj=>bh_ _ _ _ _ zm_
 refine ⟨?_,h.ne,wf_,(hs 0 o_).trans h.c0,⟨l,(hs 1 o_).trans h1⟩,(hs 2 o_).trans h.c2,⟨x,World.cell?_setCell_same _ _ _ h3⟩,fun j=>(World.frozen?_setCell ..).trans (h.fz j)⟩;exact h.dice.set (p:=(f_ b 3)) h.ne _
theorem Kp.setm {X:NP} (h:Kp (Zm d b) w w') (j:Nat) (v:Value):Kp (Zm d b) w (w'.setCell (f_ b j) v):=h.setCell (p:=(f_ b j)) (.inl (.inr rfl)) v
theorem Mk.nz (h:Mk d b lp w):¬Zm d b w:=fun e=>by
 have:=h.dice.lt;have:=h.lt;rcases e with e | e <;> omega
theorem Mk.zlt (h:Mk d b lp w):∀ k,Zm d b k->k<w:=fun k hk=>by
 have:=h.dice.lt;have:=h.lt;rcases hk with rfl | rfl <;> assumption
end
structure Md (d b lp:Nat) (w w':World):Prop where
 ok:Mk d b lp w'
 kp:Kp (Zm d b) w w'
section
variable {d b lp:Nat} {w w' w2:World}
theorem Md.trans (h:Md d b lp w w') (h2:Md d b lp w' w2):Md d b lp w w2:=⟨h2.ok,h.kp.trans h2.kp⟩
theorem Md.refl (h:Mk d b lp w):Md d b lp w w:=⟨h,Kp.refl _ _⟩
theorem Md.below (h:Md d b lp w w') (hb:Below w' w' w2):Md d b lp w w2:=⟨h.ok.below hb,h.kp.bb_ hb⟩
theorem Md.alloc (h:Md d b lp w w') (o:Obj):Md d b lp w (w'.alloc o):=h.below ((b_).alloc (l_) o)
theorem Md.drew (h:Md d b lp w w'):Md d b lp w w'.drew:=h.below (Below.drew (b_))
theorem Md.set1 (h:Md d b lp w w') (x:Int):Md d b lp w (w'.setCell (f_ b 1) (i_ x)):=⟨h.ok.set1 x,h.kp.setCell (p:=(f_ b 1)) (.inl (.inr rfl)) _⟩
theorem Md.new (h:Md d b lp w w') {p:Addr} (hp:w<=p.block) (hb:b<p.block) (u:Value):Md d b lp w (w'.setCell p u):=by
 have hd:=h.ok.ne;have hs:∀ j,(w'.setCell p u).cell? (f_ b j)=w'.cell? (f_ b j):=fun j=>bh_ _ _ _ _ (by intro e;rw [e] at hb;exact Nat.lt_irrefl _ hb)
 obtain ⟨l,h1⟩:=h.ok.c1;obtain ⟨f,h3⟩:=h.ok.c3;exact ⟨⟨h.ok.dice.set o_ u,hd,by simpa [World.setCell] using h.ok.lt,(hs 0).trans h.ok.c0,⟨l,(hs 1).trans h1⟩,(hs 2).trans h.ok.c2,⟨f,(hs 3).trans h3⟩,fun j=>(World.frozen?_setCell ..).trans (h.ok.fz j)⟩,h.kp.setCell (.inr hp) u⟩
end
def exL (kd n:Int) (s:ByteArray) (op:Int) (A:OA) (m c:Nat):VL:=[i_ kd,i_ n,.string s,i_ op,.slice A m c]
def stL (kd:Int) (s f:ByteArray) (n op:Int) (A:OA) (m c:Nat) (B:OA) (m1 c1:Nat) (C:OA) (m2 c2:Nat):VL:=[i_ kd,.string s,.string f,i_ n,i_ op,.slice A m c,.slice B m1 c1,.slice C m2 c2]
def RE (X:NP) (d:Nat) (e:Ending) (w:World):Prop:=∃ (kd n:Int) (s:ByteArray) (op:Int) (A:OA) (m c:Nat),e=.returned (.agg #[i_ kd,i_ n,.string s,i_ op,.slice A m c])/\Hid (VTs w X 20 (ay_ d) (exL kd n s op A m c)/\pE (exL kd n s op A m c))
def RS (X:NP) (d:Nat) (e:Ending) (w:World):Prop:=∃ (kd:Int) (s f:ByteArray) (n op:Int) (A:OA) (m c:Nat) (B:OA) (m1 c1:Nat) (C:OA) (m2 c2:Nat),e=.returned (.agg #[i_ kd,.string s,.string f,i_ n,i_ op,.slice A m c,.slice B m1 c1,.slice C m2 c2])/\Hid (VTs w X 20 (ah_ d) (stL kd s f n op A m c B m1 c1 C m2 c2)/\pS (stL kd s f n op A m c B m1 c1 C m2 c2))
section
variable {X:NP} {w w':World} {d d':Nat}
theorem vts_ex0 (kd n:Int) (s:ByteArray) (op:Int):VTs w X 20 (ay_ 0) (exL kd n s op none 0 0):=VTs.cons (.num _) (VTs.cons (.num _) (VTs.cons (.txt _) (VTs.cons (.num _) (VTs.cons (SlP.nil _ _ _ _ _).vt VTs.nil))))
theorem vts_ex {kd n:Int} {s:ByteArray} {op:Int} {A:OA} {m c:Nat} (h:SlP w X 20 pE (ay_ d) A m c):VTs w X 20 (ay_ (d+1)) (exL kd n s op A m c):=VTs.cons (.num _) (VTs.cons (.num _) (VTs.cons (.txt _) (VTs.cons (.num _) (VTs.cons h.vt VTs.nil))))
theorem pE_ex {kd n:Int} {s:ByteArray} {op:Int} {A:OA} {m c:Nat} (h4:kd=4->1<=m) (h5:kd=5->2<=m) (hs:s.size<=100):pE (exL kd n s op A m c):=⟨kd,n,s,op,A,m,c,rfl,h4,h5,hs⟩
theorem pS_st {kd:Int} {s f:ByteArray} {n op:Int} {A B C:OA} {m c m1 c1 m2 c2:Nat} (h5:kd=5->2<=m) (h6:kd=6->1<=m) (h3:kd=3->f=nameF\/f=nameG) (hs:s.size<=100) (hf:f.size<=100):pS (stL kd s f n op A m c B m1 c1 C m2 c2):=⟨kd,s,f,n,op,A,B,C,m,c,m1,c1,m2,c2,rfl,h5,h6,h3,hs,hf⟩
theorem vts_st {kd:Int} {s f:ByteArray} {n op:Int} {A B C:OA} {m c m1 c1 m2 c2:Nat} (h:SlP w X 20 pE (ay_ dE) A m c) (h1:SlP w X 20 pS (ah_ d) B m1 c1) (h2:SlP w X 20 pS (ah_ d) C m2 c2):VTs w X 20 (ah_ (d+1)) (stL kd s f n op A m c B m1 c1 C m2 c2):=vts_stmt h h1 h2
theorem ec_ {kd:Int} {s f:ByteArray} {n op:Int} {A:OA} {m c:Nat} (h:SlP w X 20 pE (ay_ dE) A m c):VTs w X 20 (ah_ 0) (stL kd s f n op A m c none 0 0 none 0 0):=vts_stmt0 h (SlP.nil _ _ _ _ _) (SlP.nil _ _ _ _ _)
end
end Go.Proofs.YtfolidlmgfhkiaaGreat
