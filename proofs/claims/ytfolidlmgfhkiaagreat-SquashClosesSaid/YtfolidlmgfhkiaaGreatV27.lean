/- Lemmas on functions of the program, under the conditions that each states. -/
import Derived.Test.YtfolidlmgfhkiaaGreatV26
import Derived.Maps.OwnSet
import Derived.Maps.OwnOps
import Derived.Maps.Views
set_option linter.unusedVariables false
set_option linter.unusedSimpArgs false
set_option maxRecDepth 100000
set_option maxHeartbeats 4000000
namespace Go.Proofs.YtfolidlmgfhkiaaGreat
open Go.RowKit Go.Maps
/- A map of numbers that the call makes. -/
theorem lawInt:Keyed Tryz.prog 3:=int_keyed Tryz.underlying3
theorem zeroInt (w:World):(zeroValue 3).run Tryz.prog w=.ok (i_ 0) w:=by kernel_rfl
def IntMap (w:World) (b n:Nat):Prop:=∃ D:DataW Unit,w.ownsMap Tryz.prog 3 (plainElem Tryz.prog 3) b n D
theorem IntMap.made (w:World):IntMap (w.alloc (.map #[] 0)) w 0:=⟨_,World.ownsMap_made w _ _ _⟩
theorem IntMap.put {w:World} {b n:Nat} (h:IntMap w b n) (hn:n<maxLen) {k v:Int} (hk:(Lit.int .i64 k).wf=true) (hv:(Lit.int .i64 v).wf=true):∃ w',(Instr.mapUpdate 285 (.map (some b)) (i_ k) (i_ v)).run Tryz.prog w=.ok () w'/\IntMap w' b (n+1)/\w.grownBy w' (some b):=by
 obtain ⟨D,h⟩:=h;obtain ⟨w',hr,h1,h2⟩:=h.update lawInt Tryz.underlying285 hn (keyOf_int_mk Tryz.underlying3 hk) (plainElem_int Tryz.underlying3 hv);exact ⟨w',hr,⟨_,h1⟩,h2⟩
theorem IntMap.look {w:World} {b n:Nat} (h:IntMap w b n) {k:Int} (hk:(Lit.int .i64 k).wf=true):∃ c:Int,(Instr.lookup 285 (.map (some b)) (i_ k) false).run Tryz.prog w=.ok (i_ c) w:=by
 obtain ⟨D,h⟩:=h;obtain ⟨c,hr,_⟩:=h.lookup_int lawInt Tryz.underlying285 Tryz.underlying3 (zeroInt w) (keyOf_int_mk Tryz.underlying3 hk);exact ⟨c,hr⟩
/- append, its run at hand. -/
section
variable {P:Program} {w w':World} {ops:Array Oper} {o:Oper} {a:Act} {Q:Exit->Act->World->Prop}
theorem step_append_run {K0:Act->World->Prop} {E:Prop} (hgd:o.guard=none) (s x:Operand) (t tn:TypeId) (ho:o.op=.call { callee:=.builtin .append,args:=#[s,x],argTypes:=#[t,tn] }) (vs vx v':Value) (hs:a.eval s=vs) (hx:a.eval x=vx)
  (hr:(Builtin.append_ #[t,tn] o.type #[vs,vx]).run P w=.ok v' w') (h:K0 (a.put o.dst v') w'):if Region.wanted o (yielded ops a.tmps)=true then Oper.wp P o a w K0 Q else E:=by
 have hw:Region.wanted o (yielded ops a.tmps)=true:=by simp [Region.wanted,hgd]
 rw [if_pos hw];exact Lib.wp_append_run w s x t tn ho _ _ hs hx _ _ hr h
theorem run_append_news (w:World) (base:Nat) (t ty et:TypeId) (i:TypeInfo) (z:Value) (bytes:Nat) (e:List CT) (X:NP) (K:Nat) (ht:P.underlying t=some (.slice et)) (hi:P.info? et=some i) (hz:i.zero=some z)
  (hsize:i.size=e.length) (hby:i.bytes=bytes) (hzs:z.cells.size=e.length) (hsz:0<e.length)
  (A:OA) (n c:Nat) (hown:OwT w base et e X K A n c) (ad:Addr) (m d:Nat) (news:VL) (hl:news.length=m*e.length) (hnews:∀ (j:Nat) (u:Value),news[j]?=some u->w.cell? (ad.add j)=some u)
  (hv:∀ k j t,k<m->e[j]?=some t->∃ u,news[k*e.length+j]?=some u/\VT w (Wi X (Value.slice A n c).ownBlock) K t u) (h1:∀ u ∈ news,u.oneCell'=true)
  (hX:∀ k,X k->k<w) (h63:n+m<=maxLen) (hbytes:(n+m)*bytes<=140737488355328) (hbase:base<=w) :
  ∃ A' c' w',(Builtin.append_ #[t,t] ty #[.slice A n c,.slice (some ad) m d]).run P w=.ok (.slice A' (n+m) c') w'/\OwT w' base et e X K A' (n+m) c'/\w.grownBy w' (Value.slice A n c).ownBlock ∧
   (∀ g,(Value.slice A' (n+m) c').ownBlock=some g->(Value.slice A n c).ownBlock=some g\/g=w):=by
 obtain ⟨xs,o1,o2⟩:=hown;obtain ⟨A',c',w',hr,g1,g2,g3⟩:=cz_ (P:=P) w base t ty et i z e.length bytes ht hi hz hsize hby hzs hsz _ n xs o1 (some ad) m d news x_ hl (fun a ha j u hu=>by injection ha with ha;subst ha;exact hnews j u hu) h1 h63 hbytes hbase;exact ⟨A',c',w',hr,own_append ⟨xs,o1,o2⟩ ⟨o1,o2⟩ hl hv hX g1 g2 g3,g2,g3⟩
end
theorem OwT.vals {X:NP} {w:World} {K:Nat} (l:List Val) (hX:¬X w) (hn:l.length<=maxLen):OwT (w.alloc (.cells (l.flatMap Val.cells).toArray 38)) w 38 valT X K (some (a_ w)) l.length l.length:=by
 have hl:(l.flatMap Val.cells).length=l.length*valT.length:=by
  induction l with
  | nil=>rfl
  | cons x r ih=>rw [List.flatMap_cons,List.length_append,List.length_cons,ih (by simp at hn;omega)];simp [Val.cells,valT];omega
 refine ⟨l.flatMap Val.cells,⟨hl,.inr ⟨w,l.length,_,rfl,l_,heap_alloc_new w _,l_,hn,by simpa using hl,?_⟩⟩,fun k j t hk hj=>?_⟩
 ·rw [<-hl];exact List.take_length
 have hx:=ge_ (l:=l) (i:=k) hk;obtain ⟨u,hu,hv⟩:=(vts_val (w:=w.alloc (.cells (l.flatMap Val.cells).toArray 38)) (X:=Wi X (Value.slice (some (a_ w)) l.length l.length).ownBlock) (K:=K) (l[k]'hk)).2 j t hj;exact ⟨u,flat_get (sz:=2) (cells:=Val.cells) (fun _=>rfl) l k _ hx j u hu,hv⟩
end Go.Proofs.YtfolidlmgfhkiaaGreat
namespace Go.Proofs.YtfolidlmgfhkiaaGreat
open Go.RowKit Go.Proofs.Tryz
theorem rest_load {X Z Y:NP} {w0:World} {LL:List LV} {b K L:Nat} {l:List In} {pc:Int} {C:Nat->VL} (w:World) (h:OneS X Z w0 LL b K L l pc Y C w) (hK:K<=1000000000) (hL:100<=L/\L<=9000) (i:Nat) (x:In) (hpc:pc=(i:Int)) (hx:OkI l i x) (hop:x.op=5) :
  Calls prog 127 #[.pointer (some (a_ b)),.agg #[i_ x.op,i_ x.a,i_ x.b,i_ x.c,i_ x.n]] w fun e w'=>e=.returned (.tuple #[])/\Ms X Z w0 LL b K (L+30) l pc Y C w w' (fun j=>j<38):=by
 subst hpc;obtain ⟨V,hV,A1,A4,W0⟩:=af_ w [i_ x.op,i_ x.a,i_ x.b,i_ x.c,i_ x.n] 202;have H0:=q_ (h.call A1);have I0:=h_ (Lc V Y w [i_ x.op,i_ x.a,i_ x.b,i_ x.c,i_ x.n]) (⟨W0,fun hy=>Nat.lt_irrefl _ (h.fr.lt _ hy)⟩);have P0:=q_ ((Pr.refl b (fun j=>j<38) w Y C).below A1);have HX:=q_ hx;have A9:=h.fr.blt (i:=0) rfl;obtain ⟨k,hk,A2⟩:∃ k:Nat,k<16/\x.a=(k:Int):=⟨x.a.toNat,zk_,zk_⟩;obtain ⟨op,xa,xb,xc,xn⟩:=x;have A2:xa=(k:Int):=A2;subst A2;have hop:op=5:=hop;subst hop;have v0:=W0.2.1 0 _ rfl;have v1:=W0.2.1 1 _ rfl;have Ab:(w:Nat)<V:=by omega
 have A5:b<V:=by omega
 clear h A1 A4 W0 hx;go_enter func127,ntmps127;go_upto_region 1 with fail;rw [<-hV];clear hV;have Aa:(k:Int)<16:=by omega
 obtain ⟨rt,r0,_⟩:=H0.o.fr.tru (i:=0) rfl (j:=4+k*2) (an_ k hk).1 (as_ _ o_);obtain ⟨rn,r1,_⟩:=H0.o.fr.num (i:=0) rfl (j:=4+k*2+1) (an_ k hk).2.1 (as_ _ o_);go_cut [4] (fun p wx=>∃ q:Nat,p=.pointer (some (a_ q))/\V<=q/\Hid (Bx wx q [.bool rt,i_ rn])/\Hid (Below V V wx))
 case first =>
  exact cuF
 obtain ⟨q,rfl,hq,hB,A0⟩:=hcut;have H1:=q_ (H0.o.call A0.o);have I1:=q_ (I0.o.up (Up.of_below A0.o));have P1:=q_ (P0.o.below A0.o);have Q1:=h_ (Lc wc Y q [.bool rt,i_ rn]) (⟨hB.o,fun hy=>by have:=H0.o.fr.lt _ hy;omega⟩);have y0:=I1.o.cell (j:=0) rfl;have y1:=I1.o.cell (j:=1) rfl;have y2:=I1.o.cell (j:=2) rfl;have y3:=I1.o.cell (j:=3) rfl;have y4:=I1.o.cell (j:=4) rfl;have A8:b<wc:=lt_ A5 A0.o.size;clear v0 v1 r0 r1 hB;obtain ⟨kb,A3,A7⟩:∃ kb:Nat,kb<16/\xb=(kb:Int):=⟨xb.toNat,xf_,xf_⟩;subst A7;have A6:(kb:Int)<16:=by omega
 obtain ⟨st,s0,_⟩:=H1.o.fr.tru (i:=0) rfl (j:=4+kb*2) (an_ kb A3).1 (as_ _ o_);obtain ⟨sn,s1,_⟩:=H1.o.fr.num (i:=0) rfl (j:=4+kb*2+1) (an_ kb A3).2.1 (as_ _ o_);have B1:=h_ (Below wc wc wc.drew) (Below.drew (b_));go_upto_region 4 with fail;go_region_law (go_simp;go_at_call 178;refine (object_m wc.drew (H1.o.call B1.o) hK o_ ⟨st,sn⟩ xn).mono ?_;rintro e W2 ⟨⟨f,ok,rfl⟩,hM⟩;have HM:=q_ hM;clear hM s0 s1 y0 y1 y2 y3 y4);all_goals
  obtain ⟨Y2,C2,h2,p2⟩:=HM.o;have H2:=q_ h2;have I2:=q_ ((I1.o.up (Up.of_below B1.o)).up p2.1);have Q2:=q_ ((Q1.o.up (Up.of_below B1.o)).up p2.1);have P2:=q_ ((P1.o.below B1.o).trans p2 (fun j hj=>.inl hj));have y1:=I2.o.cell (j:=1) rfl;have y4:=I2.o.cell (j:=4) rfl;have q0:=Q2.o.cell (j:=0) rfl;have q1:=Q2.o.cell (j:=1) rfl;clear h2 p2 HM;cases ok
  case false =>
   exact ua_
  obtain ⟨ut,r0,_⟩:=H2.o.fr.tru (i:=0) rfl (j:=40+k*2) (an_ k hk).2.2.1 (as_ _ o_);obtain ⟨un,r1,_⟩:=H2.o.fr.num (i:=0) rfl (j:=40+k*2+1) (an_ k hk).2.2.2 (as_ _ o_);have fb:=H2.o.fr.fz (i:=0) rfl;have B2:=h_ (Below W2 W2 W2.drew) (Below.drew (b_));go_upto_region 6 with fail;go_region_law (go_simp;go_at_call 124;refine (ds_ W2.drew (H2.o.call B2.o) hK o_ f xn).mono ?_;rintro e W3 ⟨⟨v,rfl⟩,hM⟩;obtain ⟨Y3,C3,h3,p3⟩:=hM;have H3:=q_ h3;have P3:=q_ ((P2.o.below B2.o).trans p3 (fun j hj=>⟨o_,o_⟩));have I3:=q_ ((I2.o.up (Up.of_below B2.o)).up p3.1);clear h3 p3 r0 r1 fb q0 q1 y1 y4;have z1:=I3.o.cell (j:=1) rfl;obtain ⟨ut,r0,_⟩:=H3.o.fr.tru (i:=0) rfl (j:=40+k*2) (an_ k hk).2.2.1 (as_ _ o_);obtain ⟨un,r1,_⟩:=H3.o.fr.num (i:=0) rfl (j:=40+k*2+1) (an_ k hk).2.2.2 (as_ _ o_);have fb:=H3.o.fr.fz (i:=0) rfl);all_goals
   obtain ⟨Y4,C4,h5,p5⟩:=H3.o.setReg hk v;go_wp2;refine end0 za_ rfl ?_;exact ⟨rfl,(P3.o.trans p5 (fun j hj=>.inl o_)).ms (h5.raise o_)⟩
theorem rest_store {X Z Y:NP} {w0:World} {LL:List LV} {b K L:Nat} {l:List In} {pc:Int} {C:Nat->VL} (w:World) (h:OneS X Z w0 LL b K L l pc Y C w) (hK:K<=1000000000) (hL:100<=L/\L<=9000) (i:Nat) (x:In) (hpc:pc=(i:Int)) (hx:OkI l i x) (hop:x.op=6) :
  Calls prog 127 #[.pointer (some (a_ b)),.agg #[i_ x.op,i_ x.a,i_ x.b,i_ x.c,i_ x.n]] w fun e w'=>e=.returned (.tuple #[])/\Ms X Z w0 LL b K (L+30) l pc Y C w w' (fun j=>j<38):=by
 subst hpc;obtain ⟨V,hV,A1,A4,W0⟩:=af_ w [i_ x.op,i_ x.a,i_ x.b,i_ x.c,i_ x.n] 202;have H0:=q_ (h.call A1);have I0:=h_ (Lc V Y w [i_ x.op,i_ x.a,i_ x.b,i_ x.c,i_ x.n]) (⟨W0,fun hy=>Nat.lt_irrefl _ (h.fr.lt _ hy)⟩);have P0:=q_ ((Pr.refl b (fun j=>j<38) w Y C).below A1);have HX:=q_ hx;have A9:=h.fr.blt (i:=0) rfl;obtain ⟨k,hk,A2⟩:∃ k:Nat,k<16/\x.a=(k:Int):=⟨x.a.toNat,zk_,zk_⟩;obtain ⟨op,xa,xb,xc,xn⟩:=x;have A2:xa=(k:Int):=A2;subst A2;have hop:op=6:=hop;subst hop;have v0:=W0.2.1 0 _ rfl;have v1:=W0.2.1 1 _ rfl;have Ab:(w:Nat)<V:=by omega
 have A5:b<V:=by omega
 clear h A1 A4 W0 hx;go_enter func127,ntmps127;go_upto_region 1 with fail;rw [<-hV];clear hV;have Aa:(k:Int)<16:=by omega
 obtain ⟨rt,r0,_⟩:=H0.o.fr.tru (i:=0) rfl (j:=4+k*2) (an_ k hk).1 (as_ _ o_);obtain ⟨rn,r1,_⟩:=H0.o.fr.num (i:=0) rfl (j:=4+k*2+1) (an_ k hk).2.1 (as_ _ o_);go_cut [4] (fun p wx=>∃ q:Nat,p=.pointer (some (a_ q))/\V<=q/\Hid (Bx wx q [.bool rt,i_ rn])/\Hid (Below V V wx))
 case first =>
  exact cuF
 obtain ⟨q,rfl,hq,hB,A0⟩:=hcut;have H1:=q_ (H0.o.call A0.o);have I1:=q_ (I0.o.up (Up.of_below A0.o));have P1:=q_ (P0.o.below A0.o);have Q1:=h_ (Lc wc Y q [.bool rt,i_ rn]) (⟨hB.o,fun hy=>by have:=H0.o.fr.lt _ hy;omega⟩);have y0:=I1.o.cell (j:=0) rfl;have y1:=I1.o.cell (j:=1) rfl;have y2:=I1.o.cell (j:=2) rfl;have y3:=I1.o.cell (j:=3) rfl;have y4:=I1.o.cell (j:=4) rfl;have A8:b<wc:=lt_ A5 A0.o.size;clear v0 v1 r0 r1 hB;obtain ⟨kb,A3,A7⟩:∃ kb:Nat,kb<16/\xb=(kb:Int):=⟨xb.toNat,xg_,xg_⟩;subst A7;have A6:(kb:Int)<16:=by omega
 obtain ⟨st,s0,_⟩:=H1.o.fr.tru (i:=0) rfl (j:=4+kb*2) (an_ kb A3).1 (as_ _ o_);obtain ⟨sn,s1,_⟩:=H1.o.fr.num (i:=0) rfl (j:=4+kb*2+1) (an_ kb A3).2.1 (as_ _ o_);have B1:=h_ (Below wc wc wc.drew) (Below.drew (b_));go_upto_region 8 with fail;go_region_law (go_simp;go_at_call 178;refine (object_m wc.drew (H1.o.call B1.o) hK o_ ⟨st,sn⟩ xn).mono ?_;rintro e W2 ⟨⟨f,ok,rfl⟩,hM⟩;have HM:=q_ hM;clear hM s0 s1 y0 y1 y2 y3 y4);all_goals
  obtain ⟨Y2,C2,h2,p2⟩:=HM.o;have H2:=q_ h2;have I2:=q_ ((I1.o.up (Up.of_below B1.o)).up p2.1);have Q2:=q_ ((Q1.o.up (Up.of_below B1.o)).up p2.1);have P2:=q_ ((P1.o.below B1.o).trans p2 (fun j hj=>.inl hj));have y1:=I2.o.cell (j:=1) rfl;have y4:=I2.o.cell (j:=4) rfl;have q0:=Q2.o.cell (j:=0) rfl;have q1:=Q2.o.cell (j:=1) rfl;clear h2 p2 HM;cases ok
  case false =>
   exact ua_
  go_wp2_with (go_at_call 173;refine (ea_ W2 H2.o o_ f xn ⟨rt,rn⟩).mono ?_;rintro e W3 ⟨rfl,hM⟩;have HM:=q_ hM;clear hM);exact uu_
theorem rest_new {X Z Y:NP} {w0:World} {LL:List LV} {b K L:Nat} {l:List In} {pc:Int} {C:Nat->VL} (w:World) (h:OneS X Z w0 LL b K L l pc Y C w) (hK:K<=1000000000) (hL:100<=L/\L<=9000) (i:Nat) (x:In) (hpc:pc=(i:Int)) (hx:OkI l i x) (hop:x.op=7) :
  Calls prog 127 #[.pointer (some (a_ b)),.agg #[i_ x.op,i_ x.a,i_ x.b,i_ x.c,i_ x.n]] w fun e w'=>e=.returned (.tuple #[])/\Ms X Z w0 LL b K (L+30) l pc Y C w w' (fun j=>j<38):=by
 subst hpc;obtain ⟨V,hV,A2,Ad,W0⟩:=af_ w [i_ x.op,i_ x.a,i_ x.b,i_ x.c,i_ x.n] 202;have H0:=q_ (h.call A2);have I0:=h_ (Lc V Y w [i_ x.op,i_ x.a,i_ x.b,i_ x.c,i_ x.n]) (⟨W0,fun hy=>Nat.lt_irrefl _ (h.fr.lt _ hy)⟩);have P0:=q_ ((Pr.refl b (fun j=>j<38) w Y C).below A2);have HX:=q_ hx;have Ao:=h.fr.blt (i:=0) rfl;obtain ⟨k,hk,A3⟩:∃ k:Nat,k<16/\x.a=(k:Int):=⟨x.a.toNat,zk_,zk_⟩;obtain ⟨op,xa,xb,xc,xn⟩:=x;have A3:xa=(k:Int):=A3;subst A3;have hop:op=7:=hop;subst hop;have v0:=W0.2.1 0 _ rfl;have v1:=W0.2.1 1 _ rfl;have Aq:(w:Nat)<V:=by omega
 have Af:b<V:=by omega
 clear h A2 Ad W0 hx;go_enter func127,ntmps127;go_upto_region 1 with fail;rw [<-hV];clear hV;have Ap:(k:Int)<16:=by omega
 obtain ⟨rt,r0,_⟩:=H0.o.fr.tru (i:=0) rfl (j:=4+k*2) (an_ k hk).1 (as_ _ o_);obtain ⟨rn,r1,_⟩:=H0.o.fr.num (i:=0) rfl (j:=4+k*2+1) (an_ k hk).2.1 (as_ _ o_);go_cut [4] (fun p wx=>∃ q:Nat,p=.pointer (some (a_ q))/\V<=q/\Hid (Bx wx q [.bool rt,i_ rn])/\Hid (Below V V wx))
 case first =>
  exact cuF
 obtain ⟨q,rfl,hq,hB,A0⟩:=hcut;have H1:=q_ (H0.o.call A0.o);have I1:=q_ (I0.o.up (Up.of_below A0.o));have P1:=q_ (P0.o.below A0.o);have Q1:=h_ (Lc wc Y q [.bool rt,i_ rn]) (⟨hB.o,fun hy=>by have:=H0.o.fr.lt _ hy;omega⟩);have y0:=I1.o.cell (j:=0) rfl;have y1:=I1.o.cell (j:=1) rfl;have y2:=I1.o.cell (j:=2) rfl;have y3:=I1.o.cell (j:=3) rfl;have y4:=I1.o.cell (j:=4) rfl;have An:b<wc:=lt_ Af A0.o.size;clear v0 v1 r0 r1 hB;obtain ⟨m,hm,Ak⟩:∃ m:Nat,m<=16/\xn=(m:Int):=⟨xn.toNat,by have:=HX.o.size rfl;simp at this;omega,by have:=HX.o.size rfl;simp at this;omega⟩;subst Ak;obtain ⟨i0,Ah,A7⟩:=Option.map_eq_some_iff.1 infoVa;simp only [Prod.mk.injEq] at A7;obtain ⟨Al,Aj,Ae⟩:=A7;obtain ⟨nx,A8,A1⟩:=H1.o.fr.num (i:=0) rfl (j:=37) rfl rfl;have B1:=h_ (Below wc wc wc.drew) (Below.drew (b_));obtain ⟨W1,Ai,hO,A6⟩:=run_make_t (P:=prog) wc.drew wc 88 38 i0 _ 16 .i64 .i64 valT Y (L+20) underlying88 Ah Al Aj Ae rfl rfl d_ m (fun k hk=>H1.o.fr.lt k hk) m_ o_ (l_);have BB:=q_ (B1.o.trans A6);have HS:=q_ (hO.slT (fun k hk=>H1.o.fr.lt k hk) (show m<=L+20 by omega));have H2:=q_ (H1.o.call BB.o);have I2:=q_ (I1.o.up (Up.of_below BB.o));have P2:=q_ (P1.o.below BB.o);have z4:=I2.o.cell (j:=4) rfl;have A4:=H2.o.fr.cell (i:=0) rfl A1;obtain ⟨oA,on,oc,Am,_,_⟩:=H2.o.fr.slc (i:=0) rfl (j:=74) (e:=objT) rfl rfl;have fb:=H2.o.fr.fz (i:=0) rfl;have Ag:b<W1:=H2.o.fr.blt (i:=0) rfl;have A9:=q_ A1;clear hO A6 A1;have hA:=H2.o.call ((Below.refl W1 W1).alloc (l_) (.cells #[i_ nx,.slice (some (a_ wc)) m m] 90));have A5:=SlT.lit1 (w:=W1) (X:=Y) (K:=L+20) (e:=objT) (vs:=[i_ nx,.slice (some (a_ wc)) m m]) (VTs.cons (.num _) (VTs.cons HS.o.vt VTs.nil)) 90 (fun h=>Nat.lt_irrefl _ (H2.o.fr.lt _ h)) o_;obtain ⟨h6,p6⟩:=(hA.raise (L':=L+20) o_).set (j:=74) (t:=.sl objT) rfl rfl d_ A5.vt (fun hm=>ci_ hm ze_ ze_ ze_);have P6:=(P2.o.below ((Below.refl W1 W1).alloc (l_) (.cells #[i_ nx,.slice (some (a_ wc)) m m] 90))).trans p6 (fun j hj=>o_);have E6:=p6.2.2 37 d_;have I6:=I2.o.up ((Up.of_below ((Below.refl W1 W1).alloc (l_) (.cells #[i_ nx,.slice (some (a_ wc)) m m] 90))).trans p6.1);rw [World.setCell_alloc_past _ _ _ _ Ag] at h6 P6 I6;obtain ⟨U,hU⟩:=ex_ ((W1.setCell (f_ b 74) (.slice (some (a_ W1)) 1 1)).alloc (.cells #[i_ nx,.slice (some (a_ wc)) m m] 90));rw [<-hU] at h6 P6 I6;have H6:=q_ h6;have Ac:=q_ P6;have Ab:=q_ I6;have Aa:=q_ (E6.trans A9.o);clear hA A5 h6 p6 P6 E6 I6;go_upto_region 12 with fail;go_region_law fail;all_goals
  rw [<-hU];clear hU Ai A8 A4 Am fb y0 y1 y2 y3 y4 z4;have z1:=Ab.o.cell (j:=1) rfl;have A8:=H6.o.fr.cell (i:=0) rfl Aa.o;obtain ⟨ut,r0,_⟩:=H6.o.fr.tru (i:=0) rfl (j:=40+k*2) (an_ k hk).2.2.1 (as_ _ o_);obtain ⟨un,r1,_⟩:=H6.o.fr.num (i:=0) rfl (j:=40+k*2+1) (an_ k hk).2.2.2 (as_ _ o_);have fb:=H6.o.fr.fz (i:=0) rfl;go_upto_region 13 with fail;go_region_law fail;all_goals
   obtain ⟨Y4,C4,h5,p5⟩:=(H6.o.call (Below.drew (b_))).setReg hk ⟨true,nx⟩;go_wp2;refine end0 za_ rfl ?_;exact ⟨rfl,((Ac.o.below (Below.drew (b_))).trans p5 (fun j hj=>.inl o_)).ms (h5.raise o_)⟩
theorem rest_call {X Z Y:NP} {w0:World} {LL:List LV} {b K L:Nat} {l:List In} {pc:Int} {C:Nat->VL} (w:World) (h:OneS X Z w0 LL b K L l pc Y C w) (hK:K<=1000000000) (hL:100<=L/\L<=9000) (i:Nat) (x:In) (hpc:pc=(i:Int)) (hx:OkI l i x) (hop:x.op=13) :
  Calls prog 127 #[.pointer (some (a_ b)),.agg #[i_ x.op,i_ x.a,i_ x.b,i_ x.c,i_ x.n]] w fun e w'=>e=.returned (.tuple #[])/\Ms X Z w0 LL b K (L+30) l pc Y C w w' (fun j=>j<38):=by
 subst hpc;obtain ⟨V,hV,A8,Ay,W0⟩:=af_ w [i_ x.op,i_ x.a,i_ x.b,i_ x.c,i_ x.n] 202;have H0:=q_ (h.call A8);have I0:=h_ (Lc V Y w [i_ x.op,i_ x.a,i_ x.b,i_ x.c,i_ x.n]) (⟨W0,fun hy=>Nat.lt_irrefl _ (h.fr.lt _ hy)⟩);have P0:=q_ ((Pr.refl b (fun j=>j<38) w Y C).below A8);have HX:=q_ hx;have AH:=h.fr.blt (i:=0) rfl;obtain ⟨k,hk,Ag⟩:∃ k:Nat,k<16/\x.a=(k:Int):=⟨x.a.toNat,zk_,zk_⟩;obtain ⟨op,xa,xb,xc,xn⟩:=x;have Ag:xa=(k:Int):=Ag;subst Ag;have hop:op=13:=hop;subst hop;have v0:=W0.2.1 0 _ rfl;have v1:=W0.2.1 1 _ rfl;have AP:(w:Nat)<V:=by omega
 have Az:b<V:=by omega
 clear h A8 Ay W0 hx;go_enter func127,ntmps127;go_upto_region 1 with fail;rw [<-hV];clear hV;have AJ:(k:Int)<16:=by omega
 obtain ⟨rt,r0,_⟩:=H0.o.fr.tru (i:=0) rfl (j:=4+k*2) (an_ k hk).1 (as_ _ o_);obtain ⟨rn,r1,_⟩:=H0.o.fr.num (i:=0) rfl (j:=4+k*2+1) (an_ k hk).2.1 (as_ _ o_);go_cut [4] (fun p wx=>∃ q:Nat,p=.pointer (some (a_ q))/\V<=q/\Hid (Bx wx q [.bool rt,i_ rn])/\Hid (Below V V wx))
 case first =>
  exact cuF
 obtain ⟨q,rfl,hq,hB,A3⟩:=hcut;have H1:=q_ (H0.o.call A3.o);have I1:=q_ (I0.o.up (Up.of_below A3.o));have P1:=q_ (P0.o.below A3.o);have Q1:=h_ (Lc wc Y q [.bool rt,i_ rn]) (⟨hB.o,fun hy=>by have:=H0.o.fr.lt _ hy;omega⟩);have y0:=I1.o.cell (j:=0) rfl;have y1:=I1.o.cell (j:=1) rfl;have y2:=I1.o.cell (j:=2) rfl;have y3:=I1.o.cell (j:=3) rfl;have y4:=I1.o.cell (j:=4) rfl;have AG:b<wc:=lt_ Az A3.o.size;clear v0 v1 r0 r1 hB;obtain ⟨⟨A9,Aa,Ab,Ac⟩,Am⟩:=HX.o.call rfl;have A9:0<=xb:=A9;have Aa:xb<=4:=Aa;have Ab:xb<=xc:=Ab;have Ac:xc<=64:=Ac;have Aw:=h_ (opAt l xn=21) Am;obtain ⟨mb,AL,AC⟩:∃ mb:Nat,mb<=4/\xb=(mb:Int):=⟨xb.toNat,o_,o_⟩;obtain ⟨mc,AM,AD⟩:∃ mc:Nat,mc<=64/\xc=(mc:Int):=⟨xc.toNat,o_,o_⟩;subst AC AD;have AN:mb<=mc:=by omega
 clear A9 Aa Ab Ac Am;obtain ⟨i0,Al,Ao⟩:=Option.map_eq_some_iff.1 infoVa;simp only [Prod.mk.injEq] at Ao;obtain ⟨Ar,Aq,Ak⟩:=Ao;go_wp2_with fail;refine (frame_m wc H1.o hK o_).mono ?_;rintro e W2 ⟨⟨f,fn,rfl⟩,Y2,C2,h2,p2⟩;have H2:=q_ h2;have I2:=q_ (I1.o.up p2.1);have P2:=q_ (P1.o.trans p2 (fun j hj=>by constructor <;> omega));have x3:=h2.fr.cell (i:=0) rfl h2.pcs;have AF:b<W2:=h2.fr.blt (i:=0) rfl;clear h2 p2 y0 y1 y2 y3 y4;go_upto_region 16 with fail;go_cut [11] (fun v wx=>v=.slice (some (a_ W2)) 3 3/\Hid (OwT wx W2 38 valT Y2 (L+20) (some (a_ W2)) 3 3)/\Hid (Below W2 W2 wx))
 case first =>
  go_wp2_with fail;go_meet;exact ⟨rfl,q_ (OwT.vals (w:=W2) (X:=Y2) (K:=L+20) [⟨true,f⟩,⟨false,_⟩,⟨false,0⟩] (fun h=>Nat.lt_irrefl _ (H2.o.fr.lt _ h)) (by unfold maxLen;simp)),q_ ((b_).alloc (l_) _)⟩
 obtain ⟨rfl,hO,A1⟩:=hcut
 rename World=>w3
 have B3:=h_ (Below W2 W2 w3.drew) (Below.drew A1.o);have I3:=q_ (I2.o.up (Up.of_below A1.o));have AA:(C2 b).length=82:=H2.o.fr.len (i:=0) rfl;have F3:=q_ (H2.o.fr.call B3.o);obtain ⟨A4,c4,W4,Ap,O4,g4,l4⟩:=run_append_news (P:=prog) w3.drew W2 88 88 38 i0 _ 16 valT Y2 (L+20) underlying88 Al Ar Aq Ak rfl d_ _ 3 3 (hO.o.below (Below.drew (b_))) (f_ b 4) mb 16 (((C2 b).drop 4).take (mb*2))
  (by rw [List.length_take,List.length_drop,AA];show min (mb*2) (82 - 4)=mb*2;omega)
  (fun j u hu=>by rw [Addr.add_lit];exact (F3.o.box (i:=0) rfl).range 4 (mb*2) j u hu)
  (fun k j t hk hj=>by
   have AI:j<2:=(e_ hj).1
   have A2:k<16:=by omega
   rw [show k*valT.length+j=k*2+j from rfl,List.getElem?_take,if_pos o_,List.getElem?_drop]
   obtain rfl | rfl:j=0\/j=1:=by omega
   ·obtain ⟨bt,_,e1⟩:=F3.o.tru (i:=0) rfl (j:=4+k*2) (an_ k A2).1 (as_ _ o_)
    obtain rfl:CT.tru=t:=by simpa [valT] using hj
    exact ⟨_,e1,.tru _⟩
   obtain ⟨bt,_,e1⟩:=F3.o.num (i:=0) rfl (j:=4+k*2+1) (an_ k A2).2.1 (as_ _ o_)
   obtain rfl:CT.num=t:=by simpa [valT] using hj
   exact ⟨_,e1,.num _⟩)
  (fun u hu=>by
   obtain ⟨j,hj⟩:=List.getElem?_of_mem hu
   rw [List.getElem?_take] at hj
   split at hj
   ·rename_i hlt
    rw [List.getElem?_drop] at hj
    have Ae:∃ t,oneT[4+j]?=some t:=⟨_,ge_ (by show 4+j<82;omega)⟩
    obtain ⟨t,ht⟩:=Ae
    obtain ⟨v,e1,_,e2⟩:=F3.o.get (i:=0) rfl ht (as_ _ o_)
    rw [hj] at e1
    injection e1 with e1
    subst e1
    exact e2.one
   cases hj)
  (fun k hk=>F3.o.lt k hk) m_ o_ (Nat.le_trans A1.o.size (l_))
 have A0:=h_ (Below W2 W2 W4) (B3.o.trans (aj_ g4 (by exact A1.o.size) (fun k hk=>by injection hk with hk;subst hk;exact l_)));have AO:IntKind.i64.wrap ((mc:Int) - (mb:Int))=((mc - mb:Nat):Int):=by rw [IntKind.wrap_i64];omega
 obtain ⟨A5,c5,W5,Af,O5,g5,l5⟩:=run_append_zeros_t (P:=prog) W4.drew W2 88 3 88 38 i0 _ 16 .i64 .i64 valT Y2 (L+20) underlying88 underlying3 Al Ar Aq Ak rfl rfl d_ A4 (3+mb) c4 (O4.below (Below.drew (b_))) (mc - mb) (fun k hk=>(H2.o.fr.call A0.o).lt k hk) m_ o_ A0.o.size;have A6:=h_ (Below W2 W2 W5) ((A0.o.drew).trans (aj_ g5 A0.o.size (fun k hk=>(am_ O4.choose_spec.1 hk).1)));have An:3+mb+(mc - mb)=3+mc:=by omega
 rw [An] at Af O5;clear An;have HS:=q_ (O5.slT (fun k hk=>H2.o.fr.lt k hk) (show 3+mc<=L+20 by omega));have H5:=q_ (H2.o.call A6.o);have I5:=q_ (I2.o.up (Up.of_below A6.o));have P5:=q_ (P2.o.below A6.o);obtain ⟨nx,Ah,A7⟩:=H5.o.fr.num (i:=0) rfl (j:=37) rfl rfl;obtain ⟨oA,on,oc,AE,_,_⟩:=H5.o.fr.slc (i:=0) rfl (j:=74) (e:=objT) rfl rfl;have fb:=H5.o.fr.fz (i:=0) rfl;have Ad:b<W5:=H5.o.fr.blt (i:=0) rfl;have I4:=I2.o.up (Up.of_below A0.o);have Ai:=(H2.o.fr.call A0.o).cell (i:=0) rfl A7;have z2:=I3.o.cell (j:=2) rfl;have y2:=I4.cell (j:=2) rfl;have y3:=I4.cell (j:=3) rfl;have q2:=I5.o.cell (j:=2) rfl;have q3:=I5.o.cell (j:=3) rfl;have AB:(mb:Int)<=16:=by omega
 have As:=q_ A7;clear hO A1 O4 g4 l4 O5 g5 l5 I4 A7 x3;have hA:=H5.o.call ((Below.refl W5 W5).alloc (l_) (.cells #[i_ nx,.slice A5 (3+mc) c5] 90));have Aj:=SlT.lit1 (w:=W5) (X:=Y2) (K:=L+20) (e:=objT) (vs:=[i_ nx,.slice A5 (3+mc) c5]) (VTs.cons (.num _) (VTs.cons HS.o.vt VTs.nil)) 90 (fun h=>Nat.lt_irrefl _ (H5.o.fr.lt _ h)) o_;obtain ⟨h6,p6⟩:=(hA.raise (L':=L+20) o_).set (j:=74) (t:=.sl objT) rfl rfl d_ Aj.vt (fun hm=>ci_ hm ze_ ze_ ze_);have P6:=(P5.o.below ((Below.refl W5 W5).alloc (l_) (.cells #[i_ nx,.slice A5 (3+mc) c5] 90))).trans p6 (fun j hj=>o_);have E6:=p6.2.2 37 d_;have I6:=I5.o.up ((Up.of_below ((Below.refl W5 W5).alloc (l_) (.cells #[i_ nx,.slice A5 (3+mc) c5] 90))).trans p6.1);rw [World.setCell_alloc_past _ _ _ _ Ad] at h6 P6 I6;obtain ⟨U,hU⟩:=ex_ ((W5.setCell (f_ b 74) (.slice (some (a_ W5)) 1 1)).alloc (.cells #[i_ nx,.slice A5 (3+mc) c5] 90));rw [<-hU] at h6 P6 I6;have H6:=q_ h6;have Ax:=q_ P6;have Av:=q_ I6;have Au:=q_ (E6.trans As.o);clear hA Aj h6 p6 P6 E6 I6;go_upto_region 17 with fail;go_region_law (refine step_append_run rfl (.tmp 129) (.tmp 136) 88 88 rfl _ _ _ v_ v_ Ap ?_);all_goals
  clear Ap z2;go_upto_region 18 with fail;go_region_law (refine step_append_run rfl (.tmp 143) (.tmp 148) 88 3 rfl _ _ _ v_ v_ Af ?_);all_goals
   rw [<-hU];clear hU Af Ah Ai AE fb y2 y3 q2 q3;have Ah:=H6.o.fr.cell (i:=0) rfl Au.o;go_wp2_with fail;refine (ea_ U H6.o o_ 1 0 ⟨true,nx⟩).mono ?_;rintro e W7 ⟨rfl,Y7,C7,h7,p7⟩;have AK:(C7 b).length=82:=h7.fr.len (i:=0) rfl;have I7:=Av.o.up p7.1;have P7:=q_ (Ax.o.trans p7 (fun j hj=>by show j≠73;omega));have y4:=I7.cell (j:=4) rfl;obtain ⟨AR,AQ,_⟩:=h7.fr.num (i:=0) rfl (j:=39) rfl rfl;have fb:=h7.fr.fz (i:=0) rfl;obtain ⟨h8,p8⟩:=(h7.raise (L':=L+20+1) o_).set (j:=39) (t:=.num) (v:=i_ xn) rfl rfl d_ (.num _) (fun _=>mv_mark zy_ Aw.o);have H8:=q_ h8;have P8:=q_ (P7.o.trans p8 (fun j hj=>by show j≠39;omega));clear h7 p7 h8 p8 I7 Ah;go_wp2;exact u5_
theorem rest_result {X Z Y:NP} {w0:World} {LL:List LV} {b K L:Nat} {l:List In} {pc:Int} {C:Nat->VL} (w:World) (h:OneS X Z w0 LL b K L l pc Y C w) (hK:K<=1000000000) (hL:100<=L/\L<=9000) (i:Nat) (x:In) (hpc:pc=(i:Int)) (hx:OkI l i x) (hop:x.op=15) :
  Calls prog 127 #[.pointer (some (a_ b)),.agg #[i_ x.op,i_ x.a,i_ x.b,i_ x.c,i_ x.n]] w fun e w'=>e=.returned (.tuple #[])/\Ms X Z w0 LL b K (L+30) l pc Y C w w' (fun j=>j<38):=by
 subst hpc;obtain ⟨V,hV,A6,Aj,W0⟩:=af_ w [i_ x.op,i_ x.a,i_ x.b,i_ x.c,i_ x.n] 202;have H0:=q_ (h.call A6);have I0:=h_ (Lc V Y w [i_ x.op,i_ x.a,i_ x.b,i_ x.c,i_ x.n]) (⟨W0,fun hy=>Nat.lt_irrefl _ (h.fr.lt _ hy)⟩);have P0:=q_ ((Pr.refl b (fun j=>j<38) w Y C).below A6);have HX:=q_ hx;have Au:=h.fr.blt (i:=0) rfl;obtain ⟨k,hk,A7⟩:∃ k:Nat,k<16/\x.a=(k:Int):=⟨x.a.toNat,zk_,zk_⟩;obtain ⟨op,xa,xb,xc,xn⟩:=x;have A7:xa=(k:Int):=A7;subst A7;have hop:op=15:=hop;subst hop;have v0:=W0.2.1 0 _ rfl;have v1:=W0.2.1 1 _ rfl;have Az:(w:Nat)<V:=by omega
 have Ak:b<V:=by omega
 clear h A6 Aj W0 hx;go_enter func127,ntmps127;go_upto_region 1 with fail;rw [<-hV];clear hV;have Av:(k:Int)<16:=by omega
 obtain ⟨rt,r0,_⟩:=H0.o.fr.tru (i:=0) rfl (j:=4+k*2) (an_ k hk).1 (as_ _ o_);obtain ⟨rn,r1,_⟩:=H0.o.fr.num (i:=0) rfl (j:=4+k*2+1) (an_ k hk).2.1 (as_ _ o_);go_cut [4] (fun p wx=>∃ q:Nat,p=.pointer (some (a_ q))/\V<=q/\Hid (Bx wx q [.bool rt,i_ rn])/\Hid (Below V V wx))
 case first =>
  exact cuF
 obtain ⟨q,rfl,hq,hB,A2⟩:=hcut;have H1:=q_ (H0.o.call A2.o);have I1:=q_ (I0.o.up (Up.of_below A2.o));have P1:=q_ (P0.o.below A2.o);have Q1:=h_ (Lc wc Y q [.bool rt,i_ rn]) (⟨hB.o,fun hy=>by have:=H0.o.fr.lt _ hy;omega⟩);have y0:=I1.o.cell (j:=0) rfl;have y1:=I1.o.cell (j:=1) rfl;have y2:=I1.o.cell (j:=2) rfl;have y3:=I1.o.cell (j:=3) rfl;have y4:=I1.o.cell (j:=4) rfl;have As:b<wc:=lt_ Ak A2.o.size;clear v0 v1 r0 r1 hB;go_wp2_with fail;refine (root_m wc H1.o hK).mono ?_;rintro e W2 ⟨rfl,Y2,C2,h2,p2⟩;have H2:=q_ h2;have I2:=q_ (I1.o.up p2.1);have P2:=q_ (P1.o.trans p2 (fun j hj=>by show j≠81;omega));obtain ⟨bk,Al,_⟩:=h2.fr.tru (i:=0) rfl (j:=81) rfl rfl;clear h2 p2 y0 y1 y2 y3 y4;cases bk
 case true =>
  exact ua_
 have KS:=h_ (∀ w',Below W2 W2 w'->(w'.cell? (a_ w)=some (i_ 15)/\w'.cell? (f_ w 1)=some (i_ (k:Int)))) (fun w' hb=>⟨(I2.o.up (Up.of_below hb)).cell rfl,(I2.o.up (Up.of_below hb)).cell rfl⟩);have Ay:=@run_makeMap prog;have Ag:K<=1000000000:=hK;have A5:IntMap ((W2.alloc (.map #[] 0)).drew) W2 0:=IntMap.made W2.drew;have BM:=h_ (Below W2 W2 ((W2.alloc (.map #[] 0)).drew)) ((Below.drew (b_)).alloc (l_) _);obtain ⟨Am,Ao,A8,Ac⟩:=A5.put (k:=15) (v:=1) m_ d_ d_;obtain ⟨Ah,Ap,A9,Ad⟩:=A8.put (k:=18) (v:=2) m_ d_ d_;obtain ⟨lA,Aw⟩:=A9.look (k:=15) d_;have A3:=q_ (BM.o.trans (aj_ Ac t_ (fun k hk=>by injection hk with hk;omega)));have A0:=q_ (A3.o.trans (aj_ Ad A3.o.size (fun k hk=>by injection hk with hk;omega)));clear A8 A9 Ac Ad;obtain ⟨An,Aq,Aa,Ae⟩:=A5.put (k:=18) (v:=2) m_ d_ d_;obtain ⟨Ai,Ar,Ab,Af⟩:=Aa.put (k:=15) (v:=1) m_ d_ d_;obtain ⟨lB,Ax⟩:=Ab.look (k:=15) d_;have A4:=q_ (BM.o.trans (aj_ Ae t_ (fun k hk=>by injection hk with hk;omega)));have A1:=q_ (A4.o.trans (aj_ Af A4.o.size (fun k hk=>by injection hk with hk;omega)));clear Aa Ab Ae Af;clear A5;go_upto_region 37 with fail;clear Al;refine aq_ (S:=fun w':World=>w'.cell? (a_ w)=some (i_ 15)/\w'.cell? (f_ w 1)=some (i_ (k:Int))) rfl (KS.o _ (Below.drew (b_))) (fun _=>?_);go_simp;refine aa_ 0 253 ?_;refine aa_ 1 254 ?_;refine aa_ 2 255 ?_;refine aa_ 3 256 ?_;refine aa_ 8 259 ?_;refine aa_ 9 260 ?_;refine aa_ 12 263 ?_;refine aa_ 13 264 ?_;refine aa_ 14 265 ?_;refine aa_ 15 266 ?_;refine ba_ 4 k_ rfl (fun K hK=>?_);go_simp;refine hK.out _ _ (KS.o _ BM.o) (fun _=>?_);try simp only [Act.put,sA,s0,s1]
 refine wpAnyH_ready (rs:=[5,6]) k_ t_ (AllReadyH.cons rfl (fun K hK=>?_) (AllReadyH.cons rfl (fun K hK=>?_) AllReadyH.nil))
 ·go_simp;refine hK.out _ _ (KS.o _ A3.o) (fun _=>?_);refine bc_ 6 fun K hK=>?_
  go_simp;refine hK.out _ _ (KS.o _ A0.o) (fun _=>?_);refine aa_ 7 258 ?_;refine ba_ 10 k_ rfl (fun K hK=>?_);go_simp;refine hK.out _ _ (KS.o _ A0.o) (fun _=>?_);refine bc_ 11 fun K hK=>?_
  go_simp;go_at_call 124;refine (ds_ Ah (H2.o.call A0.o) Ag o_ 1 lA).mono ?_;rintro e W3 ⟨⟨v,rfl⟩,Y3,C3,h3,p3⟩;have H3:=q_ h3;have P3:=q_ ((P2.o.below A0.o).trans p3 (fun j hj=>⟨o_,o_⟩));have I3:=q_ ((I2.o.up (Up.of_below A0.o)).up p3.1);clear h3 p3;obtain ⟨ut,r0,_⟩:=H3.o.fr.tru (i:=0) rfl (j:=40+k*2) (an_ k hk).2.2.1 (as_ _ o_);obtain ⟨un,r1,_⟩:=H3.o.fr.num (i:=0) rfl (j:=40+k*2+1) (an_ k hk).2.2.2 (as_ _ o_);have fb:=H3.o.fr.fz (i:=0) rfl;refine hK.out _ _ ⟨I3.o.cell rfl,I3.o.cell rfl⟩ (fun _=>?_);refine bc_ 16 fun K hK=>?_
  go_simp;refine hK.out _ _ ⟨I3.o.cell rfl,I3.o.cell rfl⟩ (fun _=>?_);refine bc_ 17 fun K hK=>?_
  go_simp;obtain ⟨Y4,C4,h5,p5⟩:=H3.o.setReg hk v;have H5:=q_ h5;have P5:=q_ (P3.o.trans p5 (fun j hj=>.inl o_));have I5:=q_ (I3.o.up p5.1);clear h5 p5;refine hK.out _ _ ⟨I5.o.cell rfl,I5.o.cell rfl⟩ (fun _=>?_);try simp only [Act.put,sA,s0,s1]
  exact vx_
 go_simp;refine hK.out _ _ (KS.o _ A4.o) (fun _=>?_);refine bc_ 5 fun K hK=>?_
 go_simp;refine hK.out _ _ (KS.o _ A1.o) (fun _=>?_);refine aa_ 7 258 ?_;refine ba_ 10 k_ rfl (fun K hK=>?_);go_simp;refine hK.out _ _ (KS.o _ A1.o) (fun _=>?_);refine bc_ 11 fun K hK=>?_
 go_simp;go_at_call 124;refine (ds_ Ai (H2.o.call A1.o) Ag o_ 1 lB).mono ?_;rintro e W3 ⟨⟨v,rfl⟩,Y3,C3,h3,p3⟩;have H3:=q_ h3;have P3:=q_ ((P2.o.below A1.o).trans p3 (fun j hj=>⟨o_,o_⟩));have I3:=q_ ((I2.o.up (Up.of_below A1.o)).up p3.1);clear h3 p3;obtain ⟨ut,r0,_⟩:=H3.o.fr.tru (i:=0) rfl (j:=40+k*2) (an_ k hk).2.2.1 (as_ _ o_);obtain ⟨un,r1,_⟩:=H3.o.fr.num (i:=0) rfl (j:=40+k*2+1) (an_ k hk).2.2.2 (as_ _ o_);have fb:=H3.o.fr.fz (i:=0) rfl;refine hK.out _ _ ⟨I3.o.cell rfl,I3.o.cell rfl⟩ (fun _=>?_);refine bc_ 16 fun K hK=>?_
 go_simp;refine hK.out _ _ ⟨I3.o.cell rfl,I3.o.cell rfl⟩ (fun _=>?_);refine bc_ 17 fun K hK=>?_
 go_simp;obtain ⟨Y4,C4,h5,p5⟩:=H3.o.setReg hk v;have H5:=q_ h5;have P5:=q_ (P3.o.trans p5 (fun j hj=>.inl o_));have I5:=q_ (I3.o.up p5.1);clear h5 p5;refine hK.out _ _ ⟨I5.o.cell rfl,I5.o.cell rfl⟩ (fun _=>?_);try simp only [Act.put,sA,s0,s1]
 exact vx_
theorem rest_handler {X Z Y:NP} {w0:World} {LL:List LV} {b K L:Nat} {l:List In} {pc:Int} {C:Nat->VL} (w:World) (h:OneS X Z w0 LL b K L l pc Y C w) (hK:K<=1000000000) (hL:100<=L/\L<=9000) (i:Nat) (x:In) (hpc:pc=(i:Int)) (hx:OkI l i x) (hop:x.op=17) :
  Calls prog 127 #[.pointer (some (a_ b)),.agg #[i_ x.op,i_ x.a,i_ x.b,i_ x.c,i_ x.n]] w fun e w'=>e=.returned (.tuple #[])/\Ms X Z w0 LL b K (L+30) l pc Y C w w' (fun j=>j<38):=by
 subst hpc;obtain ⟨V,hV,A1,A3,W0⟩:=af_ w [i_ x.op,i_ x.a,i_ x.b,i_ x.c,i_ x.n] 202;have H0:=q_ (h.call A1);have I0:=h_ (Lc V Y w [i_ x.op,i_ x.a,i_ x.b,i_ x.c,i_ x.n]) (⟨W0,fun hy=>Nat.lt_irrefl _ (h.fr.lt _ hy)⟩);have P0:=q_ ((Pr.refl b (fun j=>j<38) w Y C).below A1);have HX:=q_ hx;have A6:=h.fr.blt (i:=0) rfl;obtain ⟨k,hk,A2⟩:∃ k:Nat,k<16/\x.a=(k:Int):=⟨x.a.toNat,zk_,zk_⟩;obtain ⟨op,xa,xb,xc,xn⟩:=x;have A2:xa=(k:Int):=A2;subst A2;have hop:op=17:=hop;subst hop;have v0:=W0.2.1 0 _ rfl;have v1:=W0.2.1 1 _ rfl;have A8:(w:Nat)<V:=by omega
 have A4:b<V:=by omega
 clear h A1 A3 W0 hx;go_enter func127,ntmps127;go_upto_region 1 with fail;rw [<-hV];clear hV;have A7:(k:Int)<16:=by omega
 obtain ⟨rt,r0,_⟩:=H0.o.fr.tru (i:=0) rfl (j:=4+k*2) (an_ k hk).1 (as_ _ o_);obtain ⟨rn,r1,_⟩:=H0.o.fr.num (i:=0) rfl (j:=4+k*2+1) (an_ k hk).2.1 (as_ _ o_);go_cut [4] (fun p wx=>∃ q:Nat,p=.pointer (some (a_ q))/\V<=q/\Hid (Bx wx q [.bool rt,i_ rn])/\Hid (Below V V wx))
 case first =>
  exact cuF
 obtain ⟨q,rfl,hq,hB,A0⟩:=hcut;have H1:=q_ (H0.o.call A0.o);have I1:=q_ (I0.o.up (Up.of_below A0.o));have P1:=q_ (P0.o.below A0.o);have Q1:=h_ (Lc wc Y q [.bool rt,i_ rn]) (⟨hB.o,fun hy=>by have:=H0.o.fr.lt _ hy;omega⟩);have y0:=I1.o.cell (j:=0) rfl;have y1:=I1.o.cell (j:=1) rfl;have y2:=I1.o.cell (j:=2) rfl;have y3:=I1.o.cell (j:=3) rfl;have y4:=I1.o.cell (j:=4) rfl;have A5:b<wc:=lt_ A4 A0.o.size;clear v0 v1 r0 r1 hB;go_wp2_with (go_at_call 171;refine (frame_m wc H1.o hK o_).mono ?_;rintro e W2 ⟨⟨f,fn,rfl⟩,Y2,C2,h2,p2⟩;have H2:=q_ h2;have I2:=q_ (I1.o.up p2.1);have P2:=q_ (P1.o.trans p2 (fun j hj=>by constructor <;> omega));have z4:=I2.o.cell (j:=4) rfl;clear h2 p2 y0 y1 y2 y3 y4);refine (ea_ W2 H2.o o_ f 2 ⟨false,xn⟩).mono ?_;rintro e W3 ⟨rfl,hM⟩;have HM:=q_ hM;clear hM;go_wp2;exact uu_
theorem rest_none {X Z Y:NP} {w0:World} {LL:List LV} {b K L:Nat} {l:List In} {pc:Int} {C:Nat->VL} (w:World) (h:OneS X Z w0 LL b K L l pc Y C w) (hK:K<=1000000000) (hL:100<=L/\L<=9000) (i:Nat) (x:In) (hpc:pc=(i:Int)) (hx:OkI l i x) (hop:x.op≠5/\x.op≠6/\x.op≠7/\x.op≠13/\x.op≠14/\x.op≠15/\x.op≠18/\x.op≠17) :
  Calls prog 127 #[.pointer (some (a_ b)),.agg #[i_ x.op,i_ x.a,i_ x.b,i_ x.c,i_ x.n]] w fun e w'=>e=.returned (.tuple #[])/\Ms X Z w0 LL b K (L+30) l pc Y C w w' (fun j=>j<38):=by
 subst hpc;obtain ⟨V,hV,A1,A8,W0⟩:=af_ w [i_ x.op,i_ x.a,i_ x.b,i_ x.c,i_ x.n] 202;have H0:=q_ (h.call A1);have I0:=h_ (Lc V Y w [i_ x.op,i_ x.a,i_ x.b,i_ x.c,i_ x.n]) (⟨W0,fun hy=>Nat.lt_irrefl _ (h.fr.lt _ hy)⟩);have P0:=q_ ((Pr.refl b (fun j=>j<38) w Y C).below A1);have HX:=q_ hx;have Ab:=h.fr.blt (i:=0) rfl;obtain ⟨k,hk,A2⟩:∃ k:Nat,k<16/\x.a=(k:Int):=⟨x.a.toNat,zk_,zk_⟩;obtain ⟨op,xa,xb,xc,xn⟩:=x;have A2:xa=(k:Int):=A2;subst A2;have v0:=W0.2.1 0 _ rfl;have v1:=W0.2.1 1 _ rfl;have Ad:(w:Nat)<V:=by omega
 have A9:b<V:=by omega
 clear h A1 A8 W0 hx;go_enter func127,ntmps127;go_upto_region 1 with fail;rw [<-hV];clear hV;have Ac:(k:Int)<16:=by omega
 obtain ⟨rt,r0,_⟩:=H0.o.fr.tru (i:=0) rfl (j:=4+k*2) (an_ k hk).1 (as_ _ o_);obtain ⟨rn,r1,_⟩:=H0.o.fr.num (i:=0) rfl (j:=4+k*2+1) (an_ k hk).2.1 (as_ _ o_);go_cut [4] (fun p wx=>∃ q:Nat,p=.pointer (some (a_ q))/\V<=q/\Hid (Bx wx q [.bool rt,i_ rn])/\Hid (Below V V wx))
 case first =>
  exact cuF
 obtain ⟨q,rfl,hq,hB,A0⟩:=hcut;have H1:=q_ (H0.o.call A0.o);have I1:=q_ (I0.o.up (Up.of_below A0.o));have P1:=q_ (P0.o.below A0.o);have Q1:=h_ (Lc wc Y q [.bool rt,i_ rn]) (⟨hB.o,fun hy=>by have:=H0.o.fr.lt _ hy;omega⟩);have y0:=I1.o.cell (j:=0) rfl;have y1:=I1.o.cell (j:=1) rfl;have y2:=I1.o.cell (j:=2) rfl;have y3:=I1.o.cell (j:=3) rfl;have y4:=I1.o.cell (j:=4) rfl;have Aa:b<wc:=lt_ A9 A0.o.size;clear v0 v1 r0 r1 hB;obtain ⟨h5,h6,h7,A3,A4,A5,A7,A6⟩:=hop;have h5:op≠5:=h5;have h6:op≠6:=h6;have h7:op≠7:=h7;have A3:op≠13:=A3;have A4:op≠14:=A4;have A5:op≠15:=A5;have A7:op≠18:=A7;have A6:op≠17:=A6;go_wp2;refine end0 za_ rfl ?_;exact ⟨rfl,P1.o.ms (H1.o.raise o_)⟩
theorem rest_caught {X Z Y:NP} {w0:World} {LL:List LV} {b K L:Nat} {l:List In} {pc:Int} {C:Nat->VL} (w:World) (h:OneS X Z w0 LL b K L l pc Y C w) (hK:K<=1000000000) (hL:100<=L/\L<=9000) (i:Nat) (x:In) (hpc:pc=(i:Int)) (hx:OkI l i x) (hop:x.op=18) :
  Calls prog 127 #[.pointer (some (a_ b)),.agg #[i_ x.op,i_ x.a,i_ x.b,i_ x.c,i_ x.n]] w fun e w'=>e=.returned (.tuple #[])/\Ms X Z w0 LL b K (L+30) l pc Y C w w' (fun j=>j<38):=by
 subst hpc;obtain ⟨V,hV,A6,Aj,W0⟩:=af_ w [i_ x.op,i_ x.a,i_ x.b,i_ x.c,i_ x.n] 202;have H0:=q_ (h.call A6);have I0:=h_ (Lc V Y w [i_ x.op,i_ x.a,i_ x.b,i_ x.c,i_ x.n]) (⟨W0,fun hy=>Nat.lt_irrefl _ (h.fr.lt _ hy)⟩);have P0:=q_ ((Pr.refl b (fun j=>j<38) w Y C).below A6);have HX:=q_ hx;have Au:=h.fr.blt (i:=0) rfl;obtain ⟨k,hk,A7⟩:∃ k:Nat,k<16/\x.a=(k:Int):=⟨x.a.toNat,zk_,zk_⟩;obtain ⟨op,xa,xb,xc,xn⟩:=x;have A7:xa=(k:Int):=A7;subst A7;have hop:op=18:=hop;subst hop;have v0:=W0.2.1 0 _ rfl;have v1:=W0.2.1 1 _ rfl;have Az:(w:Nat)<V:=by omega
 have Ak:b<V:=by omega
 clear h A6 Aj W0 hx;go_enter func127,ntmps127;go_upto_region 1 with fail;rw [<-hV];clear hV;have Av:(k:Int)<16:=by omega
 obtain ⟨rt,r0,_⟩:=H0.o.fr.tru (i:=0) rfl (j:=4+k*2) (an_ k hk).1 (as_ _ o_);obtain ⟨rn,r1,_⟩:=H0.o.fr.num (i:=0) rfl (j:=4+k*2+1) (an_ k hk).2.1 (as_ _ o_);go_cut [4] (fun p wx=>∃ q:Nat,p=.pointer (some (a_ q))/\V<=q/\Hid (Bx wx q [.bool rt,i_ rn])/\Hid (Below V V wx))
 case first =>
  exact cuF
 obtain ⟨q,rfl,hq,hB,A2⟩:=hcut;have H1:=q_ (H0.o.call A2.o);have I1:=q_ (I0.o.up (Up.of_below A2.o));have P1:=q_ (P0.o.below A2.o);have Q1:=h_ (Lc wc Y q [.bool rt,i_ rn]) (⟨hB.o,fun hy=>by have:=H0.o.fr.lt _ hy;omega⟩);have y0:=I1.o.cell (j:=0) rfl;have y1:=I1.o.cell (j:=1) rfl;have y2:=I1.o.cell (j:=2) rfl;have y3:=I1.o.cell (j:=3) rfl;have y4:=I1.o.cell (j:=4) rfl;have As:b<wc:=lt_ Ak A2.o.size;clear v0 v1 r0 r1 hB;go_wp2_with fail;refine (root_m wc H1.o hK).mono ?_;rintro e W2 ⟨rfl,Y2,C2,h2,p2⟩;have H2:=q_ h2;have I2:=q_ (I1.o.up p2.1);have P2:=q_ (P1.o.trans p2 (fun j hj=>by show j≠81;omega));obtain ⟨bk,Al,_⟩:=h2.fr.tru (i:=0) rfl (j:=81) rfl rfl;clear h2 p2 y0 y1 y2 y3 y4;cases bk
 case true =>
  exact ua_
 have KS:=h_ (∀ w',Below W2 W2 w'->(w'.cell? (a_ w)=some (i_ 18)/\w'.cell? (f_ w 1)=some (i_ (k:Int)))) (fun w' hb=>⟨(I2.o.up (Up.of_below hb)).cell rfl,(I2.o.up (Up.of_below hb)).cell rfl⟩);have Ay:=@run_makeMap prog;have Ag:K<=1000000000:=hK;have A5:IntMap ((W2.alloc (.map #[] 0)).drew) W2 0:=IntMap.made W2.drew;have BM:=h_ (Below W2 W2 ((W2.alloc (.map #[] 0)).drew)) ((Below.drew (b_)).alloc (l_) _);obtain ⟨Am,Ao,A8,Ac⟩:=A5.put (k:=15) (v:=1) m_ d_ d_;obtain ⟨Ah,Ap,A9,Ad⟩:=A8.put (k:=18) (v:=2) m_ d_ d_;obtain ⟨lA,Aw⟩:=A9.look (k:=18) d_;have A3:=q_ (BM.o.trans (aj_ Ac t_ (fun k hk=>by injection hk with hk;omega)));have A0:=q_ (A3.o.trans (aj_ Ad A3.o.size (fun k hk=>by injection hk with hk;omega)));clear A8 A9 Ac Ad;obtain ⟨An,Aq,Aa,Ae⟩:=A5.put (k:=18) (v:=2) m_ d_ d_;obtain ⟨Ai,Ar,Ab,Af⟩:=Aa.put (k:=15) (v:=1) m_ d_ d_;obtain ⟨lB,Ax⟩:=Ab.look (k:=18) d_;have A4:=q_ (BM.o.trans (aj_ Ae t_ (fun k hk=>by injection hk with hk;omega)));have A1:=q_ (A4.o.trans (aj_ Af A4.o.size (fun k hk=>by injection hk with hk;omega)));clear Aa Ab Ae Af;clear A5;go_upto_region 37 with fail;clear Al;refine aq_ (S:=fun w':World=>w'.cell? (a_ w)=some (i_ 18)/\w'.cell? (f_ w 1)=some (i_ (k:Int))) rfl (KS.o _ (Below.drew (b_))) (fun _=>?_);go_simp;refine aa_ 0 253 ?_;refine aa_ 1 254 ?_;refine aa_ 2 255 ?_;refine aa_ 3 256 ?_;refine aa_ 8 259 ?_;refine aa_ 9 260 ?_;refine aa_ 12 263 ?_;refine aa_ 13 264 ?_;refine aa_ 14 265 ?_;refine aa_ 15 266 ?_;refine ba_ 4 k_ rfl (fun K hK=>?_);go_simp;refine hK.out _ _ (KS.o _ BM.o) (fun _=>?_);try simp only [Act.put,sA,s0,s1]
 refine wpAnyH_ready (rs:=[5,6]) k_ t_ (AllReadyH.cons rfl (fun K hK=>?_) (AllReadyH.cons rfl (fun K hK=>?_) AllReadyH.nil))
 ·go_simp;refine hK.out _ _ (KS.o _ A3.o) (fun _=>?_);refine bc_ 6 fun K hK=>?_
  go_simp;refine hK.out _ _ (KS.o _ A0.o) (fun _=>?_);refine aa_ 7 258 ?_;refine ba_ 10 k_ rfl (fun K hK=>?_);go_simp;refine hK.out _ _ (KS.o _ A0.o) (fun _=>?_);refine bc_ 11 fun K hK=>?_
  go_simp;go_at_call 124;refine (ds_ Ah (H2.o.call A0.o) Ag o_ 1 lA).mono ?_;rintro e W3 ⟨⟨v,rfl⟩,Y3,C3,h3,p3⟩;have H3:=q_ h3;have P3:=q_ ((P2.o.below A0.o).trans p3 (fun j hj=>⟨o_,o_⟩));have I3:=q_ ((I2.o.up (Up.of_below A0.o)).up p3.1);clear h3 p3;obtain ⟨ut,r0,_⟩:=H3.o.fr.tru (i:=0) rfl (j:=40+k*2) (an_ k hk).2.2.1 (as_ _ o_);obtain ⟨un,r1,_⟩:=H3.o.fr.num (i:=0) rfl (j:=40+k*2+1) (an_ k hk).2.2.2 (as_ _ o_);have fb:=H3.o.fr.fz (i:=0) rfl;refine hK.out _ _ ⟨I3.o.cell rfl,I3.o.cell rfl⟩ (fun _=>?_);refine bc_ 16 fun K hK=>?_
  go_simp;refine hK.out _ _ ⟨I3.o.cell rfl,I3.o.cell rfl⟩ (fun _=>?_);refine bc_ 17 fun K hK=>?_
  go_simp;obtain ⟨Y4,C4,h5,p5⟩:=H3.o.setReg hk v;have H5:=q_ h5;have P5:=q_ (P3.o.trans p5 (fun j hj=>.inl o_));have I5:=q_ (I3.o.up p5.1);clear h5 p5;refine hK.out _ _ ⟨I5.o.cell rfl,I5.o.cell rfl⟩ (fun _=>?_);try simp only [Act.put,sA,s0,s1]
  exact vx_
 go_simp;refine hK.out _ _ (KS.o _ A4.o) (fun _=>?_);refine bc_ 5 fun K hK=>?_
 go_simp;refine hK.out _ _ (KS.o _ A1.o) (fun _=>?_);refine aa_ 7 258 ?_;refine ba_ 10 k_ rfl (fun K hK=>?_);go_simp;refine hK.out _ _ (KS.o _ A1.o) (fun _=>?_);refine bc_ 11 fun K hK=>?_
 go_simp;go_at_call 124;refine (ds_ Ai (H2.o.call A1.o) Ag o_ 1 lB).mono ?_;rintro e W3 ⟨⟨v,rfl⟩,Y3,C3,h3,p3⟩;have H3:=q_ h3;have P3:=q_ ((P2.o.below A1.o).trans p3 (fun j hj=>⟨o_,o_⟩));have I3:=q_ ((I2.o.up (Up.of_below A1.o)).up p3.1);clear h3 p3;obtain ⟨ut,r0,_⟩:=H3.o.fr.tru (i:=0) rfl (j:=40+k*2) (an_ k hk).2.2.1 (as_ _ o_);obtain ⟨un,r1,_⟩:=H3.o.fr.num (i:=0) rfl (j:=40+k*2+1) (an_ k hk).2.2.2 (as_ _ o_);have fb:=H3.o.fr.fz (i:=0) rfl;refine hK.out _ _ ⟨I3.o.cell rfl,I3.o.cell rfl⟩ (fun _=>?_);refine bc_ 16 fun K hK=>?_
 go_simp;refine hK.out _ _ ⟨I3.o.cell rfl,I3.o.cell rfl⟩ (fun _=>?_);refine bc_ 17 fun K hK=>?_
 go_simp;obtain ⟨Y4,C4,h5,p5⟩:=H3.o.setReg hk v;have H5:=q_ h5;have P5:=q_ (P3.o.trans p5 (fun j hj=>.inl o_));have I5:=q_ (I3.o.up p5.1);clear h5 p5;refine hK.out _ _ ⟨I5.o.cell rfl,I5.o.cell rfl⟩ (fun _=>?_);try simp only [Act.put,sA,s0,s1]
 exact vx_
end Go.Proofs.YtfolidlmgfhkiaaGreat
