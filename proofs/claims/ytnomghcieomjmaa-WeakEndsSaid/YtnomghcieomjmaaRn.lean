/- A run: the walk. -/
import Derived.Test.YtnomghcieomjmaaU
import Derived.Test.YtnomghcieomjmaaW
namespace Go.Proofs.Ytnomghcieomjmaa
open Go.RowKit

/-- What a run gives. -/
def GivesRun (r : ((Nat → Int) × List Pt) × Nat × Int) (w : World) (e : Ending) (w' : World) : Prop := ∃ A n c ts, e = .returned (.tuple #[stVal r.1.1 A n c, .int .i64 r.2.1, .int .i64 r.2.2]) ∧ Okay w' A n c ts ∧ ts.map Tr.pt = r.1.2 ∧ Below w.heap.size w w'
theorem run_step {m : Int} {ths : List (List POp)} {mem : Nat → Int} {ts : List Pt} {v : Mv} {l : List Mv} (h : v ∈ movesP m ths ts) : runF m ths mem ts (v :: l) = ((runF m ths (stepF m ths mem ts v).1 (stepF m ths mem ts v).2 l).1, (runF m ths (stepF m ths mem ts v).1 (stepF m ths mem ts v).2 l).2.1 + 1, (runF m ths (stepF m ths mem ts v).1 (stepF m ths mem ts v).2 l).2.2) := by
  rw [runF, if_pos h]
theorem run_stop {m : Int} {ths : List (List POp)} {mem : Nat → Int} {ts : List Pt} {v : Mv} {l : List Mv} (h : ¬ v ∈ movesP m ths ts) : runF m ths mem ts (v :: l) = ((mem, ts), 0, 7) := by
  rw [runF, if_neg h]

/-- A state's blocks are not that of a variable. -/
def Off (A : Option Addr) (n : Nat) (ts : List Tr) (b : Nat) : Prop := (0 < n → ∀ ad, A = some ad → ad.block ≠ b) ∧ (∀ t ∈ ts, 0 < t.n → ∀ ad, t.A = some ad → ad.block ≠ b)
theorem Off.of_lows {A : Option Addr} {n : Nat} {ts : List Tr} {B b : Nat} (h1 : ∀ ad, A = some ad → B ≤ ad.block) (h2 : ∀ t ∈ ts, ∀ ad, t.A = some ad → B ≤ ad.block) (h : b < B) : Off A n ts b :=
  ⟨fun _ ad e => by have := h1 ad e; omega, fun t ht _ ad e => by have := h2 t ht ad e; omega⟩
theorem Off.of_new {A : Option Addr} {n B E b : Nat} (h : ∀ ad, A = some ad → B ≤ ad.block ∧ ad.block < E) (hb : b < B ∨ E ≤ b) : Off A n (List.replicate n tr0) b :=
  ⟨fun _ ad e => by have := h ad e; omega, fun t ht h0 => by rw [List.eq_of_mem_replicate ht] at h0; exact absurd h0 (Nat.lt_irrefl 0)⟩
theorem Okay.off {w : World} {A : Option Addr} {n c b : Nat} {ts : List Tr} (h : Okay w A n c ts) (hb : w.heap.size ≤ b) : Off A n ts b := by
  refine ⟨fun h0 ad e => ?_, fun t ht h0 ad e => ?_⟩
  · obtain ⟨ab, ao, e2, hlt, _⟩ := h.s.sl.at_ h0
    rw [e] at e2; injection e2 with e2; subst e2; simp only; omega
  · obtain ⟨ab, ao, e2, hlt, _⟩ := (h.s.q t ht).at_ h0
    rw [e] at e2; injection e2 with e2; subst e2; simp only; omega
theorem Okay.put {w w' : World} {A : Option Addr} {n c b : Nat} {ts : List Tr} (h : Okay w A n c ts) (ho : Off A n ts b) (hg : w.grownBy w' (some b)) : Okay w' A n c ts :=
  ⟨⟨(h.s.sl.grown (Nat.le_refl _) hg (fun h0 ad e e2 => by injection e2 with e2; exact ho.1 h0 ad e e2.symm)).mono hg.size, fun t ht => ((h.s.q t ht).grown (Nat.le_refl _) hg (fun h0 ad e e2 => by injection e2 with e2; exact ho.2 t ht h0 ad e e2.symm)).mono hg.size⟩, h.r, h.i, h.c1, h.c2, h.n3⟩
theorem pts_new (n : Nat) : (List.replicate n tr0).map Tr.pt = List.replicate n pt0 := by rw [List.map_replicate]; rfl
/-- What is left of a run. -/
def RunAt (m : Int) (ths : List (List POp)) (ms : List Mv) (n k : Nat) (mem : Nat → Int) (pts : List Pt) : Prop :=
  runF m ths mem0 (List.replicate n pt0) ms = ((runF m ths mem pts (ms.drop k)).1, (runF m ths mem pts (ms.drop k)).2.1 + k, (runF m ths mem pts (ms.drop k)).2.2)
theorem RunAt.start (m : Int) (ths : List (List POp)) (ms : List Mv) (n : Nat) : RunAt m ths ms n 0 mem0 (List.replicate n pt0) := rfl
theorem RunAt.next {m : Int} {ths : List (List POp)} {ms : List Mv} {n k : Nat} {mem : Nat → Int} {pts : List Pt} {v : Mv} (h : RunAt m ths ms n k mem pts) (hv : ms[k]? = some v) (hm : v ∈ movesP m ths pts) : RunAt m ths ms n (k + 1) (stepF m ths mem pts v).1 (stepF m ths mem pts v).2 := by
  unfold RunAt at *
  obtain ⟨hk, e⟩ := List.getElem?_eq_some_iff.1 hv
  rw [h, List.drop_eq_getElem_cons hk, e, run_step hm]
  simp only [Nat.add_assoc, Nat.add_comm 1]
theorem RunAt.stop {m : Int} {ths : List (List POp)} {ms : List Mv} {n k : Nat} {mem : Nat → Int} {pts : List Pt} {v : Mv} (h : RunAt m ths ms n k mem pts) (hv : ms[k]? = some v) (hm : ¬ v ∈ movesP m ths pts) : runF m ths mem0 (List.replicate n pt0) ms = ((mem, pts), k, 7) := by
  unfold RunAt at h
  obtain ⟨hk, e⟩ := List.getElem?_eq_some_iff.1 hv
  rw [h, List.drop_eq_getElem_cons hk, e, run_stop hm]
  simp
theorem RunAt.end_ {m : Int} {ths : List (List POp)} {ms : List Mv} {n k : Nat} {mem : Nat → Int} {pts : List Pt} (h : RunAt m ths ms n k mem pts) (hk : ms.length ≤ k) : runF m ths mem0 (List.replicate n pt0) ms = ((mem, pts), k, 0) := by
  unfold RunAt at h
  rw [h, List.drop_eq_nil_of_le hk, runF]
  simp

theorem results_st3 {fn : Func} {p u x : Tmp} {tmps : Array Value} {w : World} {b n c : Nat} {mem : Nat → Int} {A : Option Addr} (hf : fn.results = #[.cell p 31, .tmp u, .tmp x]) (hp : tmps.getD p undef = .pointer (some ⟨b, 0, none⟩)) (h : StAt w b mem A n c) :
    (results fn tmps).run Try.prog w = .ok (.tuple #[stVal mem A n c, tmps.getD u undef, tmps.getD x undef]) w := by
  have h1 := run_loadVar_mid (P := Try.prog) w b 0 31 (stCells mem A n c) _ h.at_ Try.underlying31 rfl st_agg
  have hp' : tmps[p]?.getD undef = .pointer (some ⟨b, 0, none⟩) := by simpa using hp
  simp [results, hf, hp', asAddr, Result.andThen, h1, stCells]
set_option maxRecDepth 100000 in
set_option maxHeartbeats 4000000 in
theorem run_any (m : Int) (A : Option Addr) (n c : Nat) (l : List Th) (MA : Option Addr) (mn mc : Nat) (ms : List Mv) (w : World)
    (hT : Ths w w.heap.size A n l) (hn : n ≤ 9000000000000) (hm : ∀ t ∈ l, t.n ≤ 9000000000000) (hro : Rooms l) (hval : validT (l.map Th.s) = true) (hM : Sl w w.heap.size 3 Mv.cells MA mn ms) (hmn : mn ≤ 1000) :
    Calls Try.prog 27 #[.int .i64 m, .slice A n c, .slice MA mn mc] w (GivesRun (runF m (l.map Th.s) mem0 (List.replicate n pt0) ms) w) := by
  have HT := Lib.hid hT
  have HRO := Lib.hid hro
  have HM := Lib.hid hm
  have HVAL := Lib.hid hval
  have HMS := Lib.hid hM
  have HML := Lib.hid hM.len
  clear hT hro hm hval hM
  obtain ⟨W0, hW0⟩ : ∃ W0, W0 = w.alloc (.cells #[.int .i64 0, .int .i64 0, .int .i64 0, .int .i64 0, .slice none 0 0] 31) := ⟨_, rfl⟩
  have hb0 : Below w.heap.size w W0 := by rw [hW0]; exact (by repeat (first | (with_reducible exact (Below.refl _ _)) | (with_reducible refine Below.drew ?_) | (with_reducible refine below_drewN ?_ _) | (with_reducible refine Below.setCell ?_ ?_ _; rotate_left; (first | omega | (simp <;> omega))) | (with_reducible refine Below.alloc ?_ ?_ _; rotate_left; (first | omega | (simp <;> omega)))))
  have hz0 : w.heap.size + 1 ≤ W0.heap.size := by rw [hW0]; simp
  have K6 := Lib.hid (show StAt W0 w.heap.size (fun _ => 0) none 0 0 from by rw [hW0]; exact StAt.new w (fun _ => 0) none 0 0)
  go_enter Try.func27, Try.ntmps27
  go_upto_region 1 with fail
  rw [← hW0]
  have HW0 := Lib.hid hW0
  clear hW0
  go_upto_region 2 with (first | (go_at_call 11; refine (new_ok A n c l W0 (HT.out.up hb0) hn HM.out HVAL.out).mono ?_; rintro e Y ⟨A1, c1, rfl, hok1, hbY, hl1⟩; have HOK1 := Lib.hid hok1; have HL1 := Lib.hid hl1; clear hok1 hl1; have KZ := Lib.hid (StAt.new Y (fun _ => 0) none 0 0)) | (with_reducible refine wpList_store_st rfl (.tmp 9) (.tmp 18) rfl (mem := mem0) (A := A1) (n := n) (c := c1) (by simp [Act.eval]) (by simp [Act.eval]) KZ.out ?_; intro W1 hst hgr; have HST := Lib.hid hst; have HGR := Lib.hid hgr; clear hst hgr))
  obtain ⟨YA, hYA⟩ : ∃ YA, YA = Y.alloc (.cells #[.int .i64 0, .int .i64 0, .int .i64 0, .int .i64 0, .slice none 0 0] 31) := ⟨_, rfl⟩
  have hbYA : Below Y.heap.size Y YA := by rw [hYA]; exact (by repeat (first | (with_reducible exact (Below.refl _ _)) | (with_reducible refine Below.drew ?_) | (with_reducible refine below_drewN ?_ _) | (with_reducible refine Below.setCell ?_ ?_ _; rotate_left; (first | omega | (simp <;> omega))) | (with_reducible refine Below.alloc ?_ ?_ _; rotate_left; (first | omega | (simp <;> omega)))))
  have hzYA : YA.heap.size = Y.heap.size + 1 := by rw [hYA]; simp
  have hgr : YA.grownBy W1 (some Y.heap.size) := by rw [hYA]; exact HGR.out
  have hbwY : Below w.heap.size w Y := hb0.trans (hbY.mono hb0.size)
  have hbwA : Below w.heap.size w YA := hbwY.trans (hbYA.mono hbwY.size)
  have hbw1 : Below w.heap.size w W1 := hbwA.grown hgr hbwA.size (fun k e => by cases e; exact hbwY.size)
  have hz1 := hgr.size
  have hzY := hbY.size
  have HOK := Lib.hid ((HOK1.out.up hbYA).put (Off.of_new HL1.out (.inr (Nat.le_refl _))) hgr)
  have HOF := Lib.hid (show Off A1 n (List.replicate n tr0) Y.heap.size ∧ Off A1 n (List.replicate n tr0) w.heap.size from ⟨Off.of_new HL1.out (.inr (Nat.le_refl _)), Off.of_new HL1.out (.inl (by omega))⟩)
  have HK6 := Lib.hid ((((K6.out.below hbY (by omega)).below hbYA (by omega))).grown hgr (by omega) (by intro e; injection e with e; omega))
  clear hgr hYA HGR KZ
  go_upto_region 5 with fail
  go_loopw [26] (fun s wr => ∃ (k : Nat) (mem : Nat → Int) (SA : Option Addr) (sn sc : Nat) (ts : List Tr), k ≤ mn ∧ s = .int .i64 k ∧ Hid (RunAt m (l.map Th.s) ms n k mem (ts.map Tr.pt)) ∧ Hid (StAt wr Y.heap.size mem SA sn sc) ∧ Hid (Okay wr SA sn sc ts) ∧ Hid (Off SA sn ts Y.heap.size ∧ Off SA sn ts w.heap.size) ∧ Hid (StAt wr w.heap.size (fun _ => 0) none 0 0) ∧ Y.heap.size + 1 ≤ wr.heap.size ∧ Below w.heap.size w wr) (fun s _ => mn - (intOf s).toNat)
  case atStart => exact ⟨0, mem0, A1, n, c1, List.replicate n tr0, Nat.zero_le _, rfl, Lib.hid (by rw [pts_new]; exact RunAt.start ..), HST, HOK, HOF, HK6, by omega, hbw1⟩
  case round =>
    obtain ⟨k, mem, SA, sn, sc, ts, hk, rfl, hrun, hst, hok, hof, hk6, hzr, hbr⟩ := hrel
    have hbsz := hbr.size
    by_cases hlt : k < mn
    · obtain ⟨v, hv⟩ : ∃ v, ms[k]? = some v := ⟨_, List.getElem?_eq_getElem (by rw [HML.out]; exact hlt)⟩
      have hltI : (k : Int) < (mn : Int) := by omega
      obtain ⟨ab, ao, rfl, hlo, hat⟩ := (HMS.out.up hbr).at_ (by omega)
      have m0 : wr.cell? ⟨ab, ao + k * 3, none⟩ = some (.int .i64 v.thread) := by have := hat k v hv 0 _ rfl; simpa using this
      have m1 : wr.cell? ⟨ab, ao + k * 3 + 1, none⟩ = some (.int .i64 v.op) := hat k v hv 1 _ rfl
      have m2 : wr.cell? ⟨ab, ao + k * 3 + 2, none⟩ = some (.int .i64 v.store) := hat k v hv 2 _ rfl
      have HV := Lib.hid hv
      clear hv hat
      obtain ⟨X, hX⟩ : ∃ X, X = wr.alloc (.cells #[.int .i64 v.thread, .int .i64 v.op, .int .i64 v.store] 41) := ⟨_, rfl⟩
      have hbX : Below wr.heap.size wr X := by rw [hX]; exact (by repeat (first | (with_reducible exact (Below.refl _ _)) | (with_reducible refine Below.drew ?_) | (with_reducible refine below_drewN ?_ _) | (with_reducible refine Below.setCell ?_ ?_ _; rotate_left; (first | omega | (simp <;> omega))) | (with_reducible refine Below.alloc ?_ ?_ _; rotate_left; (first | omega | (simp <;> omega)))))
      have hzX : wr.heap.size + 1 ≤ X.heap.size := by rw [hX]; simp
      have hbwX : Below w.heap.size w X := hbr.trans (hbX.mono hbr.size)
      have x0 : X.cell? ⟨wr.heap.size, 0, none⟩ = some (.int .i64 v.thread) := (by rw [hX, cell_new _ _ _ _ _ (by simp <;> omega)]; rfl)
      have x1 : X.cell? ⟨wr.heap.size, 1, none⟩ = some (.int .i64 v.op) := (by rw [hX, cell_new _ _ _ _ _ (by simp <;> omega)]; rfl)
      have x2 : X.cell? ⟨wr.heap.size, 2, none⟩ = some (.int .i64 v.store) := (by rw [hX, cell_new _ _ _ _ _ (by simp <;> omega)]; rfl)
      have hstX := Lib.hid (hst.out.below hbX (by omega))
      have hokX := Lib.hid (hok.out.up hbX)
      go_upto_region 7 with fail
      rw [← hX]
      have HX := Lib.hid hX
      clear hX m0 m1 m2
      by_cases hmv : v ∈ movesP m (l.map Th.s) (ts.map Tr.pt)
      · have HMV := Lib.hid hmv
        clear hmv
        go_upto_region 8 with (first | (with_reducible refine wpList_load_st rfl (.tmp 9) rfl (by simp [Act.eval, Act.put]) hstX.out ?_) | (go_at_call 15; refine (do_ok m A n c l mem SA sn sc ts v X (HT.out.up hbwX) hn HM.out HRO.out hokX.out HVAL.out HMV.out).mono ?_; rintro e Z ⟨A2, n2, c2, ts2, rfl, hok2, hpt2, hbZ, hl1, hl2⟩; have HOK2 := Lib.hid hok2; have HPT2 := Lib.hid hpt2; have HL1 := Lib.hid hl1; have HL2 := Lib.hid hl2; clear hok2 hpt2 hl1 hl2; have KZ2 := Lib.hid (StAt.new Z (fun _ => 0) none 0 0)) | (with_reducible refine wpList_store_st rfl (.tmp 13) (.tmp 37) rfl (mem := (stepF m (l.map Th.s) mem (ts.map Tr.pt) v).1) (A := A2) (n := n2) (c := c2) (by simp [Act.eval]) (by simp [Act.eval]) KZ2.out ?_; intro Z1 hst2 hgr2; have HST2 := Lib.hid hst2; have HGR2 := Lib.hid hgr2; clear hst2 hgr2))
        obtain ⟨ZA, hZA⟩ : ∃ ZA, ZA = Z.alloc (.cells #[.int .i64 0, .int .i64 0, .int .i64 0, .int .i64 0, .slice none 0 0] 31) := ⟨_, rfl⟩
        have hbZA : Below Z.heap.size Z ZA := by rw [hZA]; exact (by repeat (first | (with_reducible exact (Below.refl _ _)) | (with_reducible refine Below.drew ?_) | (with_reducible refine below_drewN ?_ _) | (with_reducible refine Below.setCell ?_ ?_ _; rotate_left; (first | omega | (simp <;> omega))) | (with_reducible refine Below.alloc ?_ ?_ _; rotate_left; (first | omega | (simp <;> omega)))))
        have hzZA : ZA.heap.size = Z.heap.size + 1 := by rw [hZA]; simp
        have hgr2 : ZA.grownBy Z1 (some Z.heap.size) := by rw [hZA]; exact HGR2.out
        have hbwZ : Below w.heap.size w Z := hbwX.trans (hbZ.mono hbwX.size)
        have hbwZA : Below w.heap.size w ZA := hbwZ.trans (hbZA.mono hbwZ.size)
        have hbwZ1 : Below w.heap.size w Z1 := hbwZA.grown hgr2 hbwZA.size (fun k e => by cases e; exact hbwZ.size)
        have hz2 := hgr2.size
        have hzZ := hbZ.size
        have hzX2 := hbX.size
        have HOKZ := Lib.hid ((HOK2.out.up hbZA).put (HOK2.out.off (Nat.le_refl _)) hgr2)
        have HS9 := Lib.hid ((((hstX.out.below hbZ (by omega)).below hbZA (by omega))).grown hgr2 (by omega) (by intro e; injection e with e; omega))
        have HS6 := Lib.hid (((((hk6.out.below hbX (by omega)).below hbZ (by omega)).below hbZA (by omega))).grown hgr2 (by omega) (by intro e; injection e with e; omega))
        clear hgr2 hZA HGR2 KZ2
        go_wp2_with (first | (with_reducible refine wpList_load_st rfl (.tmp 13) rfl (by simp [Act.eval, Act.put]) HST2.out ?_) | (with_reducible refine wpList_store_st rfl (.tmp 9) (.tmp 44) rfl (mem := (stepF m (l.map Th.s) mem (ts.map Tr.pt) v).1) (A := A2) (n := n2) (c := c2) (by simp [Act.eval, Act.put]) (by simp [Act.eval, Act.put]) HS9.out ?_; intro Z2 hst3 hgr3; have HST3 := Lib.hid hst3; have HGR3 := Lib.hid hgr3; clear hst3 hgr3))
        have hz3 := HGR3.out.size
        go_roundw
        case rel => exact ⟨k + 1, (stepF m (l.map Th.s) mem (ts.map Tr.pt) v).1, A2, n2, c2, ts2, by omega, by go_num, Lib.hid (by rw [HPT2.out]; exact hrun.out.next HV.out HMV.out), HST3, Lib.hid (HOKZ.out.put (Off.of_lows HL1.out HL2.out (by omega)) HGR3.out), Lib.hid ⟨Off.of_lows HL1.out HL2.out (by omega), Off.of_lows HL1.out HL2.out (by omega)⟩, Lib.hid (HS6.out.grown HGR3.out (by omega) (by intro e; injection e with e; omega)), by omega, hbwZ1.grown HGR3.out hbwZ1.size (fun k e => by cases e; exact hbwY.size)⟩
        case measure => simp [intOf]; omega
      · have HMV := Lib.hid hmv
        clear hmv
        go_upto_region 8 with (first | (with_reducible refine wpList_load_st rfl (.tmp 9) rfl (by simp [Act.eval, Act.put]) hstX.out ?_) | (go_at_call 15; refine (do_bad m A n c l mem SA sn sc ts v X (HT.out.up hbwX) hn HM.out HRO.out hokX.out HVAL.out HMV.out).mono ?_; rintro e Z ⟨A2, n2, c2, ts2, rfl, _, _, _, hbZ, _⟩; have KZ2 := Lib.hid (StAt.new Z (fun _ => 0) none 0 0)) | (with_reducible refine wpList_store_st rfl (.tmp 13) (.tmp 37) rfl (mem := mem0) (A := A2) (n := n2) (c := c2) (by simp [Act.eval]) (by simp [Act.eval]) KZ2.out ?_; intro Z1 hst2 hgr2; have HST2 := Lib.hid hst2; have HGR2 := Lib.hid hgr2; clear hst2 hgr2))
        obtain ⟨ZA, hZA⟩ : ∃ ZA, ZA = Z.alloc (.cells #[.int .i64 0, .int .i64 0, .int .i64 0, .int .i64 0, .slice none 0 0] 31) := ⟨_, rfl⟩
        have hbZA : Below Z.heap.size Z ZA := by rw [hZA]; exact (by repeat (first | (with_reducible exact (Below.refl _ _)) | (with_reducible refine Below.drew ?_) | (with_reducible refine below_drewN ?_ _) | (with_reducible refine Below.setCell ?_ ?_ _; rotate_left; (first | omega | (simp <;> omega))) | (with_reducible refine Below.alloc ?_ ?_ _; rotate_left; (first | omega | (simp <;> omega)))))
        have hzZA : ZA.heap.size = Z.heap.size + 1 := by rw [hZA]; simp
        have hgr2 : ZA.grownBy Z1 (some Z.heap.size) := by rw [hZA]; exact HGR2.out
        have hbwZ : Below w.heap.size w Z := hbwX.trans (hbZ.mono hbwX.size)
        have hbwZA : Below w.heap.size w ZA := hbwZ.trans (hbZA.mono hbwZ.size)
        have hbwZ1 : Below w.heap.size w Z1 := hbwZA.grown hgr2 hbwZA.size (fun k e => by cases e; exact hbwZ.size)
        have hz2 := hgr2.size
        have hzZ := hbZ.size
        have hzX2 := hbX.size
        have HOKZ := Lib.hid (((hokX.out.up hbZ).up hbZA).put ((hokX.out.up hbZ).off (Nat.le_refl _)) hgr2)
        have HS9 := Lib.hid ((((hstX.out.below hbZ (by omega)).below hbZA (by omega))).grown hgr2 (by omega) (by intro e; injection e with e; omega))
        have HS6 := Lib.hid (((((hk6.out.below hbX (by omega)).below hbZ (by omega)).below hbZA (by omega))).grown hgr2 (by omega) (by intro e; injection e with e; omega))
        have hv := Lib.hid (hrun.out.stop HV.out HMV.out)
        clear hgr2 hZA HGR2 KZ2
        go_wp2_with (first | (with_reducible refine wpList_load_st rfl (.tmp 9) rfl (by simp [Act.eval]) HS9.out ?_) | (with_reducible refine wpList_store_st rfl (.tmp 6) (.tmp 41) rfl (mem := mem) (A := SA) (n := sn) (c := sc) (by simp [Act.eval]) (by simp [Act.eval]) HS6.out ?_; intro Z2 hst3 hgr3; have HST3 := Lib.hid hst3; have HGR3 := Lib.hid hgr3; clear hst3 hgr3))
        refine bodyPost_ret (results_st3 rfl rfl HST3.out) rfl ?_
        exact ⟨SA, sn, sc, ts, by rw [hv.out]; rfl, HOKZ.out.put hof.out.2 HGR3.out, by rw [hv.out], hbwZ1.grown HGR3.out hbwZ1.size (fun k e => by cases e; exact Nat.le_refl _)⟩
    · obtain rfl : k = mn := by omega
      have hv := Lib.hid (hrun.out.end_ (by rw [HML.out]; exact Nat.le_refl _))
      go_wp2_with (first | (with_reducible refine wpList_load_st rfl (.tmp 9) rfl (by simp [Act.eval]) hst.out ?_) | (with_reducible refine wpList_store_st rfl (.tmp 6) (.tmp 46) rfl (mem := mem) (A := SA) (n := sn) (c := sc) (by simp [Act.eval]) (by simp [Act.eval]) hk6.out ?_; intro Z2 hst3 hgr3; have HST3 := Lib.hid hst3; have HGR3 := Lib.hid hgr3; clear hst3 hgr3))
      refine bodyPost_ret (results_st3 rfl rfl HST3.out) rfl ?_
      exact ⟨SA, sn, sc, ts, by rw [hv.out]; rfl, hok.out.put hof.out.2 HGR3.out, by rw [hv.out], hbr.grown HGR3.out hbr.size (fun k e => by cases e; exact Nat.le_refl _)⟩
end Go.Proofs.Ytnomghcieomjmaa
