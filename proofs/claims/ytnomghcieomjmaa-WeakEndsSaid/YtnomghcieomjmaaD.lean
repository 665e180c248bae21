/- Threads that are valid. -/
import Derived.Test.YtnomghcieomjmaaC
import Derived.Deep.LoopGhost
import Derived.Deep.RegionWith
namespace Go.Proofs.Ytnomghcieomjmaa
open Go.RowKit

/-- A thread's operations in memory. -/
structure Th where
  A : Option Addr
  n : Nat
  c : Nat
  s : List POp
def Th.cells (t : Th) : List Value := [.slice t.A t.n t.c]
theorem POp.size (o : POp) : o.cells.length = 5 := rfl
theorem Th.size (t : Th) : t.cells.length = 1 := rfl
/-- Threads below block B. -/
structure Ths (w : World) (B : Nat) (A : Option Addr) (n : Nat) (l : List Th) : Prop where
  sl : Sl w B 1 Th.cells A n l
  ths : ∀ t ∈ l, Sl w B 5 POp.cells t.A t.n t.s
theorem Ths.up {w w' : World} {A : Option Addr} {n : Nat} {l : List Th} (h : Ths w w.heap.size A n l) (hb : Below w.heap.size w w') : Ths w' w'.heap.size A n l := ⟨h.sl.up hb, fun t ht => (h.ths t ht).up hb⟩

/-- Whether the operations of a thread are valid, some registers being used. -/
def scanB : List Int → List POp → Bool
  | _, [] => true
  | u, o :: l => formedB o && !(shR o.kind && u.contains o.reg) && scanB (if shR o.kind then o.reg :: u else u) l
def threadB (l : List POp) : Bool := decide (l.length ≤ 8) && scanB [] l
def validT (l : List (List POp)) : Bool := decide (1 ≤ l.length ∧ l.length ≤ 3) && l.all threadB

theorem look1 {w : World} {b cl : Nat} (hb : w.heap[b]? = some (.map shapeL.toArray cl)) (k : Int) :
    (Instr.lookup 82 (.map (some b)) (.int .i64 k) false).run Try.prog w = .ok (.agg #[.bool (shW k), .bool (shN k), .bool (shM k), .bool (shR k)]) w := by
  have h0 := look_shape k
  have h1 := MapKept.run_findKey (w := w) Try.underlying3 (find_shape k)
  have h2 : (Instr.checkKey shapeL.isEmpty 10000 3 (.int .i64 k)).run Try.prog w = .ok () w := MapKept.run_checkKey (w := w) Try.underlying3 (k := .int .i64 k) (by rfl) shapeL.isEmpty 9999
  cases hk : atShape k with
  | none => rw [hk] at h1 h0; simp [Instr.lookup, run_underlying Try.underlying82, MapKept.run_getObj_map hb, h1, h2, Result.andThen]; have h3 := h0.1; simp [shp] at h3; exact h3
  | some x => rw [hk] at h1 h0; simp [Instr.lookup, run_underlying Try.underlying82, MapKept.run_getObj_map hb, h1, h2, Result.andThen]; exact h0.1
theorem reg_of_formed {o : POp} (h : formedB o = true) : 0 ≤ o.reg ∧ o.reg ≤ 7 := by
  unfold formedB at h
  simp only [Bool.and_eq_true] at h
  have h1 := h.2
  unfold fitsB at h1
  simp only [Bool.or_eq_true, Bool.and_eq_true, decide_eq_true_eq] at h1
  omega

set_option maxRecDepth 100000 in
set_option maxHeartbeats 4000000 in
theorem valid_any (A : Option Addr) (n c : Nat) (l : List Th) (w : World) (hs : Ths w w.heap.size A n l) (hn : n ≤ 9000000000000) (hm : ∀ t ∈ l, t.n ≤ 9000000000000) :
    Calls Try.prog 20 #[.slice A n c] w fun e w' => e = .returned (.bool (validT (l.map Th.s))) ∧ Below w.heap.size w w' := by
  have HL := Lib.hid hs.sl.len
  have HS := Lib.hid hs
  have hif : ∀ (a b c d : Bool) (w : World), (Instr.field 81 (.agg #[.bool a, .bool b, .bool c, .bool d]) 3).run Try.prog w = .ok (.bool d) w := fun a b c d w => by kernel_rfl
  clear hs
  by_cases h1 : n < 1
  · have hv := Lib.hid (show validT (l.map Th.s) = false from by unfold validT; rw [List.length_map, HL.out, decide_eq_false (by omega)]; rfl)
    obtain rfl : n = 0 := by omega
    go_enter Try.func20, Try.ntmps20
    go_wp2
    go_ret
    exact ⟨by rw [hv.out]; rfl, Below.refl _ _⟩
  · by_cases h3 : 3 < n
    · have hv := Lib.hid (show validT (l.map Th.s) = false from by unfold validT; rw [List.length_map, HL.out, decide_eq_false (by omega)]; rfl)
      have h1I : ¬ (n : Int) < 1 := by omega
      have h3I : (3 : Int) < (n : Int) := by omega
      go_enter Try.func20, Try.ntmps20
      go_wp2
      go_ret
      exact ⟨by rw [hv.out]; rfl, Below.refl _ _⟩
    · have hv := Lib.hid (show validT (l.map Th.s) = (l.map Th.s).all threadB from by unfold validT; rw [List.length_map, HL.out, decide_eq_true (by omega), Bool.true_and])
      have h1I : ¬ (n : Int) < 1 := by omega
      have h3I : ¬ (3 : Int) < (n : Int) := by omega
      go_enter Try.func20, Try.ntmps20
      go_wp2_with fail
      go_loopw [18] (fun i wr => ∃ k : Nat, k ≤ n ∧ i = .int .i64 k ∧ Hid (∀ (i : Nat) (x : Th), i < k → l[i]? = some x → threadB x.s = true) ∧ Below w.heap.size w wr) (fun i _ => n - (intOf i).toNat)
      case atStart => exact ⟨0, Nat.zero_le _, rfl, Lib.hid (fun i x h => absurd h (by omega)), Below.refl _ _⟩
      case round =>
        obtain ⟨k, hk, rfl, hok, hb⟩ := hrel
        have hzz := hb.size
        by_cases hlt : k < n
        · obtain ⟨ab, ao, rfl, hlo, hat⟩ := HS.out.sl.at_ (by omega)
          obtain ⟨x, hx⟩ : ∃ x, l[k]? = some x := ⟨_, List.getElem?_eq_getElem (by rw [HL.out]; exact hlt)⟩
          have c0 : wr.cell? ⟨ab, ao + k, none⟩ = some (.slice x.A x.n x.c) := (belc hb hlo).trans (by have := hat k x hx 0 _ rfl; simpa using this)
          have HX := Lib.hid hx
          have hxn := hm x (List.mem_of_getElem? hx)
          have SX := Lib.hid (HS.out.ths x (List.mem_of_getElem? hx))
          have hltI : (k : Int) < (n : Int) := by omega
          clear hat hx
          by_cases h8 : 8 < x.n
          · have hall := Lib.hid (show (l.map Th.s).all threadB = false from by
              rw [List.all_eq_false]
              exact ⟨x.s, List.mem_map.2 ⟨x, List.mem_of_getElem? HX.out, rfl⟩, by unfold threadB; rw [SX.out.len, decide_eq_false (by omega)]; simp⟩)
            have h8I : (8 : Int) < (x.n : Int) := by omega
            go_wp2
            go_ret
            exact ⟨by rw [hv.out, hall.out]; rfl, hb⟩
          · have h8I : ¬ (8 : Int) < (x.n : Int) := by omega
            go_wp2_with fail
            obtain ⟨W1, hW1⟩ : ∃ W1, W1 = wr.alloc (.cells #[.bool false, .bool false, .bool false, .bool false, .bool false, .bool false, .bool false, .bool false] 43) := ⟨_, rfl⟩
            have hbW : Below wr.heap.size wr W1 := by rw [hW1]; exact (by repeat (first | (with_reducible exact (Below.refl _ _)) | (with_reducible refine Below.drew ?_) | (with_reducible refine below_drewN ?_ _) | (with_reducible refine Below.setCell ?_ ?_ _; rotate_left; (first | omega | (simp <;> omega))) | (with_reducible refine Below.alloc ?_ ?_ _; rotate_left; (first | omega | (simp <;> omega)))))
            have hzW : wr.heap.size + 1 ≤ W1.heap.size := by rw [hW1]; simp
            have hu := Lib.hid (show ∀ q : Nat, q < 8 → W1.cell? ⟨wr.heap.size, q, none⟩ = some (.bool (([] : List Int).contains (q : Int))) from fun q hq => by
              rw [hW1, cell_new _ _ _ _ _ rfl]
              match q, hq with
              | 0, _ => rfl
              | 1, _ => rfl
              | 2, _ => rfl
              | 3, _ => rfl
              | 4, _ => rfl
              | 5, _ => rfl
              | 6, _ => rfl
              | 7, _ => rfl)
            have hfz := Lib.hid (show ∀ q : Nat, W1.frozen? ⟨wr.heap.size, q, none⟩ = false from fun q => by rw [hW1, frozen_new _ _ _ _ _ rfl])
            have hbw1 : Below w.heap.size w W1 := hb.trans (hbW.mono hzz)
            rw [← hW1]
            have HW1 := Lib.hid hW1
            clear hW1
            obtain ⟨r0, hr0⟩ : ∃ r0, r0 = wr.heap.size := ⟨_, rfl⟩
            rw [← hr0] at hu hfz hzW ⊢
            have hwr0 : w.heap.size ≤ r0 := by omega
            clear hr0
            go_loopw [27] (fun i wq => ∃ (j : Nat) (us : List Int), j ≤ x.n ∧ i = .int .i64 j ∧ Hid (scanB [] x.s = scanB us (x.s.drop j)) ∧ Hid (∀ q : Nat, q < 8 → wq.cell? ⟨r0, q, none⟩ = some (.bool (us.contains (q : Int)))) ∧ Hid (∀ q : Nat, wq.frozen? ⟨r0, q, none⟩ = false) ∧ r0 + 1 ≤ wq.heap.size ∧ Below w.heap.size w wq) (fun i _ => x.n - (intOf i).toNat)
            case atStart => exact ⟨0, [], Nat.zero_le _, rfl, Lib.hid rfl, hu, hfz, hzW, hbw1⟩
            case round =>
              obtain ⟨j, us, hj, rfl, hsc, hus, hfs, hzq, hbq⟩ := hrel
              rename World => wq
              by_cases hltj : j < x.n
              · obtain ⟨fb, fo, hfA, hflo, hfat⟩ := SX.out.at_ (by omega)
                obtain ⟨op, hop⟩ : ∃ op, x.s[j]? = some op := ⟨_, List.getElem?_eq_getElem (by rw [SX.out.len]; exact hltj)⟩
                have HDROP := Lib.hid (show x.s.drop j = op :: x.s.drop (j + 1) from (List.getElem_cons_drop (by rw [SX.out.len]; exact hltj)).symm.trans (by rw [(List.getElem?_eq_some_iff.1 hop).2]))
                have k0 : wq.cell? ⟨fb, fo + j * 5, none⟩ = some (.int .i64 op.kind) := (belc hbq hflo).trans (hfat j op hop 0 _ rfl)
                have k1 : wq.cell? ⟨fb, fo + j * 5 + 1, none⟩ = some (.int .i64 op.word) := (belc hbq hflo).trans (hfat j op hop 1 _ rfl)
                have k2 : wq.cell? ⟨fb, fo + j * 5 + 2, none⟩ = some (.int .i64 op.n) := (belc hbq hflo).trans (hfat j op hop 2 _ rfl)
                have k3 : wq.cell? ⟨fb, fo + j * 5 + 3, none⟩ = some (.int .i64 op.m) := (belc hbq hflo).trans (hfat j op hop 3 _ rfl)
                have k4 : wq.cell? ⟨fb, fo + j * 5 + 4, none⟩ = some (.int .i64 op.reg) := (belc hbq hflo).trans (hfat j op hop 4 _ rfl)
                obtain ⟨kd, wd, nn, mm, rg⟩ := op
                simp only at k0 k1 k2 k3 k4
                rw [hfA]
                have HFA := Lib.hid hfA
                have HOP := Lib.hid hop
                have hltjI : (j : Int) < (x.n : Int) := by omega
                clear hfat hop hfA
                obtain ⟨X, hX⟩ : ∃ X, X = wq.alloc (.cells #[.int .i64 kd, .int .i64 wd, .int .i64 nn, .int .i64 mm, .int .i64 rg] 51) := ⟨_, rfl⟩
                have hbX : Below wq.heap.size wq X := by rw [hX]; exact (by repeat (first | (with_reducible exact (Below.refl _ _)) | (with_reducible refine Below.drew ?_) | (with_reducible refine below_drewN ?_ _) | (with_reducible refine Below.setCell ?_ ?_ _; rotate_left; (first | omega | (simp <;> omega))) | (with_reducible refine Below.alloc ?_ ?_ _; rotate_left; (first | omega | (simp <;> omega)))))
                have hzX : wq.heap.size + 1 ≤ X.heap.size := by rw [hX]; simp
                have hbwX : Below w.heap.size w X := hbq.trans (hbX.mono hbq.size)
                have KS := Lib.hid (show ∀ w', Below X.heap.size X w' → (fun w' : World => w'.cell? ⟨wq.heap.size, 0, none⟩ = some (.int .i64 kd) ∧ w'.cell? ⟨wq.heap.size, 1, none⟩ = some (.int .i64 wd) ∧ w'.cell? ⟨wq.heap.size, 2, none⟩ = some (.int .i64 nn) ∧ w'.cell? ⟨wq.heap.size, 3, none⟩ = some (.int .i64 mm) ∧ w'.cell? ⟨wq.heap.size, 4, none⟩ = some (.int .i64 rg)) w' from fun w' hb => ⟨(belc hb (by omega)).trans (by rw [hX, cell_new _ _ _ _ _ rfl]; rfl), (belc hb (by omega)).trans (by rw [hX, cell_new _ _ _ _ _ rfl]; rfl), (belc hb (by omega)).trans (by rw [hX, cell_new _ _ _ _ _ rfl]; rfl), (belc hb (by omega)).trans (by rw [hX, cell_new _ _ _ _ _ rfl]; rfl), (belc hb (by omega)).trans (by rw [hX, cell_new _ _ _ _ _ rfl]; rfl)⟩)
                have KU := Lib.hid (show ∀ w', Below X.heap.size X w' → ∀ q : Nat, q < 8 → w'.cell? ⟨r0, q, none⟩ = some (.bool (us.contains (q : Int))) from fun w' hb q hq => (belc hb (by omega)).trans ((belc hbX (by omega)).trans (hus.out q hq)))
                have KF := Lib.hid (show ∀ w', Below X.heap.size X w' → ∀ q : Nat, w'.frozen? ⟨r0, q, none⟩ = false from fun w' hb q => (belf hb (by omega)).trans ((belf hbX (by omega)).trans (hfs.out q)))
                have BD := Lib.hid (Below.drew (Below.refl X.heap.size X))
                go_upto_region 12 with fail
                rw [← hX]
                have HX2 := Lib.hid hX
                clear hX k0 k1 k2 k3 k4
                have hun : Go.yielded.match_1 (fun _ => Option Bool) (some undef) (fun b => some b) (fun _ => none) = none := rfl
                go_cut [46] (fun s46 wx => s46 = .bool (!formedB ⟨kd, wd, nn, mm, rg⟩ || (shR kd && us.contains rg)) ∧ Below X.heap.size X wx)
                case first =>
                  cases hff : formedB ⟨kd, wd, nn, mm, rg⟩ with
                  | false =>
                    have HFF := Lib.hid hff
                    clear hff
                    obtain ⟨m0, m1, m2, m3, m4⟩ := KS.out X (Below.refl _ _)
                    first
                      | (go_region_with (go_at_call 39; refine (formed_any ⟨kd, wd, nn, mm, rg⟩ _).mono ?_; rintro e Y ⟨rfl, hY⟩; rw [HFF.out]; have hXY : Below X.heap.size X Y := Below.trans BD.out (hY.mono (Below.size BD.out))))
                      | fail
                    all_goals
                      simp only [Act.put, List.getElem_toArray, List.getElem_cons_zero, List.getElem_cons_succ, List.setIfInBounds_toArray, List.set_cons_zero, List.set_cons_succ]
                      go_wp2
                      go_meet
                      exact ⟨by rw [HFF.out]; simp, hXY⟩
                  | true =>
                    have HFF := Lib.hid hff
                    obtain ⟨hr0', hr1⟩ := reg_of_formed hff
                    clear hff
                    obtain ⟨q, rfl⟩ : ∃ q : Nat, rg = q := ⟨rg.toNat, by simp only at hr0'; omega⟩
                    have hq8 : q < 8 := by simp only at hr1; omega
                    have hqI : (q : Int) < 8 := by omega
                    clear hr0' hr1
                    have KS1 := Lib.hid (show ∀ w', Below X.heap.size X w' → (fun w' : World => w'.cell? ⟨wq.heap.size, 0, none⟩ = some (.int .i64 kd) ∧ w'.cell? ⟨wq.heap.size, 1, none⟩ = some (.int .i64 wd) ∧ w'.cell? ⟨wq.heap.size, 2, none⟩ = some (.int .i64 nn) ∧ w'.cell? ⟨wq.heap.size, 3, none⟩ = some (.int .i64 mm) ∧ w'.cell? ⟨wq.heap.size, 4, none⟩ = some (.int .i64 (q : Int)) ∧ w'.cell? ⟨r0, q, none⟩ = some (.bool (us.contains (q : Int)))) w' from fun w' hb => by
                      obtain ⟨m0, m1, m2, m3, m4⟩ := KS.out w' hb
                      exact ⟨m0, m1, m2, m3, m4, KU.out w' hb q hq8⟩)
                    obtain ⟨m0, m1, m2, m3, m4, m5⟩ := KS1.out X (Below.refl _ _)
                    obtain ⟨R, hR⟩ : ∃ R, R = shR kd := ⟨_, rfl⟩
                    have HR := Lib.hid hR
                    clear hR
                    cases R with
                    | false =>
                      first
                        | (go_region_law (first | (go_simp; go_at_call 39; refine (formed_any ⟨kd, wd, nn, mm, (q : Int)⟩ _).mono ?_; rintro e Y ⟨rfl, hY⟩; rw [HFF.out]; have hXY : Below X.heap.size X Y := Below.trans BD.out (hY.mono (Below.size BD.out)); obtain ⟨p0, p1, p2, p3, p4, p5⟩ := KS1.out _ hXY) | (go_simp; go_at_call 40; refine (shapes_any _).mono ?_; rintro e Z ⟨b, rfl, hb0, hbm, hZ⟩; have hXZ : Below X.heap.size X Z := Below.trans hXY (hZ.mono (Below.size hXY)); have hlk := look1 hbm kd; rw [← HR.out] at hlk; obtain ⟨q0, q1, q2, q3, q4, q5⟩ := KS1.out _ hXZ)))
                        | fail
                      all_goals
                        go_wp2
                        go_meet
                        exact ⟨by rw [← HR.out, HFF.out]; simp, hXZ⟩
                    | true =>
                      first
                        | (go_region_held3 (fun w' : World => w'.cell? ⟨wq.heap.size, 0, none⟩ = some (.int .i64 kd) ∧ w'.cell? ⟨wq.heap.size, 1, none⟩ = some (.int .i64 wd) ∧ w'.cell? ⟨wq.heap.size, 2, none⟩ = some (.int .i64 nn) ∧ w'.cell? ⟨wq.heap.size, 3, none⟩ = some (.int .i64 mm) ∧ w'.cell? ⟨wq.heap.size, 4, none⟩ = some (.int .i64 (q : Int)) ∧ w'.cell? ⟨r0, q, none⟩ = some (.bool (us.contains (q : Int))))
                            (first | (refine KS1.out _ ?_; (repeat (first | (with_reducible exact Below.refl _ _) | (with_reducible exact hXZ) | (with_reducible exact hXY) | (with_reducible refine Below.drew ?_))); done))
                            (first | (go_at_call 39; refine (formed_any ⟨kd, wd, nn, mm, (q : Int)⟩ _).mono ?_; rintro e Y ⟨rfl, hY⟩; rw [HFF.out]; have hXY : Below X.heap.size X Y := Below.trans BD.out (hY.mono (Below.size BD.out))) | (go_at_call 40; refine (shapes_any _).mono ?_; rintro e Z ⟨b, rfl, hb0, hbm, hZ⟩; have hXZ : Below X.heap.size X Z := Below.trans hXY (hZ.mono (Below.size hXY)); have hlk := look1 hbm kd; rw [← HR.out] at hlk)))
                        | fail
                      all_goals
                        go_wp2
                        go_meet
                        exact ⟨by rw [← HR.out, HFF.out]; simp, hXZ⟩
                case rest =>
                  obtain ⟨rfl, hbx⟩ := hcut
                  rename World => wx
                  have hbwx : Below w.heap.size w wx := hbwX.trans (hbx.mono hbwX.size)
                  have HUN := Lib.hid hun
                  clear hun
                  cases hg : (!formedB ⟨kd, wd, nn, mm, rg⟩ || (shR kd && us.contains rg)) with
                  | true =>
                    have hall := Lib.hid (show (l.map Th.s).all threadB = false from by
                      rw [List.all_eq_false]
                      refine ⟨x.s, List.mem_map.2 ⟨x, List.mem_of_getElem? HX.out, rfl⟩, ?_⟩
                      unfold threadB
                      rw [hsc.out, HDROP.out]
                      unfold scanB
                      simp only [Bool.or_eq_true, Bool.not_eq_true'] at hg
                      rcases hg with hg | hg
                      · rw [hg]; simp
                      · rw [hg]; simp)
                    clear hg
                    go_wp2
                    go_ret
                    exact ⟨by rw [hv.out, hall.out]; rfl, hbwx⟩
                  | false =>
                    have hff : formedB ⟨kd, wd, nn, mm, rg⟩ = true := by
                      cases h : formedB ⟨kd, wd, nn, mm, rg⟩ with
                      | true => rfl
                      | false => rw [h] at hg; simp at hg
                    have hnu : (shR kd && us.contains rg) = false := by rw [hff] at hg; simpa using hg
                    obtain ⟨hr0', hr1⟩ := reg_of_formed hff
                    have hstep := Lib.hid (show scanB [] x.s = scanB (if shR kd then rg :: us else us) (x.s.drop (j + 1)) from by
                      rw [hsc.out, HDROP.out]
                      show (formedB ⟨kd, wd, nn, mm, rg⟩ && !(shR kd && us.contains rg) && scanB _ _) = _
                      rw [hff, hnu]; simp)
                    clear hff hg hnu
                    obtain ⟨q, rfl⟩ : ∃ q : Nat, rg = q := ⟨rg.toNat, by simp only at hr0'; omega⟩
                    have hq8 : q < 8 := by simp only at hr1; omega
                    have hqI : (q : Int) < 8 := by omega
                    clear hr0' hr1
                    obtain ⟨m0, m1, m2, m3, m4⟩ := KS.out wx hbx
                    obtain ⟨R, hR⟩ : ∃ R, R = shR kd := ⟨_, rfl⟩
                    have HR := Lib.hid hR
                    rw [← hR] at hstep
                    clear hR
                    go_wp2_with fail
                    cases R with
                    | false =>
                      go_region_law (first | (go_simp; go_at_call 40; refine (shapes_any _).mono ?_; rintro e Z ⟨b, rfl, hb0, hbm, hZ⟩; have hXZ : Below X.heap.size X Z := hbx.trans ((Below.trans (Below.drew (Below.refl _ _)) hZ).mono hbx.size); have hlk := look1 hbm kd; rw [← HR.out] at hlk; obtain ⟨q0, q1, q2, q3, q4⟩ := KS.out _ hXZ))
                      all_goals
                        have hbwZ : Below w.heap.size w Z := hbwX.trans (hXZ.mono hbwX.size)
                        go_wp2
                        go_roundw
                        case rel => exact ⟨j + 1, us, by omega, by go_num, Lib.hid (hstep.out.trans (by simp)), Lib.hid (KU.out _ hXZ), Lib.hid (KF.out _ hXZ), by have := hXZ.size; omega, hbwZ⟩
                        case measure => simp [intOf]; omega
                    | true =>
                      go_region_law (first | (go_simp; go_at_call 40; refine (shapes_any _).mono ?_; rintro e Z ⟨b, rfl, hb0, hbm, hZ⟩; have hXZ : Below X.heap.size X Z := hbx.trans ((Below.trans (Below.drew (Below.refl _ _)) hZ).mono hbx.size); have hlk := look1 hbm kd; rw [← HR.out] at hlk; obtain ⟨q0, q1, q2, q3, q4⟩ := KS.out _ hXZ; have q5 := KU.out _ hXZ q hq8; have q6 := KF.out _ hXZ q))
                      all_goals
                        have hbwZ : Below w.heap.size w Z := hbwX.trans (hXZ.mono hbwX.size)
                        have hzZ := hXZ.size
                        have QU := Lib.hid (KU.out _ hXZ)
                        have QF := Lib.hid (KF.out _ hXZ)
                        go_wp2
                        go_roundw
                        case rel => exact ⟨j + 1, (q : Int) :: us, by omega, by go_num, Lib.hid (hstep.out.trans (by simp)), Lib.hid (fun p hp => by
                          by_cases hpq : p = q
                          · subst hpq; rw [World.cell?_setCell_same _ _ _ q5]; simp
                          · rw [set_other _ _ _ _ (by simp <;> exact hpq), QU.out p hp]; simp; exact fun e => absurd (by exact_mod_cast e) hpq), Lib.hid (fun p => by simpa using QF.out p), by simp; omega, (by repeat (first | (with_reducible exact hbwZ) | (with_reducible refine Below.drew ?_) | (with_reducible refine below_drewN ?_ _) | (with_reducible refine Below.setCell ?_ ?_ _; rotate_left; (first | omega | (simp <;> omega))) | (with_reducible refine Below.alloc ?_ ?_ _; rotate_left; (first | omega | (simp <;> omega)))))⟩
                        case measure => simp [intOf]; omega
              · obtain rfl : j = x.n := by omega
                have hth := Lib.hid (show threadB x.s = true from by
                  unfold threadB
                  rw [hsc.out, List.drop_eq_nil_of_le (by rw [SX.out.len]; exact Nat.le_refl _), decide_eq_true (by rw [SX.out.len]; omega)]; rfl)
                go_wp2
                go_roundw
                case rel => exact ⟨k + 1, by omega, by go_num, Lib.hid (fun i z hi hz => by
                  by_cases hik : i = k
                  · subst hik; rw [HX.out] at hz; injection hz with hz; subst hz; exact hth.out
                  · exact hok.out i z (by omega) hz), hbq⟩
                case measure => simp [intOf]; omega
        · obtain rfl : k = n := by omega
          have hall := Lib.hid (show (l.map Th.s).all threadB = true from by
            rw [List.all_eq_true]
            intro y hy
            obtain ⟨z, hz, rfl⟩ := List.mem_map.1 hy
            obtain ⟨i, hi⟩ := List.getElem?_of_mem hz
            exact hok.out i z (by have := (List.getElem?_eq_some_iff.1 hi).1; have := HL.out; omega) hi)
          go_wp2
          go_ret
          exact ⟨by rw [hv.out, hall.out]; rfl, hb⟩
end Go.Proofs.Ytnomghcieomjmaa
