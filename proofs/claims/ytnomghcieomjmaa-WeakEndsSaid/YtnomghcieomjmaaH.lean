/- The moves that are possible: what they are, and one more in a list. -/
import Derived.Test.YtnomghcieomjmaaG
import Derived.Test.YtnomghcieomjmaaD
namespace Go.Proofs.Ytnomghcieomjmaa
open Go.RowKit

/-- A move. -/
structure Mv where
  thread : Int
  op : Int
  store : Int
  deriving DecidableEq
def Mv.cells (x : Mv) : List Value := [.int .i64 x.thread, .int .i64 x.op, .int .i64 x.store]
theorem Mv.size (x : Mv) : x.cells.length = 3 := rfl
theorem mv_one (x : Mv) : ∀ u ∈ x.cells, u.oneCell' = true := by simp [Mv.cells, Value.oneCell']
theorem infoMv : (Try.prog.info? 41).map (fun i => (i.zero, i.size, i.bytes)) = some (some (.agg #[.int .i64 0, .int .i64 0, .int .i64 0]), 3, 24) := by kernel_rfl
/-- The state of a thread. -/
structure Pt where
  done : Nat → Bool
  regs : Nat → Int
  q : List Wt
def Tr.pt (t : Tr) : Pt := ⟨t.done, t.regs, t.q⟩
def opMv (m : Int) (j : Nat) (l : List POp) (t : Pt) (i : Nat) : Option Mv := (l[i]?).bind fun o => if canB m l t.done t.q.isEmpty i o then some ⟨j, i, 0⟩ else none
def stMv (m : Int) (j : Nat) (t : Pt) (k : Nat) : Option Mv := (t.q[k]?).bind fun x => if arrB m t.q k x then some ⟨j, -1, k⟩ else none
def ops1 (m : Int) (j : Nat) (l : List POp) (t : Pt) (i : Nat) : List Mv := (List.range i).filterMap (opMv m j l t)
def sts1 (m : Int) (j : Nat) (t : Pt) (k : Nat) : List Mv := (List.range k).filterMap (stMv m j t)
def thMv (m : Int) (ths : List (List POp)) (ts : List Pt) (j : Nat) : List Mv := match ths[j]?, ts[j]? with
  | some l, some t => ops1 m j l t l.length ++ sts1 m j t t.q.length
  | _, _ => []
def mvs (m : Int) (ths : List (List POp)) (ts : List Pt) (k : Nat) : List Mv := (List.range k).flatMap (thMv m ths ts)
def okB (m : Int) (ths : List (List POp)) (ts : List Pt) : Bool := decide (0 ≤ m) && decide (m ≤ 3) && validT ths && decide (ts.length = ths.length)
def movesP (m : Int) (ths : List (List POp)) (ts : List Pt) : List Mv := if okB m ths ts then mvs m ths ts ths.length else []

theorem ops1_succ (m : Int) (j : Nat) (l : List POp) (t : Pt) (i : Nat) (o : POp) (h : l[i]? = some o) : ops1 m j l t (i + 1) = ops1 m j l t i ++ (if canB m l t.done t.q.isEmpty i o then [⟨j, i, 0⟩] else []) := by
  unfold ops1
  rw [List.range_succ, List.filterMap_append]
  congr 1
  simp only [opMv, h, List.filterMap_cons, List.filterMap_nil, Option.bind_some]
  split <;> simp_all
theorem sts1_succ (m : Int) (j : Nat) (t : Pt) (k : Nat) (x : Wt) (h : t.q[k]? = some x) : sts1 m j t (k + 1) = sts1 m j t k ++ (if arrB m t.q k x then [⟨j, -1, k⟩] else []) := by
  unfold sts1
  rw [List.range_succ, List.filterMap_append]
  congr 1
  simp only [stMv, h, List.filterMap_cons, List.filterMap_nil, Option.bind_some]
  split <;> simp_all
theorem mvs_succ {m : Int} {ths : List (List POp)} {ts : List Pt} {k : Nat} {l : List POp} {t : Pt} (h : ths[k]? = some l) (h' : ts[k]? = some t) : mvs m ths ts (k + 1) = mvs m ths ts k ++ (ops1 m k l t l.length ++ sts1 m k t t.q.length) := by
  unfold mvs
  rw [List.range_succ, List.flatMap_append]
  congr 1
  simp [thMv, h, h']
theorem ops1_len (m : Int) (j : Nat) (l : List POp) (t : Pt) (i : Nat) : (ops1 m j l t i).length ≤ i := by
  unfold ops1
  exact Nat.le_trans (List.length_filterMap_le _ _) (by rw [List.length_range]; exact Nat.le_refl _)
theorem sts1_len (m : Int) (j : Nat) (t : Pt) (k : Nat) : (sts1 m j t k).length ≤ k := by
  unfold sts1
  exact Nat.le_trans (List.length_filterMap_le _ _) (by rw [List.length_range]; exact Nat.le_refl _)
theorem mvs_len {m : Int} {ths : List (List POp)} {ts : List Pt} (h1 : ∀ l ∈ ths, l.length ≤ 8) (h2 : ∀ t ∈ ts, t.q.length ≤ 1000) : ∀ k : Nat, (mvs m ths ts k).length ≤ k * 1008
  | 0 => by simp [mvs]
  | k + 1 => by
    have ih := mvs_len (m := m) h1 h2 k
    unfold mvs at ih ⊢
    rw [List.range_succ, List.flatMap_append, List.length_append]
    have : ((List.flatMap (thMv m ths ts) [k]).length) ≤ 1008 := by
      simp only [List.flatMap_cons, List.flatMap_nil, List.append_nil]
      unfold thMv
      split
      · rename_i l t hl ht
        rw [List.length_append]
        have a := ops1_len m k l t l.length
        have b := sts1_len m k t t.q.length
        have c := h1 l (List.mem_of_getElem? hl)
        have d := h2 t (List.mem_of_getElem? ht)
        omega
      · simp
    omega

/-- A state's threads in memory, below block B. -/
structure Sts (w : World) (B : Nat) (A : Option Addr) (n : Nat) (l : List Tr) : Prop where
  sl : Sl w B 17 Tr.cells A n l
  q : ∀ t ∈ l, Sl w B 2 Wt.cells t.A t.n t.q
theorem Sts.up {w w' : World} {A : Option Addr} {n : Nat} {l : List Tr} (h : Sts w w.heap.size A n l) (hb : Below w.heap.size w w') : Sts w' w'.heap.size A n l := ⟨h.sl.up hb, fun t ht => (h.q t ht).up hb⟩
/-- Room and length. -/
def Roomy (l : List Tr) : Prop := ∀ t ∈ l, t.n ≤ t.c ∧ t.c ≤ 9223372036854775807 ∧ t.n ≤ 1000
def Rooms (l : List Th) : Prop := ∀ t ∈ l, t.n ≤ t.c ∧ t.c ≤ 9223372036854775807
/-- A list of moves made anew. -/
def GivesM (l : List Mv) (w : World) (e : Ending) (w' : World) : Prop := ∃ A n c, e = .returned (.slice A n c) ∧ n = l.length ∧ n ≤ c ∧ c ≤ 9223372036854775807 ∧ Sl w' w'.heap.size 3 Mv.cells A n l ∧ Below w.heap.size w w' ∧ (0 < n → ∀ ad, A = some ad → w.heap.size ≤ ad.block)
theorem GivesM.nil {w w' : World} (h : Below w.heap.size w w') : GivesM [] w (.returned (.slice none 0 0)) w' := ⟨none, 0, 0, rfl, rfl, Nat.le_refl _, by omega, Sl.nil, h, fun h => absurd h (by omega)⟩
end Go.Proofs.Ytnomghcieomjmaa
