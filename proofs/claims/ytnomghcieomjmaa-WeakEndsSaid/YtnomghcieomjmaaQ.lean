/- A move is made: the walk. -/
import Derived.Test.YtnomghcieomjmaaQ0
import Derived.Test.YtnomghcieomjmaaQ1
import Derived.Test.YtnomghcieomjmaaQ2
import Derived.Test.YtnomghcieomjmaaQ3
import Derived.Test.YtnomghcieomjmaaQ4
import Derived.Test.YtnomghcieomjmaaQ5
import Derived.Test.YtnomghcieomjmaaQ6
namespace Go.Proofs.Ytnomghcieomjmaa
open Go.RowKit

theorem do_any (m : Int) (A : Option Addr) (n c : Nat) (l : List Th) (mem : Nat → Int) (SA : Option Addr) (sn sc : Nat) (ts : List Tr) (v : Mv) (w : World)
    (hT : Ths w w.heap.size A n l) (hn : n ≤ 9000000000000) (hm : ∀ t ∈ l, t.n ≤ 9000000000000) (hro : Rooms l) (hS : Sts w w.heap.size SA sn ts) (hrs : Roomy ts) (hsn : sn ≤ 1000) (hww : Words ts) (hqb : ∀ t ∈ ts, t.n ≤ 900) :
    Calls Try.prog 15 #[.int .i64 m, .slice A n c, stVal mem SA sn sc, .agg #[.int .i64 v.thread, .int .i64 v.op, .int .i64 v.store]] w (GivesDo m (l.map Th.s) mem (ts.map Tr.pt) v w) := by
  have h := armOf_le m (l.map Th.s) (ts.map Tr.pt) v
  have hc : armOf m (l.map Th.s) (ts.map Tr.pt) v = 0 ∨ armOf m (l.map Th.s) (ts.map Tr.pt) v = 1 ∨ armOf m (l.map Th.s) (ts.map Tr.pt) v = 2 ∨ armOf m (l.map Th.s) (ts.map Tr.pt) v = 3 ∨ armOf m (l.map Th.s) (ts.map Tr.pt) v = 4 ∨ armOf m (l.map Th.s) (ts.map Tr.pt) v = 5 ∨ armOf m (l.map Th.s) (ts.map Tr.pt) v = 6 := by omega
  rcases hc with h | h | h | h | h | h | h
  · exact do_arm0 m A n c l mem SA sn sc ts v w hT hn hm hro hS hrs hsn hww hqb h
  · exact do_arm1 m A n c l mem SA sn sc ts v w hT hn hm hro hS hrs hsn hww hqb h
  · exact do_arm2 m A n c l mem SA sn sc ts v w hT hn hm hro hS hrs hsn hww hqb h
  · exact do_arm3 m A n c l mem SA sn sc ts v w hT hn hm hro hS hrs hsn hww hqb h
  · exact do_arm4 m A n c l mem SA sn sc ts v w hT hn hm hro hS hrs hsn hww hqb h
  · exact do_arm5 m A n c l mem SA sn sc ts v w hT hn hm hro hS hrs hsn hww hqb h
  · exact do_arm6 m A n c l mem SA sn sc ts v w hT hn hm hro hS hrs hsn hww hqb h
end Go.Proofs.Ytnomghcieomjmaa
