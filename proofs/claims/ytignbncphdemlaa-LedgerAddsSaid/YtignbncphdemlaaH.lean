/- ledger.Keep and ledger.Lose. -/
import Derived.Test.YtignbncphdemlaaMoveK
import Derived.Test.YtignbncphdemlaaMoveL
namespace Go.Proofs.Ytignbncphdemlaa
open Go.RowKit

def loseE (c : Int) (l : List Acc) (s : List Shr) : List Acc × Int := if 0 ≤ c ∧ c < 6 then moveE (1 + c.toNat) l s else ([], 2)

theorem gives_after {r : List Acc × Int} {w w1 : World} {e : Ending} {w' : World} (hb : Below w.heap.size w w1) (h : GivesE r w1 e w') : GivesE r w e w' := by
  obtain ⟨A, c, he, hs, hb', hl⟩ := h
  exact ⟨A, c, he, hs, hb.trans (hb'.mono hb.size), fun h ad ha => by have := hl h ad ha; have := hb.size; omega⟩

theorem keep_any (A : Option Addr) (n c : Nat) (l : List Acc) (B : Option Addr) (m d : Nat) (s : List Shr) (w : World) (hs : Sl w w.heap.size 8 Acc.cells A n l) (hr : Sl w w.heap.size 2 Shr.cells B m s) (hn : n ≤ 1000000) (hm : m ≤ 1000000) (hok : Ok 1000000 l) :
    Calls Try.prog 14 #[.slice A n c, .slice B m d] w (GivesE (moveE 0 l s) w) := by
  go_enter Try.func14, Try.ntmps14
  go_wp2_with fail
  refine (movek_any A n c l B m d s w hs hr hn hm hok).mono ?_
  rintro e w1 ⟨A1, c1, rfl, hs1, hb1, hl1⟩
  go_wp2
  go_ret2
  exact ⟨A1, c1, rfl, hs1, hb1, hl1⟩
theorem lose_any (A : Option Addr) (n c : Nat) (l : List Acc) (k : Int) (B : Option Addr) (m d : Nat) (s : List Shr) (w : World) (hs : Sl w w.heap.size 8 Acc.cells A n l) (hr : Sl w w.heap.size 2 Shr.cells B m s) (hn : n ≤ 1000000) (hm : m ≤ 1000000) (hok : Ok 1000000 l) :
    Calls Try.prog 15 #[.slice A n c, .int .i64 k, .slice B m d] w (GivesE (loseE k l s) w) := by
  have hab : Below w.heap.size w (w.alloc (.cells #[.int .i64 k] 3)) := (by repeat (first | (with_reducible exact (Below.refl _ _)) | (with_reducible refine Below.drew ?_) | (with_reducible refine below_drewN ?_ _) | (with_reducible refine Below.setCell ?_ ?_ _; rotate_left; (first | omega | (simp <;> omega))) | (with_reducible refine Below.alloc ?_ ?_ _; rotate_left; (first | omega | (simp <;> omega)))))
  by_cases h0 : 0 ≤ k
  · by_cases h1 : k < 6
    · obtain ⟨q, rfl⟩ := Int.eq_ofNat_of_zero_le h0
      have HE := Lib.hid (show loseE q l s = moveE (1 + q) l s from by rw [loseE, if_pos ⟨h0, h1⟩]; rfl)
      go_enter Try.func15, Try.ntmps15
      go_wp2_with fail
      refine (movel_any A n c l B m d s w.heap.size q _ (hs.up hab) (hr.up hab) hn hm hok (by omega) (by simp) (by simp)).mono ?_
      rintro e w1 h
      obtain ⟨A1, c1, rfl, hs1, hb1, hl1⟩ := gives_after hab h
      go_wp2
      go_ret2
      rw [HE.out]
      exact ⟨A1, c1, rfl, hs1, hb1, hl1⟩
    · have HE := Lib.hid (show loseE k l s = ([], 2) from by rw [loseE, if_neg (by omega)])
      go_enter Try.func15, Try.ntmps15
      go_wp2
      go_ret2
      rw [HE.out]
      exact ⟨none, 0, rfl, Sl.nil, hab, fun h => absurd h (by decide)⟩
  · have HE := Lib.hid (show loseE k l s = ([], 2) from by rw [loseE, if_neg (by omega)])
    go_enter Try.func15, Try.ntmps15
    go_wp2
    go_ret2
    rw [HE.out]
    exact ⟨none, 0, rfl, Sl.nil, hab, fun h => absurd h (by decide)⟩
end Go.Proofs.Ytignbncphdemlaa
