/- A region that draws its order in a round of a range over a function: by the rules outside a round, loads taken first. Conditions: as the law states. -/
import Derived.Test.YteeglmlmconbmaaKit2
import Derived.Deep.RegionHeld
import Derived.OrdersIn
import Derived.RangeFuncCalls
namespace Go.Proofs.Yteeglmlmconbmaa
open Go.RowKit

def noDefer (o : Oper) : Bool := match o.op with | .defer _ => false | _ => true
theorem noDefer_spec {o : Oper} (h : noDefer o = true) : ∀ c, o.op ≠ .defer c := fun c e => by unfold noDefer at h; rw [e] at h; cases h
section
variable {P : Program} {ops : Array Oper} {Q : Exit → Act → World → Prop} {md : Region.Mode} {l n : Nat}
theorem wpIn_of_wp_round {o : Oper} {a : Act} {w : World} {K : Act → World → Prop} (hnd : noDefer o = true) (h : o.wp P a w K Q) : o.wpIn (Fence.wide.inRound l) n P a w K Q := by
  unfold Oper.wpIn
  refine ⟨fun _ _ => trivial, ?_⟩
  rw [show (Fence.wide.inRound l).round = some l from rfl, Oper.semAt_some l _ _ (noDefer_spec hnd)]
  unfold Oper.wp at h
  generalize (execOp a.eval o).run P w = r at *
  cases r with
  | ok x w' =>
    cases x with
    | value v => exact h
    | skip => exact h
    | defer d => exact h
    | enter f args => exact ⟨fun e => (by simp [Fence.inRound, Fence.wide] at e), (CallsIn.inRound l (callsIn_wide.2 h)).mono fun e w'' he => (by cases e <;> exact he)⟩
    | row row args =>
      refine ⟨fun e => (by simp [Fence.inRound, Fence.wide] at e), fun c cs _ => ?_⟩
      obtain ⟨v, w'', r, s⟩ := h c cs
      exact ⟨v, w'', r, stepsIn_wide.2 s⟩
    | _ => exact h.elim
  | halt x w' => cases x <;> exact h
theorem wpAnyIn_of_wpAny (hnd : ∀ (i : Nat) (o : Oper), ops[i]? = some o → noDefer o = true) (hlo : ∀ a w, ¬ Q .outgrown a w) : ∀ (fuel : Nat) (listed : Array Bool) (a : Act) (w : World), wpAny P md ops Q fuel listed a w → wpAnyIn (Fence.wide.inRound l) n P md ops Q fuel listed a w
  | 0, _, _, _, h => h
  | fuel + 1, listed, a, w, h => by
    refine ⟨h.1, fun i hi => ?_⟩
    have h2 := h.2 i hi
    unfold wpOp at h2
    unfold wpOpIn
    cases ho : ops[i]? with
    | none =>
      simp only [ho] at h2 ⊢
      exact wpAnyIn_of_wpAny hnd hlo fuel _ a w h2
    | some o =>
      simp only [ho] at h2 ⊢
      by_cases hw : Region.wanted o (yielded ops a.tmps) = true
      · simp only [hw, if_true] at h2 ⊢
        rcases h2 with h2 | ⟨_, a', w', h2⟩
        · exact wpIn_of_wp_round (hnd i o ho) (Go.Oper.wp_mono (fun a w hK => wpAnyIn_of_wpAny hnd hlo fuel _ a w hK) h2)
        · exact absurd h2 (hlo a' w')
      · simp only [hw, if_false, Bool.false_eq_true] at h2 ⊢
        exact ⟨fun _ _ => trivial, wpAnyIn_of_wpAny hnd hlo fuel _ _ w h2⟩
/-- An operation is taken first; its temporary is named. -/
theorem takeD (i : Nat) (d : Option Tmp) (v : Value) {S : World → Prop} {oi : Oper} {fuel : Nat} {listed : Array Bool} {a : Act} {w : World} (hi : ops[i]? = some oi) (hd : oi.dst = d) (hs : Region.noSelect ops = true) (hf : Region.free md ops listed i = true)
    (hr : (Region.ready md ops listed).contains i = true) (hQ : ∀ c a w, Q (.panic c) (a.put oi.dst v) w → Q (.panic c) a w) (hy : YieldsIf P ops S oi v a) (hS : S w)
    (h : wpAnyH P md ops Q S fuel (listed.setIfInBounds i true) (a.put d v) w) : wpAnyH P md ops Q S (fuel + 1) listed a w := by
  subst hd
  exact wpAnyH_take hi hs hf hr hQ hy hS h
/-- The beginning. -/
theorem region_round {id : Nat} {a : Act} {w : World} {S : World → Prop} (hm : P.follows .mixedOrders = true) (hnd : ops.all noDefer = true) (hlo : ∀ a w, ¬ Q .outgrown a w) (hS : S w.drew)
    (h : S w.drew → wpAnyH P .any ops Q S ops.size (Array.replicate ops.size false) a w.drew) : (Code.region id ops true).wpIn (Fence.wide.inRound l) n P Q a w :=
  wpIn_region_any hm (wpAnyIn_of_wpAny (fun i o ho => by
    obtain ⟨hi, e⟩ := Array.getElem?_eq_some_iff.1 ho
    rw [← e]
    exact Array.all_eq_true.1 hnd i hi) hlo _ _ _ _ (wpAny_of_held _ _ _ _ (h hS)))
end
end Go.Proofs.Yteeglmlmconbmaa
