/- LimitPlays: what comes in, taken apart; joined. -/
import Derived.Test.YtgdjoochbgeokaaLimBP
namespace Go.Proofs.Ytgdjoochbgeokaa.Hand
open Go.RowKit Go.Maps Go.Proofs.YtgdjoochbgeokaaW.PrintWords Go.Proofs.YtgdjoochbgeokaaW.PrintLast Go.Proofs.YtgdjoochbgeokaaW.PrintMore Go.Proofs.Ytgdjoochbgeokaa.PLimitMost
set_option linter.unusedVariables false
theorem sum_ge {α : Type} (f : α → Nat) (h : ∀ x, 1 ≤ f x) (l : List α) : l.length ≤ (l.map f).sum := by
  induction l with
  | nil => exact Nat.le_refl _
  | cons x l ih =>
    rw [List.map_cons, List.sum_cons, List.length_cons]
    have := h x
    omega
theorem limitPlays_machine (W : World) (cs : Array Value) (x : StoryT) (hk : kStory.K W x cs.toList) (hw : storyWf x) (hb : 1 + (1 + (1 + ((x.2.2.2.map fun b : OpT => 1 + ((b.2.1.size + 1) + 1) + 1).sum + 1))) + 1 ≤ 1048576) :
    Calls Try.prog 5 #[.agg cs] W fun e w' => e = .returned (.bool true) ∧ Below W.heap.size W w' := by
  obtain ⟨tr, sp, mo, ops⟩ := x
  obtain ⟨q1, q2, e1, hk1, q3, q4, e2, hk2, q5, q6, e3, hk3, ⟨A, c, hq, hc, hC⟩⟩ := hk
  obtain ⟨w1, w2, w3, w4⟩ := hw
  simp only at w1 w2 w3 w4 hC hc hq hb
  have hcs : cs = #[.int .i64 tr, .int .u64 sp, .int .i64 mo, .slice A ops.length c] := by
    apply Array.ext'
    rw [e1, e2, e3, hk1, hk2, hk3, hq]
    rfl
  subst hcs
  have hlen := sum_ge (fun b : OpT => 1 + ((b.2.1.size + 1) + 1) + 1) (fun b => by omega) ops
  exact limitPlays.walk tr sp mo A c ops W hC (bounds_u64L w2) (fun i hi => ⟨(w4 _ (opN_mem hi)).2.1, bounds_u64L (w4 _ (opN_mem hi)).2.2⟩) (by omega)
end Go.Proofs.Ytgdjoochbgeokaa.Hand
