/- LimitApart: what comes in, taken apart; joined. -/
import Derived.Test.YtgdjoochbgeokaaLimT
namespace Go.Proofs.Ytgdjoochbgeokaa.Hand
open Go.RowKit Go.Maps Go.Proofs.YtgdjoochbgeokaaW.PrintWords Go.Proofs.YtgdjoochbgeokaaW.PrintLast Go.Proofs.YtgdjoochbgeokaaW.PrintMore Go.Proofs.Ytgdjoochbgeokaa.PLimitMost
set_option linter.unusedVariables false
theorem limitApart_machine (W : World) (cs : Array Value) (x : StoryT) (hk : kStory.K W x cs.toList) (hw : storyWf x) (subject : ByteArray) :
    Calls Try.prog 4 #[.agg cs, .string subject] W fun e w' => e = .returned (.bool true) ∧ Below W.heap.size W w' := by
  obtain ⟨tr, sp, mo, ops⟩ := x
  obtain ⟨q1, q2, e1, hk1, q3, q4, e2, hk2, q5, q6, e3, hk3, ⟨A, c, hq, hc, hC⟩⟩ := hk
  obtain ⟨w1, w2, w3, w4⟩ := hw
  simp only at w1 w2 w3 w4 hC hc hq
  have hcs : cs = #[.int .i64 tr, .int .u64 sp, .int .i64 mo, .slice A ops.length c] := by
    apply Array.ext'
    rw [e1, e2, e3, hk1, hk2, hk3, hq]
    rfl
  subst hcs
  exact limitApart.walk tr sp mo A c ops subject W hC (bounds_u64L w2) (fun i hi => bounds_u64L (w4 _ (opN_mem hi)).2.2) (Kd.C_max hC)
end Go.Proofs.Ytgdjoochbgeokaa.Hand
