/- Wheel: WheelCuts joined. -/
import Derived.Test.YtkgdlmgodpgcoaaWhlAD
namespace Go.Proofs.Ytkgdlmgodpgcoaa.Hand
open Go.RowKit Go.Maps Go.Proofs.YtkgdlmgodpgcoaaW.PrintWords Go.Proofs.YtkgdlmgodpgcoaaW.PrintLast Go.Proofs.YtkgdlmgodpgcoaaW.PrintMore
set_option linter.unusedVariables false
theorem wheelCuts_machine (W : World) (cs : Array Value) (x : StoryT) (hk : kStory.K W x cs.toList) (hw : storyWf x) (a : Int) (ha : (Lit.int .u64 a).wf = true) (b : Int) (hb : (Lit.int .u64 b).wf = true) :
    Calls Try.prog 7 #[.agg cs, .int .u64 a, .int .u64 b] W fun e w' => e = .returned (.bool true) ∧ Below W.heap.size W w' := by
  obtain ⟨now, acts⟩ := x
  obtain ⟨q1, q2, e1, hk1, ⟨A, c, hq, hc, hC⟩⟩ := hk
  obtain ⟨w1, w2⟩ := hw
  simp only at w1 w2 hC hc hq
  have hcs : cs = #[.int .u64 now, .slice A acts.length c] := by
    apply Array.ext'
    rw [e1, hk1, hq]
    rfl
  subst hcs
  exact wheelCuts.walk now A acts.length c acts a b W hC (wf_U w1) (fun i hi => ⟨wf_U (w2 _ (actN_mem hi)).2.1, wf_U (w2 _ (actN_mem hi)).2.2⟩) (wf_U ha) (wf_U hb)
end Go.Proofs.Ytkgdlmgodpgcoaa.Hand
