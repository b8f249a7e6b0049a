/- Wheel: a story that comes in, taken apart; WheelOnce joined. -/
import Derived.Test.YtkgdlmgodpgcoaaWhlQ
import Derived.Test.YtkgdlmgodpgcoaaHOpens
namespace Go.Proofs.Ytkgdlmgodpgcoaa.Hand
open Go.RowKit Go.Maps Go.Proofs.YtkgdlmgodpgcoaaW.PrintWords Go.Proofs.YtkgdlmgodpgcoaaW.PrintLast Go.Proofs.YtkgdlmgodpgcoaaW.PrintMore
set_option linter.unusedVariables false
set_option linter.unusedSimpArgs false
abbrev StoryT := Int × List ActT
abbrev kStory : Kd StoryT := Kd.iso (Kd.pair (Kd.int .u64) (Kd.slice 54 kAct)) (fun x => x)
abbrev actWf (b : ActT) : Prop := (Lit.int .i64 b.1).wf = true ∧ (Lit.int .u64 b.2.1).wf = true ∧ (Lit.int .u64 b.2.2).wf = true
set_option maxRecDepth 100000 in
theorem act_opens : Opens Try.prog 54 kAct actWf (fun b : ActT => 1 + (1 + 1) + 1) :=
  Opens.struct (total := 3) (fun x => x) (fun x => x) (fun _ => rfl) Try.underlying54 (by kernel_rfl) (OpensFs.cons rfl (by kernel_rfl) (Opens.int .i64 Try.underlying3) (OpensFs.cons rfl (by kernel_rfl) (Opens.int .u64 Try.underlying22) (OpensFs.last rfl (by kernel_rfl) (by kernel_rfl) (Opens.int .u64 Try.underlying22))))
abbrev storyWf (b : StoryT) : Prop := (Lit.int .u64 b.1).wf = true ∧ ∀ x ∈ b.2, actWf x
set_option maxRecDepth 100000 in
theorem story_opens : Opens Try.prog 52 kStory storyWf (fun b : StoryT => 1 + ((b.2.map fun b : ActT => 1 + (1 + 1) + 1).sum + 1) + 1) :=
  Opens.struct (total := 2) (fun x => x) (fun x => x) (fun _ => rfl) Try.underlying52 (by kernel_rfl) (OpensFs.cons rfl (by kernel_rfl) (Opens.int .u64 Try.underlying22)
    (OpensFs.last rfl (by kernel_rfl) (by kernel_rfl) (Opens.slice Try.underlying50 (by kernel_rfl) act_opens)))
theorem wf_U {x : Int} (h : (Lit.int .u64 x).wf = true) : U x := by
  simp only [Lit.wf, Bool.and_eq_true, decide_eq_true_eq, show IntKind.u64.min = 0 by decide, show IntKind.u64.max = 18446744073709551615 by decide] at h
  exact h
theorem wheelOnce_machine (W : World) (cs : Array Value) (x : StoryT) (hk : kStory.K W x cs.toList) (hw : storyWf x) :
    Calls Try.prog 6 #[.agg cs] W fun e w' => e = .returned (.bool true) ∧ Below W.heap.size W w' := by
  obtain ⟨now, acts⟩ := x
  obtain ⟨q1, q2, e1, hk1, ⟨A, c, hq, hc, hC⟩⟩ := hk
  obtain ⟨w1, w2⟩ := hw
  simp only at w1 w2 hC hc hq
  have hcs : cs = #[.int .u64 now, .slice A acts.length c] := by
    apply Array.ext'
    rw [e1, hk1, hq]
    rfl
  subst hcs
  exact wheelOnce.walk now A acts.length c acts W hC (wf_U w1) (fun i hi => ⟨wf_U (w2 _ (actN_mem hi)).2.1, wf_U (w2 _ (actN_mem hi)).2.2⟩)
end Go.Proofs.Ytkgdlmgodpgcoaa.Hand
