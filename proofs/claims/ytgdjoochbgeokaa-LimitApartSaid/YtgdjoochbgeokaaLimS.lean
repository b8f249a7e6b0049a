/- Limits: a story that comes in, taken apart; LimitMost joined. -/
import Derived.Test.YtgdjoochbgeokaaLimM
namespace Go.Proofs.Ytgdjoochbgeokaa.Hand
open Go.RowKit Go.Maps Go.Proofs.YtgdjoochbgeokaaW.PrintWords Go.Proofs.YtgdjoochbgeokaaW.PrintLast Go.Proofs.YtgdjoochbgeokaaW.PrintMore Go.Proofs.Ytgdjoochbgeokaa.PLimitMost
set_option linter.unusedVariables false
set_option linter.unusedSimpArgs false
abbrev StoryT := Int × Int × Int × List OpT
abbrev kStory : Kd StoryT := Kd.iso (Kd.pair (Kd.int .i64) (Kd.pair (Kd.int .u64) (Kd.pair (Kd.int .i64) (Kd.slice 35 kOp)))) (fun x => x)
abbrev opWf (b : OpT) : Prop := (Lit.int .i64 b.1).wf = true ∧ b.2.1.size ≤ 9223372036854775807 ∧ (Lit.int .u64 b.2.2).wf = true
theorem op_opens : Opens Try.prog 35 kOp opWf (fun b : OpT => 1 + ((b.2.1.size + 1) + 1) + 1) :=
  Opens.struct (total := 3) (fun x => x) (fun x => x) (fun _ => rfl) Try.underlying35 (by kernel_rfl) (OpensFs.cons rfl (by kernel_rfl) (Opens.int .i64 Try.underlying3) (OpensFs.cons rfl (by kernel_rfl) (Opens.str Try.underlying9) (OpensFs.last rfl (by kernel_rfl) (by kernel_rfl) (Opens.int .u64 Try.underlying22))))
abbrev storyWf (b : StoryT) : Prop := (Lit.int .i64 b.1).wf = true ∧ (Lit.int .u64 b.2.1).wf = true ∧ (Lit.int .i64 b.2.2.1).wf = true ∧ ∀ x ∈ b.2.2.2, opWf x
theorem story_opens : Opens Try.prog 25 kStory storyWf (fun b : StoryT => 1 + (1 + (1 + ((b.2.2.2.map fun b : OpT => 1 + ((b.2.1.size + 1) + 1) + 1).sum + 1))) + 1) :=
  Opens.struct (total := 4) (fun x => x) (fun x => x) (fun _ => rfl) Try.underlying25 (by kernel_rfl) (OpensFs.cons rfl (by kernel_rfl) (Opens.int .i64 Try.underlying3) (OpensFs.cons rfl (by kernel_rfl) (Opens.int .u64 Try.underlying22) (OpensFs.cons rfl (by kernel_rfl) (Opens.int .i64 Try.underlying3)
    (OpensFs.last rfl (by kernel_rfl) (by kernel_rfl) (Opens.slice Try.underlying23 (by kernel_rfl) op_opens)))))
theorem bounds_u64L {x : Int} (h : (Lit.int .u64 x).wf = true) : 0 ≤ x ∧ x ≤ 18446744073709551615 := by
  simp only [Lit.wf, Bool.and_eq_true, decide_eq_true_eq, show IntKind.u64.min = 0 by decide, show IntKind.u64.max = 18446744073709551615 by decide] at h
  exact h
theorem opN_mem {xs : List OpT} {i : Nat} (h : i < xs.length) : opN xs i ∈ xs := by
  unfold opN
  rw [List.getD_eq_getElem?_getD, List.getElem?_eq_getElem h]
  exact List.getElem_mem h
theorem limitMost_machine (W : World) (cs : Array Value) (x : StoryT) (hk : kStory.K W x cs.toList) (hw : storyWf x) (subject : ByteArray) :
    Calls Try.prog 3 #[.agg cs, .string subject] W fun e w' => e = .returned (.bool true) ∧ Below W.heap.size W w' := by
  obtain ⟨tr, sp, mo, ops⟩ := x
  obtain ⟨q1, q2, e1, hk1, q3, q4, e2, hk2, q5, q6, e3, hk3, ⟨A, c, hq, hc, hC⟩⟩ := hk
  obtain ⟨w1, w2, w3, w4⟩ := hw
  simp only at w1 w2 w3 w4 hC hc hq
  have hcs : cs = #[.int .i64 tr, .int .u64 sp, .int .i64 mo, .slice A ops.length c] := by
    apply Array.ext'
    rw [e1, e2, e3, hk1, hk2, hk3, hq]
    rfl
  subst hcs
  exact limitMost.walk tr sp mo A c ops subject W hC (bounds_u64L w2) (fun i hi => bounds_u64L (w4 _ (opN_mem hi)).2.2) (Kd.C_max hC)
end Go.Proofs.Ytgdjoochbgeokaa.Hand
