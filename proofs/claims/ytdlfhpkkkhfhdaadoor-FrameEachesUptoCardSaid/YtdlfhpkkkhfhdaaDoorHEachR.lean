/- FrameEaches: the plain law and the walk joined. -/
import Derived.Test.YtdlfhpkkkhfhdaaDoorHEachM
namespace Go.Proofs.YtdlfhpkkkhfhdaaDoor.Hand
set_option linter.unusedVariables false
open Go.RowKit Go.Proofs.YtdlfhpkkkhfhdaaDoorW.PrintWords Go.Proofs.YtdlfhpkkkhfhdaaDoorW.PrintLast Go.Proofs.YtdlfhpkkkhfhdaaDoorW.PrintMore Go.Proofs.YtdlfhpkkkhfhdaaDoor.Q
theorem i64_range {x : Int} (h : (Lit.int .i64 x).wf = true) : -9223372036854775808 ≤ x ∧ x ≤ 9223372036854775807 := by
  simp only [Lit.wf, Bool.and_eq_true, decide_eq_true_eq, show IntKind.i64.min = -9223372036854775808 by decide, show IntKind.i64.max = 9223372036854775807 by decide] at h
  exact h
theorem frameEaches_machine (W : World) (hT : Tb W) (A0 : Option Addr) (c0 : Nat) (l0 : List Int) (hr0 : (Kd.int .u8).C W A0 l0.length l0) (hc0 : l0.length ≤ c0) (hw0 : ∀ x ∈ l0, (Lit.int .u8 x).wf = true) (hb0 : (l0.map fun _ => 1).sum + 1 ≤ 1048576) (a1 : Int) (hw1 : (Lit.int .i64 a1).wf = true) :
    Calls Tryd.prog 9 #[.slice A0 l0.length c0, .int .i64 a1] W fun e w' => e = .returned (.bool true) ∧ Below W.heap.size W w' := by
  rw [sum_ones] at hb0
  obtain ⟨K1, h1⟩ := lent_ev l0 (by omega)
  have hB := bytes_wf hw0
  obtain ⟨n, e, K2, h2⟩ := each_scan l0 (by omega) hB
  have hL := eachP_len l0 hB l0.length 0 (by omega)
  refine frameEaches.walk (K1 + K2) A0 c0 l0 (l0 ++ marks) (eachP l0 l0.length 0) n e a1 W hT hr0 hc0 ?_ (h2 _ (by omega)) (h1 _ (by omega)) ⟨by omega, hB, rfl, List.take_left, by rw [List.length_append, marks_length]; omega, by rw [List.length_append, marks_length]; omega, by omega, eachP_short l0 l0.length 0⟩ rfl
  exact i64_range hw1
end Go.Proofs.YtdlfhpkkkhfhdaaDoor.Hand
