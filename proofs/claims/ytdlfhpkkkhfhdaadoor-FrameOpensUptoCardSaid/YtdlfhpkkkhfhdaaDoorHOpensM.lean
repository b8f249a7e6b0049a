/- FrameOpens: the walk and the plain law, joined. -/
import Derived.Test.YtdlfhpkkkhfhdaaDoorHOpenPure
import Derived.Test.YtdlfhpkkkhfhdaaDoorHOpensW
import Derived.Test.YtdlfhpkkkhfhdaaDoorHSumsM
namespace Go.Proofs.YtdlfhpkkkhfhdaaDoor.Hand
set_option linter.unusedVariables false
open Go.RowKit Go.Proofs.YtdlfhpkkkhfhdaaDoorW.PrintWords Go.Proofs.YtdlfhpkkkhfhdaaDoorW.PrintLast Go.Proofs.YtdlfhpkkkhfhdaaDoorW.PrintMore Go.Proofs.YtdlfhpkkkhfhdaaDoor.Q
theorem frameOpens_machine (W : World) (hT : Tb W) (A0 : Option Addr) (c0 : Nat) (l0 : List Int) (hr0 : (Kd.int .u8).C W A0 l0.length l0) (hc0 : l0.length ≤ c0) (hw0 : ∀ x ∈ l0, (Lit.int .u8 x).wf = true) (hb0 : (l0.map fun _ => 1).sum + 1 ≤ 1048576) :
    Calls Tryd.prog 6 #[.slice A0 l0.length c0] W fun e w' => e = .returned (.bool true) ∧ Below W.heap.size W w' := by
  rw [sum_ones] at hb0
  obtain ⟨K1, h1⟩ := lent_ev l0 (by omega)
  obtain ⟨K2, h2⟩ := kept_ev l0 (by omega)
  obtain ⟨K3, h3⟩ := refOpen_ev l0 (by omega) (bytes_wf hw0)
  have hP := openP_length l0 1048576 (by omega)
  exact wicketlaw01_FrameOpens.walk (K1 + K2 + K3) A0 c0 l0 (l0 ++ marks) (openP l0).2.1 (openP l0).1 0 (openP l0).2.2.1 (openP l0).2.2.2 W hT hr0 hc0 (h1 _ (by omega)) (List.take_left) (by rw [List.length_append, marks_length]; omega) (frameOpen_f l0 (by omega) (bytes_wf hw0)) (h3 _ (by omega)) rfl (same_ev _) (h2 _ (by omega)) (by omega) rfl
end Go.Proofs.YtdlfhpkkkhfhdaaDoor.Hand
