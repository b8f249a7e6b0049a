/- FrameSeals: the walk and the plain law, joined. -/
import Derived.Test.YtdlfhpkkkhfhdaaDoorHSealPure
import Derived.Test.YtdlfhpkkkhfhdaaDoorHSealsW
import Derived.Test.YtdlfhpkkkhfhdaaDoorHSumsM
namespace Go.Proofs.YtdlfhpkkkhfhdaaDoor.Hand
set_option linter.unusedVariables false
open Go.RowKit Go.Proofs.YtdlfhpkkkhfhdaaDoorW.PrintWords Go.Proofs.YtdlfhpkkkhfhdaaDoorW.PrintLast Go.Proofs.YtdlfhpkkkhfhdaaDoorW.PrintMore Go.Proofs.YtdlfhpkkkhfhdaaDoor.Q
theorem frameSeals_machine (W : World) (hT : Tb W) (a0 : Int) (w0 : (Lit.int .u8 a0).wf = true) (A1 : Option Addr) (c1 : Nat) (l1 : List Int) (hr1 : (Kd.int .u8).C W A1 l1.length l1) (hc1 : l1.length ≤ c1) (hw1 : ∀ x ∈ l1, (Lit.int .u8 x).wf = true) (hb1 : (l1.map fun _ => 1).sum + 1 ≤ 1048576) :
    Calls Tryd.prog 5 #[.int .u8 a0, .slice A1 l1.length c1] W fun e w' => e = .returned (.bool true) ∧ Below W.heap.size W w' := by
  rw [sum_ones] at hb1
  have hk := bounds_u8 w0
  obtain ⟨K1, h1⟩ := lent_ev l1 (by omega)
  obtain ⟨K2, h2⟩ := kept_ev l1 (by omega)
  obtain ⟨K3, h3⟩ := refSeal_ev a0 l1 (by omega) (by omega) (bytes_wf hw1)
  have hP := sealP_length a0 l1
  exact wicketlaw01_FrameSeals.walk (K1 + K2 + K3) a0 A1 c1 l1 (l1 ++ marks) (sealP a0 l1).1 (sealP a0 l1).2 W hT hr1 hc1 (h1 _ (by omega)) (List.take_left) (by rw [List.length_append, marks_length]; omega) (frameSeal_f a0 l1) (h3 _ (by omega)) rfl (same_ev _) (h2 _ (by omega)) (by omega) rfl
end Go.Proofs.YtdlfhpkkkhfhdaaDoor.Hand
