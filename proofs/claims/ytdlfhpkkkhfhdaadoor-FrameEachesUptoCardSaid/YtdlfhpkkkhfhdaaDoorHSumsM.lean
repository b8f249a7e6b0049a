/- FrameSums: the walk and the plain law, joined. -/
import Derived.Test.YtdlfhpkkkhfhdaaDoorHSums
import Derived.Test.YtdlfhpkkkhfhdaaDoorHOpens
import Derived.OpenShut
namespace Go.Proofs.YtdlfhpkkkhfhdaaDoor.Hand
set_option linter.unusedVariables false
open Go.RowKit Go.Proofs.YtdlfhpkkkhfhdaaDoorW.PrintWords Go.Proofs.YtdlfhpkkkhfhdaaDoorW.PrintLast Go.Proofs.YtdlfhpkkkhfhdaaDoorW.PrintMore Go.Proofs.YtdlfhpkkkhfhdaaDoor.Q
theorem bytes_wf {l : List Int} (h : ∀ x ∈ l, (Lit.int .u8 x).wf = true) : Bytes l := fun x hx => by
  have := bounds_u8 (h x hx)
  omega
theorem frameSums_machine (W : World) (hT : Tb W) (A0 : Option Addr) (c0 : Nat) (l0 : List Int) (hr0 : (Kd.int .u8).C W A0 l0.length l0) (hc0 : l0.length ≤ c0) (hw0 : ∀ x ∈ l0, (Lit.int .u8 x).wf = true) (hb0 : (l0.map fun _ => 1).sum + 1 ≤ 1048576)
    (A1 : Option Addr) (c1 : Nat) (l1 : List Int) (hr1 : (Kd.int .u8).C W A1 l1.length l1) (hc1 : l1.length ≤ c1) (hw1 : ∀ x ∈ l1, (Lit.int .u8 x).wf = true) (hb1 : (l1.map fun _ => 1).sum + 1 ≤ 1048576) (a2 : Int) (w2 : (Lit.int .u32 a2).wf = true) :
    Calls Tryd.prog 3 #[.slice A0 l0.length c0, .slice A1 l1.length c1, .int .u32 a2] W fun e w' => e = .returned (.bool true) ∧ Below W.heap.size W w' := by
  rw [sum_ones] at hb0 hb1
  obtain ⟨k, h⟩ := (frameSums_ev l0 l1 a2 (by omega) (by omega) (bytes_wf hw0) (bytes_wf hw1)).rounds
  exact wicketlaw01_FrameSums.calls k A0 c0 l0 A1 c1 l1 a2 true W hT hr0 hc0 hr1 hc1 h
end Go.Proofs.YtdlfhpkkkhfhdaaDoor.Hand
