/- FrameForms: the walk and the plain law, joined. -/
import Derived.Test.YtdlfhpkkkhfhdaaDoorHFormsW
import Derived.Test.YtdlfhpkkkhfhdaaDoorHTextF
import Derived.Test.YtdlfhpkkkhfhdaaDoorHOpens
import Derived.OpenShut
namespace Go.Proofs.YtdlfhpkkkhfhdaaDoor.Hand
set_option linter.unusedVariables false
open Go.RowKit Go.Proofs.YtdlfhpkkkhfhdaaDoorW.PrintWords Go.Proofs.YtdlfhpkkkhfhdaaDoorW.PrintLast Go.Proofs.YtdlfhpkkkhfhdaaDoorW.PrintMore Go.Proofs.YtdlfhpkkkhfhdaaDoor.Q
theorem frameForms_machine (W : World) (hT : Tb W) (A0 : Option Addr) (c0 : Nat) (l0 : List Int) (hr0 : (Kd.int .u8).C W A0 l0.length l0) (hc0 : l0.length ≤ c0) (hw0 : ∀ x ∈ l0, (Lit.int .u8 x).wf = true) (hb0 : (l0.map fun _ => 1).sum + 1 ≤ 1048576) (a1 : Int) (w1 : (Lit.int .i64 a1).wf = true) :
    Calls Tryd.prog 11 #[.slice A0 l0.length c0, .int .i64 a1] W fun e w' => e = .returned (.bool true) ∧ Below W.heap.size W w' := by
  rw [sum_ones] at hb0
  have hk := bounds_i64 w1
  have hw := bytes_wf hw0
  obtain ⟨K1, h1⟩ := frameUint_ev l0 (by omega) hw
  obtain ⟨K2, h2⟩ := frameText_ev l0 a1 (by omega) hw (by omega)
  have h3 := frameOpen_f l0 (by omega) hw
  refine wicketlaw01_FrameForms.walk (K1 + K2) A0 c0 l0 a1 (uintP l0 0 0).1 (uintP l0 0 0).2.1 (uintP l0 0 0).2.2 (textP l0 a1).2.1 (textP l0 a1).2.2 (openP l0).1 (openP l0).2.2.1 (openP l0).2.2.2 (textP l0 a1).1 (openP l0).2.1 W hT hr0 hc0
    (h1 _ (by omega)) (h2 _ (by omega)) h3 (fun e => ?_) (fun e => ?_) (fun e => ?_) same_ev rfl
  · obtain ⟨X, a, b, c, d, f⟩ := uint_back l0 (uintP l0 0 0).1 (uintP l0 0 0).2.1 (by omega) hw (Prod.ext rfl (Prod.ext rfl e))
    have hr := uintP_range l0 0 0 hw (by decide) (by decide) (by decide) e
    exact ⟨X, ⟨a, b, c⟩, d, by rw [framePutUint_f [] _ (by simp) hr.2.1, f]; rfl⟩
  · obtain ⟨X, a, b, c, d, f, g⟩ := text_back l0 a1 (textP l0 a1).1 (textP l0 a1).2.1 (by omega) hw (Prod.ext rfl (Prod.ext rfl e))
    exact ⟨X, ⟨a, b, c⟩, d, f, g⟩
  · obtain ⟨X, a, b, c, d, f⟩ := open_back l0 (openP l0).1 (openP l0).2.2.1 (openP l0).2.1 (by omega) hw (Prod.ext rfl (Prod.ext rfl (Prod.ext rfl e)))
    exact ⟨X, ⟨a, b, c⟩, d, f⟩
end Go.Proofs.YtdlfhpkkkhfhdaaDoor.Hand
