/- FrameNumbers: the walk and the plain law, joined. -/
import Derived.Test.YtdlfhpkkkhfhdaaHNumPure
import Derived.Test.YtdlfhpkkkhfhdaaHNumbersW
import Derived.Test.YtdlfhpkkkhfhdaaHOpens
import Derived.OpenShut
namespace Go.Proofs.Ytdlfhpkkkhfhdaa.Hand
set_option linter.unusedVariables false
open Go.RowKit Go.Proofs.YtdlfhpkkkhfhdaaW.PrintWords Go.Proofs.YtdlfhpkkkhfhdaaW.PrintLast Go.Proofs.YtdlfhpkkkhfhdaaW.PrintMore Go.Proofs.Ytdlfhpkkkhfhdaa.Q
theorem bytesN_wf {l : List Int} (h : ∀ x ∈ l, (Lit.int .u8 x).wf = true) : ∀ x ∈ l, 0 ≤ x ∧ x ≤ 255 := fun x hx => by
  have := bounds_u8 (h x hx)
  omega
theorem frameNumbers_machine (W : World) (A0 : Option Addr) (c0 : Nat) (l0 : List Int) (hr0 : (Kd.int .u8).C W A0 l0.length l0) (hc0 : l0.length ≤ c0) (hw0 : ∀ x ∈ l0, (Lit.int .u8 x).wf = true) (hb0 : (l0.map fun _ => 1).sum + 1 ≤ 1048576) (a1 : Int) (w1 : (Lit.int .u64 a1).wf = true) :
    Calls Try.prog 3 #[.slice A0 l0.length c0, .int .u64 a1] W fun e w' => e = .returned (.bool true) ∧ Below W.heap.size W w' := by
  rw [sum_ones] at hb0
  have hk := bounds_u64 w1
  have hx := xor_u64_range IntKind.u64.max a1
  have hw := bytesN_wf hw0
  obtain ⟨K1, h1⟩ := lent_ev l0 (by omega)
  obtain ⟨K2, h2⟩ := kept_ev l0 (by omega)
  obtain ⟨K3, h3⟩ := refPutUint_ev l0 a1 (by omega) (by omega) (by omega)
  obtain ⟨K4, h4⟩ := refPutUint_ev l0 (Go.bits .xor .u64 IntKind.u64.max a1) (by omega) hx.1 hx.2
  obtain ⟨K5, h5⟩ := frameUint_ev l0 (by omega) hw
  obtain ⟨K6, h6⟩ := refUint_ev l0 (by omega) hw
  have n1 := uvI_len 9 a1 (by omega)
  have n2 := uvI_len 9 (Go.bits .xor .u64 IntKind.u64.max a1) (by omega)
  exact wicketlaw01_FrameNumbers.walk (K1 + K2 + K3 + K4 + K5 + K6) A0 c0 l0 (l0 ++ marks) (l0 ++ uvI a1) (l0 ++ uvI (Go.bits .xor .u64 IntKind.u64.max a1)) a1 _ (uintP l0 0 0).1 (uintP l0 0 0).2.1 (uintP l0 0 0).2.2 W hr0 hc0 rfl (h1 _ (by omega)) (List.take_left) (by rw [List.length_append, marks_length]; omega)
    (framePutUint_f l0 a1 (by omega) (by omega)) (framePutUint_f l0 _ (by omega) hx.2) (h3 _ (by omega)) (h4 _ (by omega)) (same_ev _) (same_ev _) (h2 _ (by omega)) (h5 _ (by omega)) (h6 _ (by omega)) rfl (by rw [List.length_append]; omega) (by rw [List.length_append]; omega)
end Go.Proofs.Ytdlfhpkkkhfhdaa.Hand
