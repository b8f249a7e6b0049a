import Derived.Test.YtkgdlmgodpgcoaaPWheelLaterx1
import Derived.OpenShut
namespace Go.Proofs.Ytkgdlmgodpgcoaa.Pure
open Go.RowKit Go.Proofs.Ytkgdlmgodpgcoaa.PWheelLater Go.Proofs.YtkgdlmgodpgcoaaW.PrintWords Go.Proofs.YtkgdlmgodpgcoaaW.PrintLast

theorem wrapU (n : Int) : IntKind.u64.wrap n = n % 18446744073709551616 := by simp [IntKind.wrap, IntKind.bits, IntKind.signed]
/-- YOURS: ∀ (a0 : Int) (a1 : Int), (Lit.int .u64 a0).wf = true → (Lit.int .u64 a1).wf = true → wicketlaw07_WheelLater.f a0 a1 = some true
What it reaches (each with k first where it has rounds; `.mono`: more rounds tell the same; `.l0`, ..: its loops, with `.mono_l`): wheel_Later.f, wicketref07_Later.f, wicketlaw07_WheelLater.f -/
theorem WheelLater : wicketlaw07_WheelLater.Pure := by
  intro a b ha hb
  have h1 : 0 ≤ a ∧ a < 18446744073709551616 := by
    have := bounds_u64 ha
    omega
  have h2 : 0 ≤ b ∧ b < 18446744073709551616 := by
    have := bounds_u64 hb
    omega
  have e1 : IntKind.u64.wrap (18446744073709551615 - a) = 18446744073709551615 - a := by
    rw [wrapU]
    omega
  unfold wicketlaw07_WheelLater.f wheel_Later.f wicketref07_Later.f
  rw [e1]
  by_cases h : b > 18446744073709551615 - a
  · simp only [h, ↓reduceIte, Option.bind_some]
    rw [if_neg (by omega), if_neg (by omega)]
    split <;> rfl
  · have e2 : IntKind.u64.wrap (a + b) = a + b := by
      rw [wrapU]
      omega
    have e3 : IntKind.u64.wrap (a + b - a) = b := by
      rw [wrapU]
      omega
    simp only [h, ↓reduceIte, Option.bind_some, e2, e3]
    rw [if_neg (by omega), if_neg (by omega)]

end Go.Proofs.Ytkgdlmgodpgcoaa.Pure
