/- Limit: New, and Try. -/
import Derived.Test.YtgdjoochbgeokaaLimB
import Derived.Carry
namespace Go.Proofs.Ytgdjoochbgeokaa.Hand
open Go.RowKit Go.Maps Go.Proofs.YtgdjoochbgeokaaW.PrintWords Go.Proofs.YtgdjoochbgeokaaW.PrintLast Go.Proofs.YtgdjoochbgeokaaW.PrintMore
set_option linter.unusedVariables false
set_option linter.unusedSimpArgs false

/-- May a limit be made so? -/
def okNew (tr sp mo : Int) : Prop := ¬ tr < 1 ∧ ¬ tr > 1000000 ∧ ¬ sp = 0 ∧ ¬ mo < 1 ∧ ¬ mo > 4096
instance (tr sp mo : Int) : Decidable (okNew tr sp mo) := by unfold okNew; exact inferInstance
set_option maxHeartbeats 1000000 in
theorem limit_New.good (tr sp mo : Int) (w : World) (h : okNew tr sp mo) :
    Calls Try.prog 13 #[.int .i64 tr, .int .u64 sp, .int .i64 mo] w fun e w' => ∃ g m, e = .returned (.tuple #[.pointer (some ⟨g, 0, none⟩), .int .i64 0]) ∧ LimAt w' g m tr mo sp 0 ∧ Owns w' m 0 (.map []) ∧ Below w.heap.size w w' ∧ w.heap.size ≤ g ∧ w.heap.size ≤ m := by
  obtain ⟨h1, h2, h3, h4, h5⟩ := h
  have d1 : decide (tr < 1) = false := decide_eq_false h1
  have d2 : decide (tr > 1000000) = false := decide_eq_false h2
  have d3 : (sp == 0) = false := beq_eq_false_iff_ne.mpr h3
  have d4 : decide (mo < 1) = false := decide_eq_false h4
  have d5 : decide (mo > 4096) = false := decide_eq_false h5
  clear h1 h2 h3 h4 h5
  have hmm := @run_makeMap Try.prog
  go_enter Try.func13, Try.ntmps13
  go_wp2_with fail
  go_ret2
  refine ⟨w.heap.size + 1, w.heap.size, by simp, ?_, (World.ownsMap_made w Try.prog 9 winElem).alloc _, below_alloc (below_alloc (Below.refl _ _) _) _, by omega, Nat.le_refl _⟩
  have h := blk_new (w.alloc (.map #[] 0)) (.cells #[.int .i64 tr, .int .i64 mo, .int .u64 sp, .int .u64 0, .map (some w.heap.size)] 58 (0, 0))
  rw [World.size_alloc] at h
  exact h
set_option maxHeartbeats 1000000 in
theorem limit_New.bad (tr sp mo : Int) (w : World) (h : ¬ okNew tr sp mo) :
    Calls Try.prog 13 #[.int .i64 tr, .int .u64 sp, .int .i64 mo] w fun e w' => e = .returned (.tuple #[.pointer none, .int .i64 2]) ∧ Below w.heap.size w w' := by
  have hc : tr < 1 ∨ tr > 1000000 ∨ sp = 0 ∨ mo < 1 ∨ mo > 4096 := by
    unfold okNew at h
    omega
  clear h
  go_enter Try.func13, Try.ntmps13
  by_cases h1 : tr < 1
  · have d1 : decide (tr < 1) = true := decide_eq_true h1
    clear hc h1
    go_wp2_with fail
    go_ret2
    exact ⟨rfl, Below.refl _ _⟩
  have d1 : decide (tr < 1) = false := decide_eq_false h1
  by_cases h2 : tr > 1000000
  · have d2 : decide (tr > 1000000) = true := decide_eq_true h2
    clear hc h1 h2
    go_wp2_with fail
    go_ret2
    exact ⟨rfl, Below.refl _ _⟩
  have d2 : decide (tr > 1000000) = false := decide_eq_false h2
  by_cases h3 : sp = 0
  · have d3 : (sp == 0) = true := beq_iff_eq.mpr h3
    clear hc h1 h2 h3
    go_wp2_with fail
    go_ret2
    exact ⟨rfl, Below.refl _ _⟩
  have d3 : (sp == 0) = false := beq_eq_false_iff_ne.mpr h3
  by_cases h4 : mo < 1
  · have d4 : decide (mo < 1) = true := decide_eq_true h4
    clear hc h1 h2 h3 h4
    go_wp2_with fail
    go_ret2
    exact ⟨rfl, Below.refl _ _⟩
  have d4 : decide (mo < 1) = false := decide_eq_false h4
  have d5 : decide (mo > 4096) = true := decide_eq_true (by omega)
  clear hc h1 h2 h3 h4
  go_wp2_with fail
  go_ret2
  exact ⟨rfl, Below.refl _ _⟩
end Go.Proofs.Ytgdjoochbgeokaa.Hand
