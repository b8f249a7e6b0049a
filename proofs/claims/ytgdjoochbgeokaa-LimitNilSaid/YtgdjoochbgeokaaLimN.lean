/- Limit: a nil limit: LimitNil's walk. -/
import Derived.Test.YtgdjoochbgeokaaLimF
namespace Go.Proofs.Ytgdjoochbgeokaa.Hand
open Go.RowKit Go.Maps Go.Proofs.YtgdjoochbgeokaaW.PrintWords Go.Proofs.YtgdjoochbgeokaaW.PrintLast Go.Proofs.YtgdjoochbgeokaaW.PrintMore Go.Proofs.Ytgdjoochbgeokaa.PLimitMost
set_option linter.unusedVariables false
set_option linter.unusedSimpArgs false
theorem limit_Try.nil (s : ByteArray) (now : Int) (w : World) : Calls Try.prog 10 #[.pointer none, .string s, .int .u64 now] w fun e w' => e = .returned (.tuple #[.int .i64 0, .int .i64 0]) ∧ w' = w := by
  go_enter Try.func10, Try.ntmps10
  go_wp2_with fail
  go_ret2
  exact ⟨rfl, rfl⟩
theorem limit_Clear.nil (w : World) : Calls Try.prog 15 #[.pointer none] w fun e w' => (∃ v, e = .returned v) ∧ w' = w := by
  go_enter Try.func15, Try.ntmps15
  go_wp2_with fail
  refine bodyPost_ret (results_none rfl _ _ _) rfl ?_
  exact ⟨⟨_, rfl⟩, rfl⟩
theorem limit_Left.nil (s : ByteArray) (now : Int) (w : World) : Calls Try.prog 16 #[.pointer none, .string s, .int .u64 now] w fun e w' => e = .returned (.int .i64 0) ∧ w' = w := by
  go_enter Try.func16, Try.ntmps16
  go_wp2_with fail
  go_ret
  exact ⟨rfl, rfl⟩
theorem limit_Wait.nil (s : ByteArray) (now : Int) (w : World) : Calls Try.prog 17 #[.pointer none, .string s, .int .u64 now] w fun e w' => e = .returned (.int .u64 0) ∧ w' = w := by
  go_enter Try.func17, Try.ntmps17
  go_wp2_with fail
  go_ret
  exact ⟨rfl, rfl⟩
theorem limit_Forgive.nil (s : ByteArray) (w : World) : Calls Try.prog 18 #[.pointer none, .string s] w fun e w' => e = .returned (.bool false) ∧ w' = w := by
  go_enter Try.func18, Try.ntmps18
  go_wp2_with fail
  go_ret
  exact ⟨rfl, rfl⟩
theorem limit_Sweep.nil (now : Int) (w : World) : Calls Try.prog 12 #[.pointer none, .int .u64 now] w fun e w' => e = .returned (.int .i64 0) ∧ w' = w := by
  go_enter Try.func12, Try.ntmps12
  go_wp2_with fail
  go_ret
  exact ⟨rfl, rfl⟩
theorem limit_Subjects.nil  (w : World) : Calls Try.prog 19 #[.pointer none] w fun e w' => e = .returned (.slice none 0 0) ∧ w' = w := by
  go_enter Try.func19, Try.ntmps19
  go_wp2_with fail
  go_ret
  exact ⟨rfl, rfl⟩
set_option maxHeartbeats 2000000 in
set_option maxRecDepth 100000 in
theorem limitNil_machine (W : World) : Calls Try.prog 6 #[] W fun e w' => e = .returned (.bool true) ∧ Below W.heap.size W w' := by
  go_enter Try.func6, Try.ntmps6
  go_wp2_with fail
  refine (limit_Try.nil _ _ W).mono ?_
  rintro x w1 ⟨rfl, rfl⟩
  go_wp2_with fail
  refine (limit_Clear.nil w1).mono ?_
  rintro x w1 ⟨⟨v, rfl⟩, rfl⟩
  have HB := Aside0.mk (Below.refl w1.heap.size w1)
  go_wp2_with fail
  refine (lim_live.calls w1).mono ?_
  rintro x w3 ⟨rfl, hb⟩
  replace HB := Aside0.mk hb
  clear hb
  go_wp2_with (first
    | (go_at_call 11; (with_reducible refine (wicketlaw08_num.calls _ _ _ rfl).mono ?_); rintro e w7 ⟨rfl, hd⟩; replace HB := Aside0.mk (below_step HB.out (drawn_belowL hd)); clear hd)
    | (go_at_call 16; (with_reducible refine (limit_Left.nil _ _ _).mono ?_); rintro e w2 ⟨rfl, rfl⟩)
    | (go_at_call 17; (with_reducible refine (limit_Wait.nil _ _ _).mono ?_); rintro e w2 ⟨rfl, rfl⟩)
    | (go_at_call 18; (with_reducible refine (limit_Forgive.nil _ _).mono ?_); rintro e w2 ⟨rfl, rfl⟩)
    | (go_at_call 12; (with_reducible refine (limit_Sweep.nil _ _).mono ?_); rintro e w2 ⟨rfl, rfl⟩)
    | (go_at_call 19; (with_reducible refine (limit_Subjects.nil _).mono ?_); rintro e w2 ⟨rfl, rfl⟩))
  go_ret
  exact ⟨rfl, HB.out⟩
end Go.Proofs.Ytgdjoochbgeokaa.Hand
