/- Limit: Sweep, made, live. -/
import Derived.Test.YtgdjoochbgeokaaLimD
import Derived.Test.YtgdjoochbgeokaaPLimitMostx
namespace Go.Proofs.Ytgdjoochbgeokaa.Hand
open Go.RowKit Go.Maps Go.Proofs.YtgdjoochbgeokaaW.PrintWords Go.Proofs.YtgdjoochbgeokaaW.PrintLast Go.Proofs.YtgdjoochbgeokaaW.PrintMore Go.Proofs.Ytgdjoochbgeokaa.PLimitMost
set_option linter.unusedVariables false
set_option linter.unusedSimpArgs false

set_option maxHeartbeats 1000000 in
theorem limit_Sweep.calls (g m n : Nat) (tr mo sp ck now : Int) (D : DW) (w : World) (hL : LimAt w g m tr mo sp ck) (hO : Owns w m n D) :
    Calls Try.prog 12 #[.pointer (some ⟨g, 0, none⟩), .int .u64 now] w fun e w' => ∃ (r : Nat) (D' : DW) (n' : Nat), e = .returned (.int .i64 r) ∧ KeptL (fun b => b = g ∨ b = m) w w' ∧ LimAt w' g m tr mo sp (max now ck) ∧ Owns w' m n' D' ∧ Purged D D' (max now ck) sp := by
  have HL := Aside0.mk hL
  have HO := Aside0.mk hO
  clear hL hO
  go_enter Try.func12, Try.ntmps12
  go_wp2_with fail
  refine (limit_forward.calls g m n tr mo sp ck now D w HL.out HO.out).mono ?_
  rintro x w1 ⟨⟨v, rfl⟩, hK, D1, hL1, hO1, hP⟩
  have hlen := hO1.len Try.underlying56
  have c4 := (blk_cell hL1 4).trans rfl
  have HR : Aside0 (∃ (r : Nat) (D' : DW) (n' : Nat), Ending.returned (Value.int .i64 (Maps.size D1)) = .returned (.int .i64 r) ∧ KeptL (fun b => b = g ∨ b = m) w w1 ∧ LimAt w1 g m tr mo sp (max now ck) ∧ Owns w1 m n' D' ∧ Purged D D' (max now ck) sp) := ⟨Maps.size D1, D1, n, rfl, hK, hL1, hO1, hP⟩
  clear hK hL1 hO1 hP
  go_wp2_with fail
  go_ret
  exact HR.out
theorem refNew_good {tr sp mo : Int} (h : okNew tr sp mo) : wicketref08_New.f tr sp mo = some (tr, sp, mo, 0, [], 0) := by
  obtain ⟨h1, h2, h3, h4, h5⟩ := h
  unfold wicketref08_New.f
  rw [if_neg h1, if_neg h2, if_neg h3, if_neg h4, if_neg h5]
theorem refNew_bad {tr sp mo : Int} (h : ¬ okNew tr sp mo) : wicketref08_New.f tr sp mo = some (0, 0, 0, 0, [], 2) := by
  unfold wicketref08_New.f
  unfold okNew at h
  by_cases h1 : tr < 1
  · rw [if_pos h1]
  rw [if_neg h1]
  by_cases h2 : tr > 1000000
  · rw [if_pos h2]
  rw [if_neg h2]
  by_cases h3 : sp = 0
  · rw [if_pos h3]
  rw [if_neg h3]
  by_cases h4 : mo < 1
  · rw [if_pos h4]
  rw [if_neg h4, if_pos (by omega)]
set_option maxHeartbeats 1000000 in
theorem lim_made.good (tr sp mo : Int) (A : Option Addr) (N C : Nat) (w : World) (h : okNew tr sp mo) :
    Calls Try.prog 7 #[.agg #[.int .i64 tr, .int .u64 sp, .int .i64 mo, .slice A N C]] w fun e w' => ∃ g m, e = .returned (.pointer (some ⟨g, 0, none⟩)) ∧ LimAt w' g m tr mo sp 0 ∧ Owns w' m 0 (.map []) ∧ Below w.heap.size w w' ∧ w.heap.size ≤ g ∧ w.heap.size ≤ m := by
  have HH := Aside0.mk h
  clear h
  go_enter Try.func7, Try.ntmps7
  have HRN := Aside0.mk (refNew_good HH.out)
  have HX := Aside0.mk (blk_new w (.cells #[.int .i64 tr, .int .u64 sp, .int .i64 mo, .slice A N C] 25 (0, 0)))
  have HB := Aside0.mk (below_alloc (Below.refl w.heap.size w) (.cells #[.int .i64 tr, .int .u64 sp, .int .i64 mo, .slice A N C] 25 (0, 0)))
  go_wp2_with fail
  obtain ⟨B, hB⟩ : ∃ B, B = w.heap.size := ⟨_, rfl⟩
  obtain ⟨w1, hw1⟩ : ∃ w1, w1 = w.alloc (.cells #[.int .i64 tr, .int .u64 sp, .int .i64 mo, .slice A N C] 25) := ⟨_, rfl⟩
  rw [← hB, ← hw1] at HX
  rw [← hw1] at HB
  rw [← hB, ← hw1]
  clear hB hw1
  refine (wicketref08_New.calls tr sp mo tr sp mo 0 [] 0 w1 HRN.out).mono ?_
  rintro x w2 ⟨v4, rfl, ho, hb⟩
  obtain ⟨A4, c4, hv4⟩ := Kd.R_slice ho
  subst hv4
  replace HX := Aside0.mk (blk_below HX.out hb)
  replace HB := Aside0.mk (below_step HB.out hb)
  clear ho hb
  have HX2 := Aside0.mk (blk_alloc HX.out (.cells #[.int .i64 tr, .int .u64 sp, .int .i64 mo, .int .u64 0, .slice A4 0 c4] 31))
  replace HB := Aside0.mk (below_alloc HB.out (.cells #[.int .i64 tr, .int .u64 sp, .int .i64 mo, .int .u64 0, .slice A4 0 c4] 31))
  have b0 := (blk_cell HX2.out 0).trans rfl
  have b1 := (blk_cell HX2.out 1).trans rfl
  have b2 := (blk_cell HX2.out 2).trans rfl
  go_wp2_with fail
  refine (limit_New.good tr sp mo _ HH.out).mono ?_
  rintro x w4 ⟨g, m, rfl, hL, hO, hb, h1, h2⟩
  have HF := Aside0.mk (show LimAt w4 g m tr mo sp 0 ∧ Owns w4 m 0 (.map []) ∧ Below w.heap.size w w4 ∧ w.heap.size ≤ g ∧ w.heap.size ≤ m from ⟨hL, hO, below_step HB.out hb, Nat.le_trans HB.out.size h1, Nat.le_trans HB.out.size h2⟩)
  clear hL hO hb h1 h2 b0 b1 b2 HX2 HB HX
  go_wp2_with fail
  go_ret
  exact ⟨g, m, rfl, HF.out⟩
set_option maxHeartbeats 1000000 in
theorem lim_made.bad (tr sp mo : Int) (A : Option Addr) (N C : Nat) (w : World) (h : ¬ okNew tr sp mo) :
    Calls Try.prog 7 #[.agg #[.int .i64 tr, .int .u64 sp, .int .i64 mo, .slice A N C]] w fun e w' => e = .returned (.pointer none) ∧ Below w.heap.size w w' := by
  have HH := Aside0.mk h
  clear h
  go_enter Try.func7, Try.ntmps7
  have HRN := Aside0.mk (refNew_bad HH.out)
  have HX := Aside0.mk (blk_new w (.cells #[.int .i64 tr, .int .u64 sp, .int .i64 mo, .slice A N C] 25 (0, 0)))
  have HB := Aside0.mk (below_alloc (Below.refl w.heap.size w) (.cells #[.int .i64 tr, .int .u64 sp, .int .i64 mo, .slice A N C] 25 (0, 0)))
  go_wp2_with fail
  obtain ⟨B, hB⟩ : ∃ B, B = w.heap.size := ⟨_, rfl⟩
  obtain ⟨w1, hw1⟩ : ∃ w1, w1 = w.alloc (.cells #[.int .i64 tr, .int .u64 sp, .int .i64 mo, .slice A N C] 25) := ⟨_, rfl⟩
  rw [← hB, ← hw1] at HX
  rw [← hw1] at HB
  rw [← hB, ← hw1]
  clear hB hw1
  refine (wicketref08_New.calls tr sp mo 0 0 0 0 [] 2 w1 HRN.out).mono ?_
  rintro x w2 ⟨v4, rfl, ho, hb⟩
  obtain ⟨A4, c4, hv4⟩ := Kd.R_slice ho
  subst hv4
  replace HX := Aside0.mk (blk_below HX.out hb)
  replace HB := Aside0.mk (below_step HB.out hb)
  clear ho hb
  replace HB := Aside0.mk (below_alloc HB.out (.cells #[.int .i64 0, .int .u64 0, .int .i64 0, .int .u64 0, .slice A4 0 c4] 31))
  go_wp2_with fail
  go_ret
  exact ⟨rfl, HB.out⟩
end Go.Proofs.Ytgdjoochbgeokaa.Hand
