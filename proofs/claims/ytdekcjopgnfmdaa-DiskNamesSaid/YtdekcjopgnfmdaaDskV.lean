/- Disk: the law DiskNames. -/
import Derived.Test.YtdekcjopgnfmdaaDskU
namespace Go.Proofs.Ytdekcjopgnfmdaa.Hand
open Go.RowKit Go.Maps Go.Proofs.YtdekcjopgnfmdaaW.PrintWords Go.Proofs.YtdekcjopgnfmdaaW.PrintLast Go.Proofs.YtdekcjopgnfmdaaW.PrintMore Go.Proofs.Ytdekcjopgnfmdaa.Q
set_option linter.unusedVariables false
set_option linter.unusedSimpArgs false
set_option maxHeartbeats 4000000 in
set_option maxRecDepth 100000 in
theorem diskNames_machine (w : World) : Calls Try.prog 3 #[] w fun e w' => e = .returned (.bool true) ∧ Below w.heap.size w w' := by
  have HB0 := Aside0.mk (Below.refl w.heap.size w)
  go_enter Try.func3, Try.ntmps3
  go_wp2_with fail
  refine (wicketlaw05_num.calls 50 50 _ rfl).mono ?_
  rintro x w1 ⟨rfl, hd1⟩
  have HB1 := Aside0.mk (below_step HB0.out hd1.below)
  clear hd1
  go_wp2_with fail
  refine (wicketlaw05_num.calls 51 51 _ rfl).mono ?_
  rintro x w2 ⟨rfl, hd2⟩
  have HB2 := Aside0.mk (below_step HB1.out hd2.below)
  clear hd2
  go_wp2_with fail
  refine (wicketlaw05_num.calls 5 5 _ rfl).mono ?_
  rintro x w3 ⟨rfl, hd3⟩
  have HB3 := Aside0.mk (below_step HB2.out hd3.below)
  clear hd3
  go_wp2_with fail
  refine (wicketlaw05_num.calls 7 7 _ rfl).mono ?_
  rintro x w4 ⟨rfl, hd4⟩
  have HB4 := Aside0.mk (below_step HB3.out hd4.below)
  clear hd4
  go_wp2_with fail
  refine (wicketlaw05_num.calls 8 8 _ rfl).mono ?_
  rintro x w5 ⟨rfl, hd5⟩
  have HB5 := Aside0.mk (below_step HB4.out hd5.below)
  clear hd5
  go_wp2_with fail
  refine (law_live.calls w5).mono ?_
  rintro x w6 ⟨rfl, hb6⟩
  have HB6 := Aside0.mk (below_step HB5.out hb6)
  clear hb6
  go_wp2_with fail
  go_ret
  exact ⟨rfl, HB6.out⟩
end Go.Proofs.Ytdekcjopgnfmdaa.Hand
