/- Printed out of the translation by our turned copy of the printer (wip/tools/mkpp.py of our repo). -/
import Derived.Test.YtdlfhpkkkhfhdaaDoorZx0
namespace Go.Proofs.YtdlfhpkkkhfhdaaDoor.Z
open Go.Proofs.YtdlfhpkkkhfhdaaDoor.Hand Go.Proofs.YtdlfhpkkkhfhdaaDoor.Q
open Go.RowKit Go.Proofs.YtdlfhpkkkhfhdaaDoorW.PrintWords Go.Proofs.YtdlfhpkkkhfhdaaDoorW.PrintLast Go.Proofs.YtdlfhpkkkhfhdaaDoorW.PrintMore
attribute [local go_sem] max2_int min2_int max_two min_two max_three min_three max_four min_four   -- for this text's walks alone
set_option linter.unusedVariables false
set_option linter.unusedSimpArgs false

/-! ### wicketlaw01_FrameNames: function 4 -/
def wicketlaw01_FrameNames.f  : Option (Bool) := (wicketlaw01_num.f 0).bind fun t101 => (if t101 = 0 then ((wicketlaw01_num.f 1).bind fun t102 => (if t102 = 1 then ((wicketlaw01_num.f 2).bind fun t103 => (if t103 = 2 then ((wicketlaw01_num.f 3).bind fun t104 => (if t104 = 3 then ((wicketlaw01_num.f 10).bind fun t105 => (if t105 = 10 then ((wicketlaw01_num.f 11).bind fun t106 => (if t106 = 11 then ((wicketlaw01_num.f 12).bind fun t107 => (if t107 = 12 then ((wicketlaw01_num.f 13).bind fun t108 => (if t108 = 13 then ((wicketlaw01_live.f).bind fun t109 => (some t109)) else (some false))) else (some false))) else (some false))) else (some false))) else (some false))) else (some false))) else (some false))) else (some false))
set_option maxHeartbeats 8000000 in
set_option maxRecDepth 100000 in
theorem wicketlaw01_FrameNames.calls  (r : Bool) (w : World) (hT : Tb w) (h : wicketlaw01_FrameNames.f  = some r) :
    Calls Tryd.prog 4 #[] w fun e w' => e = .returned (.bool r) ∧ Below w.heap.size w w' := by
  have HB := Aside0.mk (Below.refl w.heap.size w)
  have H : ((wicketlaw01_num.f 0).bind fun t101 => (if t101 = 0 then ((wicketlaw01_num.f 1).bind fun t102 => (if t102 = 1 then ((wicketlaw01_num.f 2).bind fun t103 => (if t103 = 2 then ((wicketlaw01_num.f 3).bind fun t104 => (if t104 = 3 then ((wicketlaw01_num.f 10).bind fun t105 => (if t105 = 10 then ((wicketlaw01_num.f 11).bind fun t106 => (if t106 = 11 then ((wicketlaw01_num.f 12).bind fun t107 => (if t107 = 12 then ((wicketlaw01_num.f 13).bind fun t108 => (if t108 = 13 then ((wicketlaw01_live.f).bind fun t109 => (some t109)) else (some false))) else (some false))) else (some false))) else (some false))) else (some false))) else (some false))) else (some false))) else (some false))) = some r := h
  clear h
  replace H := Option.bind_eq_some_iff.mp H
  obtain ⟨t101, A10, H⟩ := H
  replace H : (if t101 = 0 then ((wicketlaw01_num.f 1).bind fun t102 => (if t102 = 1 then ((wicketlaw01_num.f 2).bind fun t103 => (if t103 = 2 then ((wicketlaw01_num.f 3).bind fun t104 => (if t104 = 3 then ((wicketlaw01_num.f 10).bind fun t105 => (if t105 = 10 then ((wicketlaw01_num.f 11).bind fun t106 => (if t106 = 11 then ((wicketlaw01_num.f 12).bind fun t107 => (if t107 = 12 then ((wicketlaw01_num.f 13).bind fun t108 => (if t108 = 13 then ((wicketlaw01_live.f).bind fun t109 => (some t109)) else (some false))) else (some false))) else (some false))) else (some false))) else (some false))) else (some false))) else (some false))) else (some false)) = some r := H
  have A1 := Aside0.mk A10
  clear A10
  by_cases c2 : t101 = 0
  · rw [if_pos c2] at H
    have c2b0 : (t101 == 0) = true := beq_iff_eq.mpr c2
    have c2b1 : (t101 != 0) = false := bne_eq_false_iff_eq.mpr c2
    clear c2
    replace H := Option.bind_eq_some_iff.mp H
    obtain ⟨t102, A30, H⟩ := H
    replace H : (if t102 = 1 then ((wicketlaw01_num.f 2).bind fun t103 => (if t103 = 2 then ((wicketlaw01_num.f 3).bind fun t104 => (if t104 = 3 then ((wicketlaw01_num.f 10).bind fun t105 => (if t105 = 10 then ((wicketlaw01_num.f 11).bind fun t106 => (if t106 = 11 then ((wicketlaw01_num.f 12).bind fun t107 => (if t107 = 12 then ((wicketlaw01_num.f 13).bind fun t108 => (if t108 = 13 then ((wicketlaw01_live.f).bind fun t109 => (some t109)) else (some false))) else (some false))) else (some false))) else (some false))) else (some false))) else (some false))) else (some false)) = some r := H
    have A3 := Aside0.mk A30
    clear A30
    by_cases c4 : t102 = 1
    · rw [if_pos c4] at H
      have c4b0 : (t102 == 1) = true := beq_iff_eq.mpr c4
      have c4b1 : (t102 != 1) = false := bne_eq_false_iff_eq.mpr c4
      clear c4
      replace H := Option.bind_eq_some_iff.mp H
      obtain ⟨t103, A50, H⟩ := H
      replace H : (if t103 = 2 then ((wicketlaw01_num.f 3).bind fun t104 => (if t104 = 3 then ((wicketlaw01_num.f 10).bind fun t105 => (if t105 = 10 then ((wicketlaw01_num.f 11).bind fun t106 => (if t106 = 11 then ((wicketlaw01_num.f 12).bind fun t107 => (if t107 = 12 then ((wicketlaw01_num.f 13).bind fun t108 => (if t108 = 13 then ((wicketlaw01_live.f).bind fun t109 => (some t109)) else (some false))) else (some false))) else (some false))) else (some false))) else (some false))) else (some false)) = some r := H
      have A5 := Aside0.mk A50
      clear A50
      by_cases c6 : t103 = 2
      · rw [if_pos c6] at H
        have c6b0 : (t103 == 2) = true := beq_iff_eq.mpr c6
        have c6b1 : (t103 != 2) = false := bne_eq_false_iff_eq.mpr c6
        clear c6
        replace H := Option.bind_eq_some_iff.mp H
        obtain ⟨t104, A70, H⟩ := H
        replace H : (if t104 = 3 then ((wicketlaw01_num.f 10).bind fun t105 => (if t105 = 10 then ((wicketlaw01_num.f 11).bind fun t106 => (if t106 = 11 then ((wicketlaw01_num.f 12).bind fun t107 => (if t107 = 12 then ((wicketlaw01_num.f 13).bind fun t108 => (if t108 = 13 then ((wicketlaw01_live.f).bind fun t109 => (some t109)) else (some false))) else (some false))) else (some false))) else (some false))) else (some false)) = some r := H
        have A7 := Aside0.mk A70
        clear A70
        by_cases c8 : t104 = 3
        · rw [if_pos c8] at H
          have c8b0 : (t104 == 3) = true := beq_iff_eq.mpr c8
          have c8b1 : (t104 != 3) = false := bne_eq_false_iff_eq.mpr c8
          clear c8
          replace H := Option.bind_eq_some_iff.mp H
          obtain ⟨t105, A90, H⟩ := H
          replace H : (if t105 = 10 then ((wicketlaw01_num.f 11).bind fun t106 => (if t106 = 11 then ((wicketlaw01_num.f 12).bind fun t107 => (if t107 = 12 then ((wicketlaw01_num.f 13).bind fun t108 => (if t108 = 13 then ((wicketlaw01_live.f).bind fun t109 => (some t109)) else (some false))) else (some false))) else (some false))) else (some false)) = some r := H
          have A9 := Aside0.mk A90
          clear A90
          by_cases c10 : t105 = 10
          · rw [if_pos c10] at H
            have c10b0 : (t105 == 10) = true := beq_iff_eq.mpr c10
            have c10b1 : (t105 != 10) = false := bne_eq_false_iff_eq.mpr c10
            clear c10
            replace H := Option.bind_eq_some_iff.mp H
            obtain ⟨t106, A110, H⟩ := H
            replace H : (if t106 = 11 then ((wicketlaw01_num.f 12).bind fun t107 => (if t107 = 12 then ((wicketlaw01_num.f 13).bind fun t108 => (if t108 = 13 then ((wicketlaw01_live.f).bind fun t109 => (some t109)) else (some false))) else (some false))) else (some false)) = some r := H
            have A11 := Aside0.mk A110
            clear A110
            by_cases c12 : t106 = 11
            · rw [if_pos c12] at H
              have c12b0 : (t106 == 11) = true := beq_iff_eq.mpr c12
              have c12b1 : (t106 != 11) = false := bne_eq_false_iff_eq.mpr c12
              clear c12
              replace H := Option.bind_eq_some_iff.mp H
              obtain ⟨t107, A130, H⟩ := H
              replace H : (if t107 = 12 then ((wicketlaw01_num.f 13).bind fun t108 => (if t108 = 13 then ((wicketlaw01_live.f).bind fun t109 => (some t109)) else (some false))) else (some false)) = some r := H
              have A13 := Aside0.mk A130
              clear A130
              by_cases c14 : t107 = 12
              · rw [if_pos c14] at H
                have c14b0 : (t107 == 12) = true := beq_iff_eq.mpr c14
                have c14b1 : (t107 != 12) = false := bne_eq_false_iff_eq.mpr c14
                clear c14
                replace H := Option.bind_eq_some_iff.mp H
                obtain ⟨t108, A150, H⟩ := H
                replace H : (if t108 = 13 then ((wicketlaw01_live.f).bind fun t109 => (some t109)) else (some false)) = some r := H
                have A15 := Aside0.mk A150
                clear A150
                by_cases c16 : t108 = 13
                · rw [if_pos c16] at H
                  have c16b0 : (t108 == 13) = true := beq_iff_eq.mpr c16
                  have c16b1 : (t108 != 13) = false := bne_eq_false_iff_eq.mpr c16
                  clear c16
                  replace H := Option.bind_eq_some_iff.mp H
                  obtain ⟨t109, A170, H⟩ := H
                  replace H : (some t109) = some r := H
                  have A17 := Aside0.mk A170
                  clear A170
                  obtain rfl := Option.some.inj H
                  go_enter Tryd.func4, Tryd.ntmps4
                  go_wp2_with (first | (go_at_call 19; (with_reducible refine (wicketlaw01_num.calls 0 t101 _ A1.out).mono ?_); rintro e w' ⟨rfl, ⟨nd, rfl⟩⟩) | (go_at_call 19; (with_reducible refine (wicketlaw01_num.calls 1 t102 _ A3.out).mono ?_); rintro e w' ⟨rfl, ⟨nd, rfl⟩⟩) | (go_at_call 19; (with_reducible refine (wicketlaw01_num.calls 2 t103 _ A5.out).mono ?_); rintro e w' ⟨rfl, ⟨nd, rfl⟩⟩) | (go_at_call 19; (with_reducible refine (wicketlaw01_num.calls 3 t104 _ A7.out).mono ?_); rintro e w' ⟨rfl, ⟨nd, rfl⟩⟩) | (go_at_call 19; (with_reducible refine (wicketlaw01_num.calls 10 t105 _ A9.out).mono ?_); rintro e w' ⟨rfl, ⟨nd, rfl⟩⟩) | (go_at_call 19; (with_reducible refine (wicketlaw01_num.calls 11 t106 _ A11.out).mono ?_); rintro e w' ⟨rfl, ⟨nd, rfl⟩⟩) | (go_at_call 19; (with_reducible refine (wicketlaw01_num.calls 12 t107 _ A13.out).mono ?_); rintro e w' ⟨rfl, ⟨nd, rfl⟩⟩) | (go_at_call 19; (with_reducible refine (wicketlaw01_num.calls 13 t108 _ A15.out).mono ?_); rintro e w' ⟨rfl, ⟨nd, rfl⟩⟩) | (go_at_call 20; (with_reducible refine (wicketlaw01_live.calls  t109 _ ?side1 A17.out).mono ?_); (case side1 => first | exact hT | exact Tb.drewN hT _ | exact Tb.below hT (by repeat (first | (with_reducible first | exact HB.out | apply below_alloc | apply pw_below_drewN | apply below_drew1) | exact HB.out | exact Below.refl _ _)) | exact Tb.drew hT | exact Tb.drewN (Tb.drewN hT _) _); rintro e w18 ⟨rfl, hb⟩; have n0_ := Aside0.mk (below_step (by repeat (first | (with_reducible first | exact HB.out | apply below_alloc | apply pw_below_drewN | apply below_drew1) | exact HB.out | exact Below.refl _ _)) hb); clear HB; have HB := n0_; clear n0_; (try clear hb); (try clear hb2); (try clear hk); (try clear hi)))
                  go_ret
                  exact ⟨by first | rfl | (simp [errW_none, errW_some] <;> rfl) | (simp [*, errW_none, errW_some] <;> rfl), by repeat (first | (with_reducible first | exact HB.out | apply below_alloc | apply pw_below_drewN | apply below_drew1) | exact HB.out | exact Below.refl _ _)⟩
                · rw [if_neg c16] at H
                  have c16b0 : (t108 == 13) = false := beq_eq_false_iff_ne.mpr c16
                  have c16b1 : (t108 != 13) = true := bne_iff_ne.mpr c16
                  obtain rfl := Option.some.inj H
                  go_enter Tryd.func4, Tryd.ntmps4
                  go_wp2_with (first | (go_at_call 19; (with_reducible refine (wicketlaw01_num.calls 0 t101 _ A1.out).mono ?_); rintro e w' ⟨rfl, ⟨nd, rfl⟩⟩) | (go_at_call 19; (with_reducible refine (wicketlaw01_num.calls 1 t102 _ A3.out).mono ?_); rintro e w' ⟨rfl, ⟨nd, rfl⟩⟩) | (go_at_call 19; (with_reducible refine (wicketlaw01_num.calls 2 t103 _ A5.out).mono ?_); rintro e w' ⟨rfl, ⟨nd, rfl⟩⟩) | (go_at_call 19; (with_reducible refine (wicketlaw01_num.calls 3 t104 _ A7.out).mono ?_); rintro e w' ⟨rfl, ⟨nd, rfl⟩⟩) | (go_at_call 19; (with_reducible refine (wicketlaw01_num.calls 10 t105 _ A9.out).mono ?_); rintro e w' ⟨rfl, ⟨nd, rfl⟩⟩) | (go_at_call 19; (with_reducible refine (wicketlaw01_num.calls 11 t106 _ A11.out).mono ?_); rintro e w' ⟨rfl, ⟨nd, rfl⟩⟩) | (go_at_call 19; (with_reducible refine (wicketlaw01_num.calls 12 t107 _ A13.out).mono ?_); rintro e w' ⟨rfl, ⟨nd, rfl⟩⟩) | (go_at_call 19; (with_reducible refine (wicketlaw01_num.calls 13 t108 _ A15.out).mono ?_); rintro e w' ⟨rfl, ⟨nd, rfl⟩⟩))
                  go_ret
                  exact ⟨by first | rfl | (simp [errW_none, errW_some] <;> rfl) | (simp [*, errW_none, errW_some] <;> rfl), by repeat (first | (with_reducible first | exact HB.out | apply below_alloc | apply pw_below_drewN | apply below_drew1) | exact HB.out | exact Below.refl _ _)⟩
              · rw [if_neg c14] at H
                have c14b0 : (t107 == 12) = false := beq_eq_false_iff_ne.mpr c14
                have c14b1 : (t107 != 12) = true := bne_iff_ne.mpr c14
                obtain rfl := Option.some.inj H
                go_enter Tryd.func4, Tryd.ntmps4
                go_wp2_with (first | (go_at_call 19; (with_reducible refine (wicketlaw01_num.calls 0 t101 _ A1.out).mono ?_); rintro e w' ⟨rfl, ⟨nd, rfl⟩⟩) | (go_at_call 19; (with_reducible refine (wicketlaw01_num.calls 1 t102 _ A3.out).mono ?_); rintro e w' ⟨rfl, ⟨nd, rfl⟩⟩) | (go_at_call 19; (with_reducible refine (wicketlaw01_num.calls 2 t103 _ A5.out).mono ?_); rintro e w' ⟨rfl, ⟨nd, rfl⟩⟩) | (go_at_call 19; (with_reducible refine (wicketlaw01_num.calls 3 t104 _ A7.out).mono ?_); rintro e w' ⟨rfl, ⟨nd, rfl⟩⟩) | (go_at_call 19; (with_reducible refine (wicketlaw01_num.calls 10 t105 _ A9.out).mono ?_); rintro e w' ⟨rfl, ⟨nd, rfl⟩⟩) | (go_at_call 19; (with_reducible refine (wicketlaw01_num.calls 11 t106 _ A11.out).mono ?_); rintro e w' ⟨rfl, ⟨nd, rfl⟩⟩) | (go_at_call 19; (with_reducible refine (wicketlaw01_num.calls 12 t107 _ A13.out).mono ?_); rintro e w' ⟨rfl, ⟨nd, rfl⟩⟩))
                go_ret
                exact ⟨by first | rfl | (simp [errW_none, errW_some] <;> rfl) | (simp [*, errW_none, errW_some] <;> rfl), by repeat (first | (with_reducible first | exact HB.out | apply below_alloc | apply pw_below_drewN | apply below_drew1) | exact HB.out | exact Below.refl _ _)⟩
            · rw [if_neg c12] at H
              have c12b0 : (t106 == 11) = false := beq_eq_false_iff_ne.mpr c12
              have c12b1 : (t106 != 11) = true := bne_iff_ne.mpr c12
              obtain rfl := Option.some.inj H
              go_enter Tryd.func4, Tryd.ntmps4
              go_wp2_with (first | (go_at_call 19; (with_reducible refine (wicketlaw01_num.calls 0 t101 _ A1.out).mono ?_); rintro e w' ⟨rfl, ⟨nd, rfl⟩⟩) | (go_at_call 19; (with_reducible refine (wicketlaw01_num.calls 1 t102 _ A3.out).mono ?_); rintro e w' ⟨rfl, ⟨nd, rfl⟩⟩) | (go_at_call 19; (with_reducible refine (wicketlaw01_num.calls 2 t103 _ A5.out).mono ?_); rintro e w' ⟨rfl, ⟨nd, rfl⟩⟩) | (go_at_call 19; (with_reducible refine (wicketlaw01_num.calls 3 t104 _ A7.out).mono ?_); rintro e w' ⟨rfl, ⟨nd, rfl⟩⟩) | (go_at_call 19; (with_reducible refine (wicketlaw01_num.calls 10 t105 _ A9.out).mono ?_); rintro e w' ⟨rfl, ⟨nd, rfl⟩⟩) | (go_at_call 19; (with_reducible refine (wicketlaw01_num.calls 11 t106 _ A11.out).mono ?_); rintro e w' ⟨rfl, ⟨nd, rfl⟩⟩))
              go_ret
              exact ⟨by first | rfl | (simp [errW_none, errW_some] <;> rfl) | (simp [*, errW_none, errW_some] <;> rfl), by repeat (first | (with_reducible first | exact HB.out | apply below_alloc | apply pw_below_drewN | apply below_drew1) | exact HB.out | exact Below.refl _ _)⟩
          · rw [if_neg c10] at H
            have c10b0 : (t105 == 10) = false := beq_eq_false_iff_ne.mpr c10
            have c10b1 : (t105 != 10) = true := bne_iff_ne.mpr c10
            obtain rfl := Option.some.inj H
            go_enter Tryd.func4, Tryd.ntmps4
            go_wp2_with (first | (go_at_call 19; (with_reducible refine (wicketlaw01_num.calls 0 t101 _ A1.out).mono ?_); rintro e w' ⟨rfl, ⟨nd, rfl⟩⟩) | (go_at_call 19; (with_reducible refine (wicketlaw01_num.calls 1 t102 _ A3.out).mono ?_); rintro e w' ⟨rfl, ⟨nd, rfl⟩⟩) | (go_at_call 19; (with_reducible refine (wicketlaw01_num.calls 2 t103 _ A5.out).mono ?_); rintro e w' ⟨rfl, ⟨nd, rfl⟩⟩) | (go_at_call 19; (with_reducible refine (wicketlaw01_num.calls 3 t104 _ A7.out).mono ?_); rintro e w' ⟨rfl, ⟨nd, rfl⟩⟩) | (go_at_call 19; (with_reducible refine (wicketlaw01_num.calls 10 t105 _ A9.out).mono ?_); rintro e w' ⟨rfl, ⟨nd, rfl⟩⟩))
            go_ret
            exact ⟨by first | rfl | (simp [errW_none, errW_some] <;> rfl) | (simp [*, errW_none, errW_some] <;> rfl), by repeat (first | (with_reducible first | exact HB.out | apply below_alloc | apply pw_below_drewN | apply below_drew1) | exact HB.out | exact Below.refl _ _)⟩
        · rw [if_neg c8] at H
          have c8b0 : (t104 == 3) = false := beq_eq_false_iff_ne.mpr c8
          have c8b1 : (t104 != 3) = true := bne_iff_ne.mpr c8
          obtain rfl := Option.some.inj H
          go_enter Tryd.func4, Tryd.ntmps4
          go_wp2_with (first | (go_at_call 19; (with_reducible refine (wicketlaw01_num.calls 0 t101 _ A1.out).mono ?_); rintro e w' ⟨rfl, ⟨nd, rfl⟩⟩) | (go_at_call 19; (with_reducible refine (wicketlaw01_num.calls 1 t102 _ A3.out).mono ?_); rintro e w' ⟨rfl, ⟨nd, rfl⟩⟩) | (go_at_call 19; (with_reducible refine (wicketlaw01_num.calls 2 t103 _ A5.out).mono ?_); rintro e w' ⟨rfl, ⟨nd, rfl⟩⟩) | (go_at_call 19; (with_reducible refine (wicketlaw01_num.calls 3 t104 _ A7.out).mono ?_); rintro e w' ⟨rfl, ⟨nd, rfl⟩⟩))
          go_ret
          exact ⟨by first | rfl | (simp [errW_none, errW_some] <;> rfl) | (simp [*, errW_none, errW_some] <;> rfl), by repeat (first | (with_reducible first | exact HB.out | apply below_alloc | apply pw_below_drewN | apply below_drew1) | exact HB.out | exact Below.refl _ _)⟩
      · rw [if_neg c6] at H
        have c6b0 : (t103 == 2) = false := beq_eq_false_iff_ne.mpr c6
        have c6b1 : (t103 != 2) = true := bne_iff_ne.mpr c6
        obtain rfl := Option.some.inj H
        go_enter Tryd.func4, Tryd.ntmps4
        go_wp2_with (first | (go_at_call 19; (with_reducible refine (wicketlaw01_num.calls 0 t101 _ A1.out).mono ?_); rintro e w' ⟨rfl, ⟨nd, rfl⟩⟩) | (go_at_call 19; (with_reducible refine (wicketlaw01_num.calls 1 t102 _ A3.out).mono ?_); rintro e w' ⟨rfl, ⟨nd, rfl⟩⟩) | (go_at_call 19; (with_reducible refine (wicketlaw01_num.calls 2 t103 _ A5.out).mono ?_); rintro e w' ⟨rfl, ⟨nd, rfl⟩⟩))
        go_ret
        exact ⟨by first | rfl | (simp [errW_none, errW_some] <;> rfl) | (simp [*, errW_none, errW_some] <;> rfl), by repeat (first | (with_reducible first | exact HB.out | apply below_alloc | apply pw_below_drewN | apply below_drew1) | exact HB.out | exact Below.refl _ _)⟩
    · rw [if_neg c4] at H
      have c4b0 : (t102 == 1) = false := beq_eq_false_iff_ne.mpr c4
      have c4b1 : (t102 != 1) = true := bne_iff_ne.mpr c4
      obtain rfl := Option.some.inj H
      go_enter Tryd.func4, Tryd.ntmps4
      go_wp2_with (first | (go_at_call 19; (with_reducible refine (wicketlaw01_num.calls 0 t101 _ A1.out).mono ?_); rintro e w' ⟨rfl, ⟨nd, rfl⟩⟩) | (go_at_call 19; (with_reducible refine (wicketlaw01_num.calls 1 t102 _ A3.out).mono ?_); rintro e w' ⟨rfl, ⟨nd, rfl⟩⟩))
      go_ret
      exact ⟨by first | rfl | (simp [errW_none, errW_some] <;> rfl) | (simp [*, errW_none, errW_some] <;> rfl), by repeat (first | (with_reducible first | exact HB.out | apply below_alloc | apply pw_below_drewN | apply below_drew1) | exact HB.out | exact Below.refl _ _)⟩
  · rw [if_neg c2] at H
    have c2b0 : (t101 == 0) = false := beq_eq_false_iff_ne.mpr c2
    have c2b1 : (t101 != 0) = true := bne_iff_ne.mpr c2
    obtain rfl := Option.some.inj H
    go_enter Tryd.func4, Tryd.ntmps4
    go_wp2_with (first | (go_at_call 19; (with_reducible refine (wicketlaw01_num.calls 0 t101 _ A1.out).mono ?_); rintro e w' ⟨rfl, ⟨nd, rfl⟩⟩))
    go_ret
    exact ⟨by first | rfl | (simp [errW_none, errW_some] <;> rfl) | (simp [*, errW_none, errW_some] <;> rfl), by repeat (first | (with_reducible first | exact HB.out | apply below_alloc | apply pw_below_drewN | apply below_drew1) | exact HB.out | exact Below.refl _ _)⟩

/-- THE ONE PURE STATEMENT of wicketlaw01_FrameNames: yours. -/
def wicketlaw01_FrameNames.Pure : Prop := wicketlaw01_FrameNames.f  = some true
theorem wicketlaw01_FrameNames.walk (P : wicketlaw01_FrameNames.Pure)  (w : World) (hT : Tb w)  :
    Calls Tryd.prog 4 #[] w fun e w' => e = .returned (.bool true) ∧ Below w.heap.size w w' := by
  have h := P  
  refine (wicketlaw01_FrameNames.calls  true w hT h).mono ?_
  rintro e w' ⟨rfl, hd⟩
  exact ⟨rfl, hd⟩

end Go.Proofs.YtdlfhpkkkhfhdaaDoor.Z
