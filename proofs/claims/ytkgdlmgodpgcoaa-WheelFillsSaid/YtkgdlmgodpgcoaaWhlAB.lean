/- Wheel: play: a story's changes on the program's wheel alone. -/
import Derived.Test.YtkgdlmgodpgcoaaWhlAA
import Derived.Test.YtkgdlmgodpgcoaaWhlR
namespace Go.Proofs.Ytkgdlmgodpgcoaa.Hand
open Go.RowKit Go.Maps Go.Proofs.YtkgdlmgodpgcoaaW.PrintWords Go.Proofs.YtkgdlmgodpgcoaaW.PrintLast Go.Proofs.YtkgdlmgodpgcoaaW.PrintMore
set_option linter.unusedVariables false
set_option linter.unusedSimpArgs false

def stepT (s : Int × List TimT) (a : ActT) : Int × List TimT :=
  if a.1 = 1 then (s.1, addL s.1 s.2 a.2.1 a.2.2) else if a.1 = 2 then (s.1, without s.2 a.2.1) else if a.1 = 4 then (if a.2.2 < s.1 then s else (a.2.2, s.2.filter (isStay a.2.2))) else s
def playT (now : Int) (acts : List ActT) : Int × List TimT := acts.foldl stepT (now, [])
theorem playT_next (now : Int) (acts : List ActT) (i : Nat) (h : i < acts.length) : playT now (acts.take (i + 1)) = stepT (playT now (acts.take i)) (actN acts i) := by
  unfold playT
  rw [List.take_succ_eq_append_getElem h, List.foldl_append]
  unfold actN
  rw [List.getD_eq_getElem?_getD, List.getElem?_eq_getElem h]
  rfl
/-- A wheel that has been played so far, on blocks laid since. -/
def PlayI (w wr : World) (g m : Nat) (s : Int × List TimT) : Prop := ∃ F, Wst wr F g m s.1 s.2 ∧ (∀ k, F k → w.heap.size ≤ k) ∧ Below w.heap.size w wr
theorem PlayI.below {w w1 w2 : World} {g m : Nat} {s : Int × List TimT} (h : PlayI w w1 g m s) (hb : Below w1.heap.size w1 w2) : PlayI w w2 g m s := by
  obtain ⟨F, h1, h2, h3⟩ := h
  exact ⟨F, h1.kept (KeptW.of_below (F := fun _ => False) hb) (fun _ _ h => h), h2, h3.trans (hb.mono h3.size)⟩
theorem PlayI.went {w w1 w2 : World} {F F' : Nat → Prop} {g m : Nat} {s : Int × List TimT} {now' : Int} {T' : List TimT} (h1 : Wst w1 F g m s.1 s.2) (h2 : ∀ k, F k → w.heap.size ≤ k) (h3 : Below w.heap.size w w1) (hw : Wst w2 F' g m now' T') (hF : ∀ k, F' k → F k ∨ w1.heap.size ≤ k) (hk : KeptW F w1 w2) : PlayI w w2 g m (now', T') :=
  ⟨F', hw, fun k hk2 => by rcases hF k hk2 with h | h; exact h2 k h; have := h3.size; omega, KeptW.belowN h3 h3.size hk h2⟩
set_option maxHeartbeats 8000000 in
set_option maxRecDepth 100000 in
theorem law_play.calls (now0 : Int) (A : Option Addr) (N c : Nat) (acts : List ActT) (w : World) (hC : kAct.C w A N acts) (hU : U now0) (hok : ∀ i, i < acts.length → actOk (actN acts i)) :
    Calls Try.prog 32 #[.agg #[.int .u64 now0, .slice A N c]] w fun e w' => ∃ g m, e = .returned (.pointer (some ⟨g, 0, none⟩)) ∧ PlayI w w' g m (playT now0 acts) := by
  have hN2 : (N : Int) ≤ 9223372036854775807 := by have := hC.2.1; omega
  have HN := Aside0.mk hC.1
  have HC := Aside0.mk hC
  have HOK := Aside0.mk hok
  have HU0 := Aside0.mk hU
  have hx := blk_new w (.cells #[.int .u64 now0, .slice A N c] 52 (0, 0))
  have d0 := (blk_cell hx 0).trans rfl
  have d1 := (blk_cell hx 1).trans rfl
  clear hC hU hok
  go_enter Try.func32, Try.ntmps32
  go_wp2_with fail
  obtain ⟨w1, hw1⟩ : ∃ w1, w1 = w.alloc (.cells #[.int .u64 now0, .slice A N c] 52) := ⟨_, rfl⟩
  obtain ⟨Bx, hBx⟩ : ∃ Bx, Bx = w.heap.size := ⟨_, rfl⟩
  have HB1 : Aside0 (Below w.heap.size w w1 ∧ w1.heap.size = w.heap.size + 1) := ⟨by rw [hw1]; exact below_alloc (Below.refl _ _) _, by rw [hw1]; simp⟩
  rw [← hw1, ← hBx] at hx d0 d1
  rw [← hw1]
  rw [← hBx]
  have HX := Aside0.mk hx
  clear hw1 hx
  have HBx := Aside0.mk hBx
  clear hBx
  refine (wheel_New.wst now0 HU0.out w1).mono ?_
  rintro e w2 ⟨g, m, F0, rfl, hW, hF0, hb2⟩
  have HI0 : Aside0 (PlayI w1 w2 g m (playT now0 (acts.take 0))) := ⟨⟨F0, hW, hF0, hb2⟩⟩
  clear hW hF0 hb2 d1 d0
  go_wp2_with fail
  go_loopw [4] (fun v4 wr => ∃ i : Nat, i ≤ N ∧ v4 = .int .i64 i ∧ Aside0 (PlayI w1 wr g m (playT now0 (acts.take i)))) (fun v4 _ => N - (intOf v4).toNat)
  case atStart => exact ⟨0, Nat.zero_le _, rfl, HI0⟩
  case round =>
    clear HI0
    obtain ⟨i, hi, rfl, HI⟩ := hrel
    obtain ⟨F, hI1, hI2, hI3⟩ := HI.out
    have hBx3 := hI3.block Bx (by have := HB1.out.2; have := HBx.out; omega)
    have d1 := (blk_cell (hBx3.trans HX.out) 1).trans rfl
    have HI1 := Aside0.mk hI1
    have HI2 := Aside0.mk hI2
    have HI3 := Aside0.mk hI3
    clear hI1 hI2 hI3 hBx3
    by_cases hlt : i < N
    · obtain ⟨ad, hA, h0, h1, h2⟩ := act_at (Kd.C_below HC.out (HB1.out.1.trans (HI3.out.mono (by have := HB1.out.2; omega)))) i hlt
      obtain ⟨⟨kd, id, at_⟩, hact⟩ : ∃ a, a = actN acts i := ⟨_, rfl⟩
      have hok := HOK.out i (by have := HN.out; omega)
      have HST : Aside0 (playT now0 (acts.take (i + 1)) = stepT (playT now0 (acts.take i)) (kd, id, at_)) := ⟨by rw [hact]; exact playT_next now0 acts i (by have := HN.out; omega)⟩
      rw [← hact] at h0 h1 h2 hok
      obtain ⟨hid, hat⟩ := hok
      simp only at h0 h1 h2 hid hat
      subst hA
      have hb4 := below_alloc (Below.refl wr.heap.size wr) (.cells #[.int .i64 kd, .int .u64 id, .int .u64 at_] 54)
      have b4 := blk_new wr (.cells #[.int .i64 kd, .int .u64 id, .int .u64 at_] 54 (0, 0))
      have HI4 := Aside0.mk (HI1.out.kept (KeptW.of_below (F := fun _ => False) hb4) (fun _ _ h => h))
      have HJ4 := Aside0.mk (HI3.out.trans (hb4.mono HI3.out.size))
      clear HI HI1 HI3 hb4 hact
      go_upto_region 7 with (fail)
      obtain ⟨s, hs⟩ : ∃ s, s = playT now0 (acts.take i) := ⟨_, rfl⟩
      rw [← hs] at HI4 HST
      obtain ⟨w4, hw4⟩ : ∃ w4, w4 = wr.alloc (.cells #[.int .i64 kd, .int .u64 id, .int .u64 at_] 54) := ⟨_, rfl⟩
      obtain ⟨B, hBo⟩ : ∃ B, B = wr.heap.size := ⟨_, rfl⟩
      rw [← hBo, ← hw4] at b4
      rw [← hw4] at HI4 HJ4
      rw [← hw4]
      rw [← hBo]
      clear hBo hw4 h0 h1 h2 d1 hs
      have e0 := (blk_cell b4 0).trans rfl
      have d1 := (blk_cell b4 1).trans rfl
      have d2 := (blk_cell b4 2).trans rfl
      clear b4
      by_cases hk1 : kd = 1
      · subst hk1
        go_wp2_with fail
        refine (wheel_Add.all HI4.out id at_ hid hat).mono ?_
        rintro e w5 ⟨rfl, F', hw5, hF5, hk5⟩
        have HNX : Aside0 (PlayI w1 w5 g m (playT now0 (acts.take (i + 1)))) := ⟨by rw [HST.out]; unfold stepT; rw [if_pos rfl]; exact PlayI.went HI4.out HI2.out HJ4.out hw5 hF5 hk5⟩
        clear hw5 hF5 hk5 HI4 HI2 HJ4 HST e0 d1 d2
        go_wp2_with fail
        go_roundw
        case rel => exact ⟨i + 1, by omega, by go_num, HNX⟩
        case measure => simp [intOf]; omega
      · have k1 : (kd == 1) = false := beq_eq_false_iff_ne.mpr hk1
        by_cases hk2 : kd = 2
        · subst hk2
          clear hk1 k1
          go_wp2_with fail
          refine (wheel_Remove.all HI4.out id hid).mono ?_
          rintro e w5 ⟨rfl, F', hw5, hF5, hk5⟩
          have HNX : Aside0 (PlayI w1 w5 g m (playT now0 (acts.take (i + 1)))) := ⟨by rw [HST.out]; unfold stepT; rw [if_neg (show ¬ ((2 : Int), id, at_).1 = 1 from (by decide : ¬ (2 : Int) = 1)), if_pos rfl]; exact PlayI.went HI4.out HI2.out HJ4.out hw5 hF5 hk5⟩
          clear hw5 hF5 hk5 HI4 HI2 HJ4 HST e0 d1 d2
          go_wp2_with fail
          go_roundw
          case rel => exact ⟨i + 1, by omega, by go_num, HNX⟩
          case measure => simp [intOf]; omega
        · have k2 : (kd == 2) = false := beq_eq_false_iff_ne.mpr hk2
          by_cases hk4 : kd = 4
          · subst hk4
            clear hk1 k1 hk2 k2
            by_cases hlt4 : at_ < s.1
            · go_wp2_with fail
              refine (wheel_Advance.back HI4.out at_ hlt4).mono ?_
              rintro e w5 ⟨rfl, rfl⟩
              have HNX : Aside0 (PlayI w1 w5 g m (playT now0 (acts.take (i + 1)))) := ⟨by rw [HST.out]; unfold stepT; rw [if_neg (show ¬ ((4 : Int), id, at_).1 = 1 from (by decide : ¬ (4 : Int) = 1)), if_neg (show ¬ ((4 : Int), id, at_).1 = 2 from (by decide : ¬ (4 : Int) = 2)), if_pos rfl, if_pos hlt4]; exact ⟨F, HI4.out, HI2.out, HJ4.out⟩⟩
              clear hlt4 HI4 HI2 HJ4 HST e0 d1 d2
              go_wp2_with fail
              go_roundw
              case rel => exact ⟨i + 1, by omega, by go_num, HNX⟩
              case measure => simp [intOf]; omega
            · go_wp2_with fail
              refine (wheel_Advance.all HI4.out at_ hat (by omega)).mono ?_
              rintro e w5 ⟨v, F', rfl, hw5, hF5, hk5, _⟩
              have HNX : Aside0 (PlayI w1 w5 g m (playT now0 (acts.take (i + 1)))) := ⟨by rw [HST.out]; unfold stepT; rw [if_neg (show ¬ ((4 : Int), id, at_).1 = 1 from (by decide : ¬ (4 : Int) = 1)), if_neg (show ¬ ((4 : Int), id, at_).1 = 2 from (by decide : ¬ (4 : Int) = 2)), if_pos rfl, if_neg (Int.not_lt.2 hlt4)]; exact PlayI.went HI4.out HI2.out HJ4.out hw5 hF5 hk5⟩
              clear hlt4 hw5 hF5 hk5 HI4 HI2 HJ4 HST e0 d1 d2
              go_wp2_with fail
              go_roundw
              case rel => exact ⟨i + 1, by omega, by go_num, HNX⟩
              case measure => simp [intOf]; omega
          · have k4 : (kd == 4) = false := beq_eq_false_iff_ne.mpr hk4
            have HNX : Aside0 (PlayI w1 w4 g m (playT now0 (acts.take (i + 1)))) := ⟨by rw [HST.out]; unfold stepT; rw [if_neg hk1, if_neg hk2, if_neg hk4]; exact ⟨F, HI4.out, HI2.out, HJ4.out⟩⟩
            clear hk1 hk2 hk4 HI4 HI2 HJ4 HST d1 d2
            go_wp2_with fail
            go_roundw
            case rel => exact ⟨i + 1, by omega, by go_num, HNX⟩
            case measure => simp [intOf]; omega
    · obtain rfl : i = N := by omega
      have HE : Aside0 (PlayI w1 wr g m (playT now0 acts)) := ⟨by
        have h := HI.out
        rw [← HN.out, List.take_length] at h
        exact h⟩
      clear HI HI1 HI2 HI3
      go_wp2_with fail
      go_ret
      obtain ⟨F', a1, a2, a3⟩ := HE.out
      exact ⟨g, m, rfl, F', a1, fun k hk => by have := a2 k hk; have := HB1.out.2; omega, HB1.out.1.trans (a3.mono (by have := HB1.out.2; omega))⟩
end Go.Proofs.Ytkgdlmgodpgcoaa.Hand
