/- Wheel: WheelSteps. -/
import Derived.Test.YtkgdlmgodpgcoaaWhlAM
import Derived.Test.YtkgdlmgodpgcoaaWhlR
namespace Go.Proofs.Ytkgdlmgodpgcoaa.Hand
open Go.RowKit Go.Maps Go.Proofs.YtkgdlmgodpgcoaaW.PrintWords Go.Proofs.YtkgdlmgodpgcoaaW.PrintLast Go.Proofs.YtkgdlmgodpgcoaaW.PrintMore
set_option linter.unusedVariables false
set_option linter.unusedSimpArgs false

theorem PairS.start {w1 w2 w3 : World} {F G : Nat → Prop} {g m r : Nat} {now : Int} (h : Wst w2 F g m now []) (hF : ∀ k, F k → w1.heap.size ≤ k) (hb : Below w1.heap.size w1 w2) (hr : Rst w3 G r now []) (hG : ∀ k, G k → w2.heap.size ≤ k) (hb2 : Below w2.heap.size w2 w3) : PairS w1 w3 F G g m r now [] :=
  ⟨h.kept (KeptW.of_below (F := fun _ => False) hb2) (fun _ _ h => h), hr, List.Pairwise.nil, fun k h1 h2 => by have := h.lt k h1; have := hG k h2; omega, hF, fun k hk => Nat.le_trans hb.size (hG k hk), hb.trans (hb2.mono hb.size)⟩
set_option maxHeartbeats 4000000 in
set_option maxRecDepth 100000 in
theorem wheelSteps.walk (now0 : Int) (A : Option Addr) (N c : Nat) (acts : List ActT) (w : World) (hC : kAct.C w A N acts) (hU : U now0) (hok : ∀ i, i < acts.length → actOk (actN acts i)) :
    Calls Try.prog 9 #[.agg #[.int .u64 now0, .slice A N c]] w fun e w' => e = .returned (.bool true) ∧ Below w.heap.size w w' := by
  have hN2 : (N : Int) ≤ 9223372036854775807 := by have := hC.2.1; omega
  have HN := Aside0.mk hC.1
  have HC := Aside0.mk hC
  have HOK := Aside0.mk hok
  have HU0 := Aside0.mk hU
  have hx := blk_new w (.cells #[.int .u64 now0, .slice A N c] 52 (0, 0))
  have d0 := (blk_cell hx 0).trans rfl
  have d1 := (blk_cell hx 1).trans rfl
  clear hC hU hok
  go_enter Try.func9, Try.ntmps9
  go_wp2_with fail
  obtain ⟨w1, hw1⟩ : ∃ w1, w1 = w.alloc (.cells #[.int .u64 now0, .slice A N c] 52) := ⟨_, rfl⟩
  obtain ⟨Bx, hBx⟩ : ∃ Bx, Bx = w.heap.size := ⟨_, rfl⟩
  have HB1 : Aside0 (Below w.heap.size w w1 ∧ w1.heap.size = w.heap.size + 1) := ⟨by rw [hw1]; exact below_alloc (Below.refl _ _) _, by rw [hw1]; simp⟩
  rw [← hw1, ← hBx] at hx d0 d1
  rw [← hw1]
  rw [← hBx]
  have HX := Aside0.mk hx
  clear hw1 hx
  have HBx := Aside0.mk hBx
  clear hBx
  refine (wheel_New.wst now0 HU0.out w1).mono ?_
  rintro e w2 ⟨g, m, F0, rfl, hW, hF0, hb2⟩
  replace d0 := pw_cell_below hb2 d0
  have HW2 := Aside0.mk hW
  have HF2 := Aside0.mk hF0
  have HBB := Aside0.mk hb2
  clear hW hF0 hb2 d1
  go_wp2_with fail
  refine (ref_New.calls now0 w2).mono ?_
  rintro e w3 ⟨r, G0, rfl, hR, hG0, hb3⟩
  have HP3 := Aside0.mk (PairS.start HW2.out HF2.out HBB.out hR hG0 hb3)
  clear hR hG0 hb3 HW2 HF2 HBB d0
  go_wp2_with fail
  refine (law_live.calls w3).mono ?_
  rintro e w4 ⟨rfl, hb4⟩
  have HI0 : Aside0 (∃ F G now Ls, PairS w1 w4 F G g m r now Ls) := ⟨F0, G0, _, _, HP3.out.below hb4⟩
  clear HP3 hb4
  go_wp2_with fail
  go_loopw [5] (fun v5 wr => ∃ i : Nat, i ≤ N ∧ v5 = .int .i64 i ∧ Aside0 (∃ F G now Ls, PairS w1 wr F G g m r now Ls)) (fun v5 _ => N - (intOf v5).toNat)
  case atStart => exact ⟨0, Nat.zero_le _, rfl, HI0⟩
  case round =>
    clear HI0
    obtain ⟨i, hi, rfl, HI⟩ := hrel
    obtain ⟨F, G, now, Ls, hI⟩ := HI.out
    have hBx3 := hI.bel.block Bx (by have := HB1.out.2; have := HBx.out; omega)
    have d1 := (blk_cell (hBx3.trans HX.out) 1).trans rfl
    have HIP := Aside0.mk hI
    clear hI hBx3
    by_cases hlt : i < N
    · obtain ⟨ad, hA, h0, h1, h2⟩ := act_at (Kd.C_below HC.out (HB1.out.1.trans (HIP.out.bel.mono (by have := HB1.out.2; omega)))) i hlt
      obtain ⟨⟨kd, id, at_⟩, hact⟩ : ∃ a, a = actN acts i := ⟨_, rfl⟩
      have hok := HOK.out i (by have := HN.out; omega)
      rw [← hact] at h0 h1 h2 hok
      obtain ⟨hid, hat⟩ := hok
      simp only at h0 h1 h2 hid hat
      subst hA
      clear hact HI
      go_wp2_with (first
        | (go_at_call 34; (with_reducible refine (law_changes.calls HIP.out kd id at_ hid hat).mono ?_); rintro e w5 ⟨rfl, F5, G5, n5, L5, hp5⟩; have HP5 := Aside0.mk hp5; clear hp5 HIP)
        | (go_at_call 26; (with_reducible refine (law_whole.calls HP5.out).mono ?_); rintro e w6 ⟨rfl, hb6⟩; have HNX : Aside0 (∃ F G now Ls, PairS w1 w6 F G g m r now Ls) := ⟨F5, G5, n5, L5, HP5.out.below hb6⟩; clear hb6 HP5))
      go_roundw
      case rel => exact ⟨i + 1, by omega, by go_num, HNX⟩
      case measure => simp [intOf]; omega
    · obtain rfl : i = N := by omega
      clear HI
      go_wp2_with fail
      go_ret
      exact ⟨rfl, HB1.out.1.trans (HIP.out.bel.mono (by have := HB1.out.2; omega))⟩
theorem wheelSteps_machine (W : World) (cs : Array Value) (x : StoryT) (hk : kStory.K W x cs.toList) (hw : storyWf x) :
    Calls Try.prog 9 #[.agg cs] W fun e w' => e = .returned (.bool true) ∧ Below W.heap.size W w' := by
  obtain ⟨now, acts⟩ := x
  obtain ⟨q1, q2, e1, hk1, ⟨A, c, hq, hc, hC⟩⟩ := hk
  obtain ⟨w1, w2⟩ := hw
  simp only at w1 w2 hC hc hq
  have hcs : cs = #[.int .u64 now, .slice A acts.length c] := by
    apply Array.ext'
    rw [e1, hk1, hq]
    rfl
  subst hcs
  exact wheelSteps.walk now A acts.length c acts W hC (wf_U w1) (fun i hi => ⟨wf_U (w2 _ (actN_mem hi)).2.1, wf_U (w2 _ (actN_mem hi)).2.2⟩)
end Go.Proofs.Ytkgdlmgodpgcoaa.Hand
