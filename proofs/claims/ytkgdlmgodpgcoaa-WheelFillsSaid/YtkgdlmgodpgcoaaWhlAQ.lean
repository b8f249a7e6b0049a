/- Wheel: WheelFills. -/
import Derived.Test.YtkgdlmgodpgcoaaWhlAN
namespace Go.Proofs.Ytkgdlmgodpgcoaa.Hand
open Go.RowKit Go.Maps Go.Proofs.YtkgdlmgodpgcoaaW.PrintWords Go.Proofs.YtkgdlmgodpgcoaaW.PrintLast Go.Proofs.YtkgdlmgodpgcoaaW.PrintMore
set_option linter.unusedVariables false
set_option linter.unusedSimpArgs false

theorem PairS.lower {w0 w1 w : World} {F G : Nat → Prop} {g m r : Nat} {now : Int} {Ls : List TimT} (h : PairS w1 w F G g m r now Ls) (hb : Below w0.heap.size w0 w1) : PairS w0 w F G g m r now Ls :=
  ⟨h.a, h.b, h.srt, h.dis, fun k hk => Nat.le_trans hb.size (h.lowA k hk), fun k hk => Nat.le_trans hb.size (h.lowB k hk), hb.trans (h.bel.mono hb.size)⟩
theorem wrap_U (x : Int) : U (IntKind.u64.wrap x) := by
  unfold U IntKind.wrap
  simp [IntKind.bits, IntKind.signed]
  omega
/-- Both wheels, and a box that is neither's. -/
structure FilI (w wr : World) (F G : Nat → Prop) (g m r : Nat) (now : Int) (Ls : List TimT) (Bx : Nat) (cs : Array Value) : Prop where
  pair : PairS w wr F G g m r now Ls
  nf : ¬ F Bx
  ng : ¬ G Bx
  box : wr.heap[Bx]? = some (.cells cs 29 (0, 0))
theorem FilI.below {w wr w' : World} {F G : Nat → Prop} {g m r : Nat} {now : Int} {Ls : List TimT} {Bx : Nat} {cs : Array Value} (h : FilI w wr F G g m r now Ls Bx cs) (hb : Below wr.heap.size wr w') : FilI w w' F G g m r now Ls Bx cs :=
  ⟨h.pair.below hb, h.nf, h.ng, (hb.block Bx (blk_lt h.box)).trans h.box⟩
theorem FilI.both {w w1 w5 w6 : World} {F F' G G' : Nat → Prop} {g m r : Nat} {now now' : Int} {Ls L1 L2 : List TimT} {Bx : Nat} {cs : Array Value} (h : FilI w w1 F G g m r now Ls Bx cs) (hw : Wst w5 F' g m now' L1) (hF : ∀ k, F' k → F k ∨ w1.heap.size ≤ k) (hk : KeptW F w1 w5) (hr : Rst w6 G' r now' L2) (hG : ∀ k, G' k → G k ∨ w5.heap.size ≤ k) (hk2 : KeptW G w5 w6) (hp : L2.Perm L1) (hS : Srt L2) : FilI w w6 F' G' g m r now' L2 Bx cs := by
  have hlt := blk_lt h.box
  have h5 := (hk.same Bx hlt h.nf).trans h.box
  refine ⟨h.pair.both hw hF hk hr hG hk2 hp hS, fun h2 => ?_, fun h2 => ?_, (hk2.same Bx (blk_lt h5) h.ng).trans h5⟩
  · rcases hF Bx h2 with h3 | h3
    · exact h.nf h3
    · omega
  · rcases hG Bx h2 with h3 | h3
    · exact h.ng h3
    · have := blk_lt h5; omega
set_option maxHeartbeats 4000000 in
set_option maxRecDepth 100000 in
theorem wheelFills.walk (now0 first step nF to_ : Int) (w : World) (h0 : U now0) (h1 : U first) (h2 : U step) (h4 : U to_) (hn1 : -9223372036854775808 ≤ nF) (hn2 : nF ≤ 9223372036854775807) :
    Calls Try.prog 5 #[.agg #[.int .u64 now0, .int .u64 first, .int .u64 step, .int .i64 nF, .int .u64 to_]] w fun e w' => e = .returned (.bool true) ∧ Below w.heap.size w w' := by
  have HU0 := Aside0.mk h0
  have HU4 := Aside0.mk h4
  have hx := blk_new w (.cells #[.int .u64 now0, .int .u64 first, .int .u64 step, .int .i64 nF, .int .u64 to_] 29 (0, 0))
  have d0 := (blk_cell hx 0).trans rfl
  go_enter Try.func5, Try.ntmps5
  go_wp2_with fail
  obtain ⟨w1, hw1⟩ : ∃ w1, w1 = w.alloc (.cells #[.int .u64 now0, .int .u64 first, .int .u64 step, .int .i64 nF, .int .u64 to_] 29) := ⟨_, rfl⟩
  obtain ⟨Bx, hBx⟩ : ∃ Bx, Bx = w.heap.size := ⟨_, rfl⟩
  have HB1 : Aside0 (Below w.heap.size w w1 ∧ w1.heap.size = w.heap.size + 1) := ⟨by rw [hw1]; exact below_alloc (Below.refl _ _) _, by rw [hw1]; simp⟩
  rw [← hw1, ← hBx] at hx d0
  rw [← hw1]
  rw [← hBx]
  have HX := Aside0.mk hx
  clear hw1 hx
  have HBx := Aside0.mk hBx
  clear hBx
  refine (wheel_New.wst now0 HU0.out w1).mono ?_
  rintro e w2 ⟨g, m, F0, rfl, hW, hF0, hb2⟩
  replace d0 := pw_cell_below hb2 d0
  have HW2 := Aside0.mk hW
  have HF2 := Aside0.mk hF0
  have HBB := Aside0.mk hb2
  clear hW hF0 hb2
  go_wp2_with fail
  refine (ref_New.calls now0 w2).mono ?_
  rintro e w3 ⟨r, G0, rfl, hR, hG0, hb3⟩
  have HFI : Aside0 (FilI w w3 F0 G0 g m r now0 [] Bx #[.int .u64 now0, .int .u64 first, .int .u64 step, .int .i64 nF, .int .u64 to_]) := ⟨⟨(PairS.start HW2.out HF2.out HBB.out hR hG0 hb3).lower HB1.out.1, fun h => by have := HF2.out Bx h; have := HB1.out.2; have := HBx.out; omega, fun h => by have := hG0 Bx h; have := HBB.out.size; have := HB1.out.2; have := HBx.out; omega, (hb3.block Bx (blk_lt ((HBB.out.block Bx (blk_lt HX.out)).trans HX.out))).trans ((HBB.out.block Bx (blk_lt HX.out)).trans HX.out)⟩⟩
  clear hR hG0 hb3 HW2 HF2 HBB d0
  go_wp2_with fail
  refine (law_live.calls w3).mono ?_
  rintro e w4 ⟨rfl, hb4⟩
  have HFI4 := Aside0.mk (HFI.out.below hb4)
  have d3 := (blk_cell HFI4.out.box 3).trans rfl
  have f3 := blk_frozen HFI4.out.box 3
  clear HFI hb4
  by_cases hbig : nF > 8194
  · have bb : decide (nF > 8194) = true := decide_eq_true hbig
    have HS : Aside0 (∃ F G now Ls, FilI w (w4.setCell ⟨Bx, 3, none⟩ (.int .i64 8194)) F G g m r now Ls Bx #[.int .u64 now0, .int .u64 first, .int .u64 step, .int .i64 8194, .int .u64 to_]) := ⟨F0, G0, now0, [], ⟨HFI4.out.pair.grown (grown_set w4 Bx 3 _) (fun k e => by injection e with e; rw [← e]; exact ⟨by have := HBx.out; omega, HFI4.out.nf, HFI4.out.ng⟩), HFI4.out.nf, HFI4.out.ng, blk_put HFI4.out.box 3 _ rfl⟩⟩
    clear hbig HFI4
    go_wp2_with fail
    obtain ⟨nn, hnn⟩ : ∃ nn : Int, nn = 8194 := ⟨_, rfl⟩
    have hnb : nn ≤ 8194 := by omega
    rw [← hnn] at HS
    obtain ⟨wS, hwS⟩ : ∃ wS, wS = w4.setCell ⟨Bx, 3, none⟩ (.int .i64 8194) := ⟨_, rfl⟩
    rw [← hnn] at hwS
    first | rw [← hwS] at HS | skip
    first | rw [hnn, ← hwS] | rw [← hnn, ← hwS] | rw [← hwS]
    clear hwS hnn bb d3 f3
    go_loopw [5] (fun v5 wr => ∃ i : Nat, v5 = .int .i64 i ∧ i ≤ 8194 ∧ ((i : Int) ≤ nn ∨ i = 0) ∧ Aside0 (∃ F G now Ls, FilI w wr F G g m r now Ls Bx #[.int .u64 now0, .int .u64 first, .int .u64 step, .int .i64 nn, .int .u64 to_])) (fun v5 _ => (nn - intOf v5).toNat)
    case atStart => exact ⟨0, rfl, by omega, .inr rfl, HS⟩
    case round =>
      clear HS
      obtain ⟨i, rfl, hi, hin, HI⟩ := hrel
      obtain ⟨F, G, now, Ls, hI⟩ := HI.out
      have HIP := Aside0.mk hI
      have HL := Aside0.mk hI.pair.lens
      have d1 := (blk_cell hI.box 1).trans rfl
      have d2 := (blk_cell hI.box 2).trans rfl
      have d3 := (blk_cell hI.box 3).trans rfl
      clear hI HI
      have hib : (i : Int) ≤ 8194 := by omega
      by_cases hlt : (i : Int) < nn
      · clear hin
        go_wp2_with fail
        obtain ⟨idv, hidv⟩ : ∃ idv : Int, idv = (i : Int) := ⟨_, rfl⟩
        refine (wheel_Add.all HIP.out.pair.a _ _ ?hid ?hat).mono ?_
        case hid => constructor <;> omega
        case hat => exact wrap_U _
        rintro e w5 ⟨rfl, F', hw5, hF5, hk5⟩
        have HW5 := Aside0.mk hw5
        have HF5 := Aside0.mk hF5
        have HK5 := Aside0.mk hk5
        clear hw5 hF5 hk5 hidv
        go_wp2_with (go_at_call 14; (with_reducible refine (law_num.calls _ _).mono ?_); rintro e wx ⟨rfl, rfl⟩)
        refine (ref_Add.all (HIP.out.pair.mid HK5.out) HIP.out.pair.srt HL.out.1 _ _).mono ?_
        rintro e w6 ⟨rfl, G', Ls', hr6, hp6, hs6, hG6, hk6⟩
        have HNX : Aside0 (∃ F G now Ls, FilI w w6 F G g m r now Ls Bx #[.int .u64 now0, .int .u64 first, .int .u64 step, .int .i64 nn, .int .u64 to_]) := ⟨⟨_, _, _, _, HIP.out.both HW5.out HF5.out HK5.out hr6 hG6 hk6 hp6 hs6⟩⟩
        clear hr6 hp6 hs6 hG6 hk6 HW5 HF5 HK5 HIP
        go_wp2_with fail
        go_roundw
        case rel => exact ⟨i + 1, by go_num, by omega, .inl (by omega), HNX⟩
        case measure => simp [intOf]; omega
      · obtain ⟨A, c, r0, _, _⟩ := HIP.out.pair.rcells
        obtain ⟨N, hN⟩ : ∃ N, N = Ls.length := ⟨_, rfl⟩
        rw [← hN] at r0
        have HN := Aside0.mk hN
        have bi : decide ((i : Int) < nn) = false := decide_eq_false hlt
        have HFD := Aside0.mk (HIP.out.below (below_drew1 (Below.refl wr.heap.size wr)))
        have heq : ∀ W, (Op.equalIn 10000 40 (.agg #[.int .i64 (cntOf Ls now 0 : Nat), .int .i64 (cntOf Ls now 1 : Nat), .int .i64 (cntOf Ls now 2 : Nat), .int .i64 (cntOf Ls now 3 : Nat), .int .i64 (cntOf Ls now 4 : Nat)]) (.agg #[.int .i64 (cntOf Ls now 0 : Nat), .int .i64 (cntOf Ls now 1 : Nat), .int .i64 (cntOf Ls now 2 : Nat), .int .i64 (cntOf Ls now 3 : Nat), .int .i64 (cntOf Ls now 4 : Nat)])).run Try.prog W = .ok true W := fun W => equal5 _ _ _ _ _ W
        have bl1 : ((N : Int) == (N : Int)) = true := beq_self_eq_true _
        have bl2 : ((N : Int) != (N : Int)) = false := by rw [bne, bl1]; rfl
        clear hN hlt hin d1 d2
        go_upto_region 14 with (fail)
        refine start_ (n := 15) (S := fun w' => w'.cell? ⟨r, 0, none⟩ = some (.slice A N c)) (ds := []) #[false, false, false, false, false, false, false, false, false, false, false, false, false, false, false] (by kernel_rfl) rfl rfl (r0) (fun hHeld => ?_)
        refine pure_ (i := 0) (N := some 55) (v := ?_) (a' := ?_) #[true, false, false, false, false, false, false, false, false, false, false, false, false, false, false] rfl rfl (by kernel_rfl) (fun _ _ _ h => h) (Or.inl ⟨by rfl, ?_⟩) ?_ ?_
        rotate_left
        · intro w'
          go_simp
          with_reducible rfl
        rotate_left
        · simp only [Act.put, List.setIfInBounds_toArray, List.set_cons_zero, List.set_cons_succ, i64_w, i32_w]
          rfl
        refine pure_ (i := 2) (N := some 57) (v := ?_) (a' := ?_) #[true, false, true, false, false, false, false, false, false, false, false, false, false, false, false] rfl rfl (by kernel_rfl) (fun _ _ _ h => h) (Or.inl ⟨by rfl, ?_⟩) ?_ ?_
        rotate_left
        · intro w'
          go_simp
          with_reducible rfl
        rotate_left
        · simp only [Act.put, List.setIfInBounds_toArray, List.set_cons_zero, List.set_cons_succ, i64_w, i32_w]
          rfl
        refine pure_ (i := 3) (N := some 58) (v := ?_) (a' := ?_) #[true, false, true, true, false, false, false, false, false, false, false, false, false, false, false] rfl rfl (by kernel_rfl) (fun _ _ _ h => h) (Or.inl ⟨by rfl, ?_⟩) ?_ ?_
        rotate_left
        · intro w'
          go_simp
          with_reducible rfl
        rotate_left
        · simp only [Act.put, List.setIfInBounds_toArray, List.set_cons_zero, List.set_cons_succ, i64_w, i32_w]
          rfl
        refine pure_ (i := 4) (N := some 59) (v := ?_) (a' := ?_) #[true, false, true, true, true, false, false, false, false, false, false, false, false, false, false] rfl rfl (by kernel_rfl) (fun _ _ _ h => h) (Or.inl ⟨by rfl, ?_⟩) ?_ ?_
        rotate_left
        · intro w'
          go_simp
          with_reducible rfl
        rotate_left
        · simp only [Act.put, List.setIfInBounds_toArray, List.set_cons_zero, List.set_cons_succ, i64_w, i32_w]
          rfl
        refine take_ (i := 5) (N := some 60) (v := ?_) (a' := ?_) #[true, false, true, true, true, true, false, false, false, false, false, false, false, false, false] rfl rfl (by kernel_rfl) (fun _ _ _ h => h) (Or.inl ⟨by rfl, ?_⟩) hHeld ?_ ?_
        rotate_left
        · intro w' s0
          go_simp
          with_reducible rfl
        rotate_left
        · simp only [Act.put, List.setIfInBounds_toArray, List.set_cons_zero, List.set_cons_succ, i64_w, i32_w]
          rfl
        refine pure_ (i := 6) (N := some 61) (v := ?_) (a' := ?_) #[true, false, true, true, true, true, true, false, false, false, false, false, false, false, false] rfl rfl (by kernel_rfl) (fun _ _ _ h => h) (Or.inl ⟨by rfl, ?_⟩) ?_ ?_
        rotate_left
        · intro w'
          go_simp
          with_reducible rfl
        rotate_left
        · simp only [Act.put, List.setIfInBounds_toArray, List.set_cons_zero, List.set_cons_succ, i64_w, i32_w]
          rfl
        refine one_ (i := 1) (N := some 56) #[true, true, true, true, true, true, true, false, false, false, false, false, false, false, false] rfl rfl (by kernel_rfl) (by decide) (fun K hK => ?_)
        refine goes_ Try.func20 (by kernel_rfl) rfl #[.pointer (some ⟨g, 0, none⟩)] (by rfl) rfl rfl (by simp only [List.map_toArray, List.map_cons, List.map_nil]; rfl) ?_
        with_reducible refine (wheel_Len.all HFD.out.pair.a).mono ?_
        rintro e wl ⟨rfl, rfl⟩
        rw [← HN.out]
        refine ⟨_, rfl, ?_⟩
        refine hK.out _ _ (hHeld) (fun hHeld => ?_)
        clear hK K
        refine norm_ (a' := ?_) ?_ ?_
        rotate_left
        · show Act.put _ (some 56) _ = _
          simp only [Act.put, List.setIfInBounds_toArray, List.set_cons_zero, List.set_cons_succ, i64_w, i32_w]
          rfl
        refine pure_ (i := 7) (N := some 62) (v := ?_) (a' := ?_) #[true, true, true, true, true, true, true, true, false, false, false, false, false, false, false] rfl rfl (by kernel_rfl) (fun _ _ _ h => h) (Or.inl ⟨by rfl, ?_⟩) ?_ ?_
        rotate_left
        · intro w'
          go_simp
          with_reducible rfl
        rotate_left
        · simp only [Act.put, List.setIfInBounds_toArray, List.set_cons_zero, List.set_cons_succ, i64_w, i32_w]
          rfl
        refine pure_ (i := 8) (N := some 63) (v := ?_) (a' := ?_) #[true, true, true, true, true, true, true, true, true, false, false, false, false, false, false] rfl rfl (by kernel_rfl) (fun _ _ _ h => h) (Or.inl ⟨by rfl, ?_⟩) ?_ ?_
        rotate_left
        · intro w'
          go_simp
          with_reducible rfl
        rotate_left
        · simp only [Act.put, List.setIfInBounds_toArray, List.set_cons_zero, List.set_cons_succ, i64_w, i32_w]
          rfl
        refine pure_ (i := 9) (N := some 64) (v := ?_) (a' := ?_) #[true, true, true, true, true, true, true, true, true, true, false, false, false, false, false] rfl rfl (by kernel_rfl) (fun _ _ _ h => h) (Or.inl ⟨by rfl, ?_⟩) ?_ ?_
        rotate_left
        · intro w'
          go_simp
          with_reducible rfl
        rotate_left
        · simp only [Act.put, List.setIfInBounds_toArray, List.set_cons_zero, List.set_cons_succ, i64_w, i32_w]
          rfl
        refine pure_ (i := 11) (N := some 66) (v := ?_) (a' := ?_) #[true, true, true, true, true, true, true, true, true, true, false, true, false, false, false] rfl rfl (by kernel_rfl) (fun _ _ _ h => h) (Or.inl ⟨by rfl, ?_⟩) ?_ ?_
        rotate_left
        · intro w'
          go_simp
          with_reducible rfl
        rotate_left
        · simp only [Act.put, List.setIfInBounds_toArray, List.set_cons_zero, List.set_cons_succ, i64_w, i32_w]
          rfl
        refine one_ (i := 10) (N := some 65) #[true, true, true, true, true, true, true, true, true, true, true, true, false, false, false] rfl rfl (by kernel_rfl) (by decide) (fun K hK => ?_)
        refine goes_ Try.func21 (by kernel_rfl) rfl #[.pointer (some ⟨g, 0, none⟩)] (by rfl) rfl rfl (by simp only [List.map_toArray, List.map_cons, List.map_nil]; rfl) ?_
        with_reducible refine (wheel_Spread.all HFD.out.pair.a).mono ?_
        rintro e ws ⟨rfl, hbs⟩
        have HFS := Aside0.mk (HFD.out.below hbs)
        have r0s := pw_cell_below hbs hHeld
        refine ⟨_, rfl, ?_⟩
        refine hK.out _ _ (r0s) (fun hHeld => ?_)
        clear hK K
        refine norm_ (a' := ?_) ?_ ?_
        rotate_left
        · show Act.put _ (some 65) _ = _
          simp only [Act.put, List.setIfInBounds_toArray, List.set_cons_zero, List.set_cons_succ, i64_w, i32_w]
          rfl
        refine one_ (i := 12) (N := some 67) #[true, true, true, true, true, true, true, true, true, true, true, true, true, false, false] rfl rfl (by kernel_rfl) (by decide) (fun K hK => ?_)
        refine goes_ Try.func22 (by kernel_rfl) rfl #[.pointer (some ⟨r, 0, none⟩)] (by rfl) rfl rfl (by simp only [List.map_toArray, List.map_cons, List.map_nil]; rfl) ?_
        with_reducible refine (ref_Spread.all HFS.out.pair.b HL.out.1 HL.out.2.1 HL.out.2.2).mono ?_
        rintro e wt ⟨rfl, hbt⟩
        have HFT := Aside0.mk (HFS.out.below hbt)
        have r0t := pw_cell_below hbt r0s
        refine ⟨_, rfl, ?_⟩
        refine hK.out _ _ (r0t) (fun hHeld => ?_)
        clear hK K
        refine norm_ (a' := ?_) ?_ ?_
        rotate_left
        · show Act.put _ (some 67) _ = _
          simp only [Act.put, List.setIfInBounds_toArray, List.set_cons_zero, List.set_cons_succ, i64_w, i32_w]
          rfl
        refine pure_ (i := 13) (N := some 68) (v := ?_) (a' := ?_) #[true, true, true, true, true, true, true, true, true, true, true, true, true, true, false] rfl rfl (by kernel_rfl) (fun _ _ _ h => h) (Or.inl ⟨by rfl, ?_⟩) ?_ ?_
        rotate_left
        · intro w'
          go_simp
          with_reducible rfl
        rotate_left
        · simp only [Act.put, List.setIfInBounds_toArray, List.set_cons_zero, List.set_cons_succ, i64_w, i32_w]
          rfl
        refine pure_ (i := 14) (N := some 69) (v := ?_) (a' := ?_) #[true, true, true, true, true, true, true, true, true, true, true, true, true, true, true] rfl rfl (by kernel_rfl) (fun _ _ _ h => h) (Or.inl ⟨by rfl, ?_⟩) ?_ ?_
        rotate_left
        · intro w'
          go_simp
          with_reducible rfl
        rotate_left
        · simp only [Act.put, List.setIfInBounds_toArray, List.set_cons_zero, List.set_cons_succ, i64_w, i32_w]
          rfl
        refine done_ (by kernel_rfl) ?_
        clear heq bl1 bl2 r0 hHeld r0s r0t HFD HFS HN
        have d4 := (blk_cell HFT.out.box 4).trans rfl
        by_cases hto : to_ < now
        · go_wp2_with fail
          refine (wheel_Advance.back HFT.out.pair.a to_ hto).mono ?_
          rintro e w7 ⟨rfl, rfl⟩
          go_wp2_with fail
          refine (ref_Advance.back HFT.out.pair.b to_ hto).mono ?_
          rintro e w8 ⟨rfl, rfl⟩
          have HCN : Aside0 (IC w8 none 0 []) := ⟨(Kd.R_reads' (Kd.R_nil (d := Kd.int .u64) 22 w8 0 (fun _ => True))).2.2⟩
          go_wp2_with (first
            | (go_at_call 25; (with_reducible refine (law_ids.calls none none 0 0 0 0 [] [] _ HCN.out HCN.out).mono ?_); rintro e w9 ⟨rfl, hd⟩; have HFE := Aside0.mk (HFT.out.below (drawn_belowW hd)); rw [decide_eq_true (rfl : ([] : List Int) = [])]; clear hd HCN HFT)
            | (go_at_call 14; (with_reducible refine (law_num.calls _ _).mono ?_); rintro e wx ⟨rfl, rfl⟩)
            | (go_at_call 26; (with_reducible refine (law_whole.calls HFE.out.pair).mono ?_); rintro e w10 ⟨rfl, hb10⟩; have HEN := Aside0.mk (HFE.out.pair.below hb10); clear hb10))
          go_ret
          exact ⟨rfl, HEN.out.bel⟩
        · have hle : now ≤ to_ := by omega
          go_wp2_with fail
          refine (wheel_Advance.all HFT.out.pair.a to_ HU4.out hle).mono ?_
          rintro e w5 ⟨v1, F', rfl, hw5, hF5, hk5, hr5⟩
          have b5 := (hk5.same Bx (blk_lt HFT.out.box) HFT.out.nf).trans HFT.out.box
          replace d4 := (blk_cell b5 4).trans rfl
          have HW5 := Aside0.mk hw5
          have HF5 := Aside0.mk hF5
          have HK5 := Aside0.mk hk5
          have HR5 := Aside0.mk hr5
          clear hw5 hF5 hk5 hr5 b5
          go_wp2_with fail
          refine (ref_Advance.all (HFT.out.pair.mid HK5.out) HFT.out.pair.srt HL.out.1 to_ hle).mono ?_
          rintro e w6 ⟨v2, G', rfl, hr6, hG6, hk6, hm6⟩
          have HEND := Aside0.mk (HFT.out.pair.both HW5.out HF5.out HK5.out hr6 hG6 hk6 (List.Perm.refl _) (HFT.out.pair.srt.filter _))
          have hrow : UR w6 0 (fun _ => True) v1 ((sorted (Ls.filter (isOver to_))).map (·.1)) := by
            have hbd := Kd.R_bound HR5.out
            have hnG : ∀ k, (F k ∨ wt.heap.size ≤ k) → ¬ G k := fun k h1 h2 => by
              rcases h1 with h1 | h1
              · exact HFT.out.pair.dis k h1 h2
              · have := HFT.out.pair.b.lt k h2; omega
            exact Kd.R_mono (Kd.R_step hbd (fun k hk hkl => hk6.same k hkl (hnG k hk.1.1))) (fun _ _ => trivial)
          obtain ⟨A1, c1, hv1⟩ := Kd.R_slice hrow
          obtain ⟨A2, c2, hv2⟩ := Kd.R_slice hm6
          obtain ⟨X1, hX1⟩ : ∃ X1, X1 = (sorted (Ls.filter (isOver to_))).map (·.1) := ⟨_, rfl⟩
          rw [← hX1] at hv1 hv2 hrow hm6
          obtain ⟨M, hM⟩ : ∃ M, M = X1.length := ⟨_, rfl⟩
          rw [← hM] at hv1 hv2
          subst hv1 hv2
          have HC1 : Aside0 (IC w6 A1 M X1) := ⟨by have h := (Kd.R_reads' hrow).2.2; rw [← hM] at h; exact h⟩
          have HC2 : Aside0 (IC w6 A2 M X1) := ⟨by have h := (Kd.R_reads' hm6).2.2; rw [← hM] at h; exact h⟩
          obtain ⟨Lx, hLx⟩ : ∃ Lx, Lx = Ls.filter (isStay to_) := ⟨_, rfl⟩
          rw [← hLx] at HEND
          clear hM hX1 hrow hm6 hr6 hG6 hk6 hLx hto hle HW5 HF5 HK5 HR5 d4
          go_wp2_with (first
            | (go_at_call 25; (with_reducible refine (law_ids.calls A1 A2 M M c1 c2 X1 X1 _ HC1.out HC2.out).mono ?_); rintro e w7 ⟨rfl, hd⟩; have HFE := Aside0.mk (HEND.out.below (drawn_belowW hd)); rw [decide_eq_true (rfl : X1 = X1)]; clear hd HC1 HC2 HEND)
            | (go_at_call 14; (with_reducible refine (law_num.calls _ _).mono ?_); rintro e wx ⟨rfl, rfl⟩)
            | (go_at_call 26; (with_reducible refine (law_whole.calls HFE.out).mono ?_); rintro e w10 ⟨rfl, hb10⟩; have HEN := Aside0.mk (HFE.out.below hb10); clear hb10))
          go_ret
          exact ⟨rfl, HEN.out.bel⟩
  · have bb : decide (nF > 8194) = false := decide_eq_false hbig
    have HS : Aside0 (∃ F G now Ls, FilI w w4 F G g m r now Ls Bx #[.int .u64 now0, .int .u64 first, .int .u64 step, .int .i64 nF, .int .u64 to_]) := ⟨F0, G0, now0, [], HFI4.out⟩
    have hnb : nF ≤ 8194 := by omega
    clear hbig HFI4 
    go_wp2_with fail
    clear bb d3 f3
    go_loopw [5] (fun v5 wr => ∃ i : Nat, v5 = .int .i64 i ∧ i ≤ 8194 ∧ ((i : Int) ≤ nF ∨ i = 0) ∧ Aside0 (∃ F G now Ls, FilI w wr F G g m r now Ls Bx #[.int .u64 now0, .int .u64 first, .int .u64 step, .int .i64 nF, .int .u64 to_])) (fun v5 _ => (nF - intOf v5).toNat)
    case atStart => exact ⟨0, rfl, by omega, .inr rfl, HS⟩
    case round =>
      clear HS
      obtain ⟨i, rfl, hi, hin, HI⟩ := hrel
      obtain ⟨F, G, now, Ls, hI⟩ := HI.out
      have HIP := Aside0.mk hI
      have HL := Aside0.mk hI.pair.lens
      have d1 := (blk_cell hI.box 1).trans rfl
      have d2 := (blk_cell hI.box 2).trans rfl
      have d3 := (blk_cell hI.box 3).trans rfl
      clear hI HI
      have hib : (i : Int) ≤ 8194 := by omega
      by_cases hlt : (i : Int) < nF
      · clear hin
        go_wp2_with fail
        obtain ⟨idv, hidv⟩ : ∃ idv : Int, idv = (i : Int) := ⟨_, rfl⟩
        refine (wheel_Add.all HIP.out.pair.a _ _ ?hid ?hat).mono ?_
        case hid => constructor <;> omega
        case hat => exact wrap_U _
        rintro e w5 ⟨rfl, F', hw5, hF5, hk5⟩
        have HW5 := Aside0.mk hw5
        have HF5 := Aside0.mk hF5
        have HK5 := Aside0.mk hk5
        clear hw5 hF5 hk5 hidv
        go_wp2_with (go_at_call 14; (with_reducible refine (law_num.calls _ _).mono ?_); rintro e wx ⟨rfl, rfl⟩)
        refine (ref_Add.all (HIP.out.pair.mid HK5.out) HIP.out.pair.srt HL.out.1 _ _).mono ?_
        rintro e w6 ⟨rfl, G', Ls', hr6, hp6, hs6, hG6, hk6⟩
        have HNX : Aside0 (∃ F G now Ls, FilI w w6 F G g m r now Ls Bx #[.int .u64 now0, .int .u64 first, .int .u64 step, .int .i64 nF, .int .u64 to_]) := ⟨⟨_, _, _, _, HIP.out.both HW5.out HF5.out HK5.out hr6 hG6 hk6 hp6 hs6⟩⟩
        clear hr6 hp6 hs6 hG6 hk6 HW5 HF5 HK5 HIP
        go_wp2_with fail
        go_roundw
        case rel => exact ⟨i + 1, by go_num, by omega, .inl (by omega), HNX⟩
        case measure => simp [intOf]; omega
      · obtain ⟨A, c, r0, _, _⟩ := HIP.out.pair.rcells
        obtain ⟨N, hN⟩ : ∃ N, N = Ls.length := ⟨_, rfl⟩
        rw [← hN] at r0
        have HN := Aside0.mk hN
        have bi : decide ((i : Int) < nF) = false := decide_eq_false hlt
        have HFD := Aside0.mk (HIP.out.below (below_drew1 (Below.refl wr.heap.size wr)))
        have heq : ∀ W, (Op.equalIn 10000 40 (.agg #[.int .i64 (cntOf Ls now 0 : Nat), .int .i64 (cntOf Ls now 1 : Nat), .int .i64 (cntOf Ls now 2 : Nat), .int .i64 (cntOf Ls now 3 : Nat), .int .i64 (cntOf Ls now 4 : Nat)]) (.agg #[.int .i64 (cntOf Ls now 0 : Nat), .int .i64 (cntOf Ls now 1 : Nat), .int .i64 (cntOf Ls now 2 : Nat), .int .i64 (cntOf Ls now 3 : Nat), .int .i64 (cntOf Ls now 4 : Nat)])).run Try.prog W = .ok true W := fun W => equal5 _ _ _ _ _ W
        have bl1 : ((N : Int) == (N : Int)) = true := beq_self_eq_true _
        have bl2 : ((N : Int) != (N : Int)) = false := by rw [bne, bl1]; rfl
        clear hN hlt hin d1 d2
        go_upto_region 14 with (fail)
        refine start_ (n := 15) (S := fun w' => w'.cell? ⟨r, 0, none⟩ = some (.slice A N c)) (ds := []) #[false, false, false, false, false, false, false, false, false, false, false, false, false, false, false] (by kernel_rfl) rfl rfl (r0) (fun hHeld => ?_)
        refine pure_ (i := 0) (N := some 55) (v := ?_) (a' := ?_) #[true, false, false, false, false, false, false, false, false, false, false, false, false, false, false] rfl rfl (by kernel_rfl) (fun _ _ _ h => h) (Or.inl ⟨by rfl, ?_⟩) ?_ ?_
        rotate_left
        · intro w'
          go_simp
          with_reducible rfl
        rotate_left
        · simp only [Act.put, List.setIfInBounds_toArray, List.set_cons_zero, List.set_cons_succ, i64_w, i32_w]
          rfl
        refine pure_ (i := 2) (N := some 57) (v := ?_) (a' := ?_) #[true, false, true, false, false, false, false, false, false, false, false, false, false, false, false] rfl rfl (by kernel_rfl) (fun _ _ _ h => h) (Or.inl ⟨by rfl, ?_⟩) ?_ ?_
        rotate_left
        · intro w'
          go_simp
          with_reducible rfl
        rotate_left
        · simp only [Act.put, List.setIfInBounds_toArray, List.set_cons_zero, List.set_cons_succ, i64_w, i32_w]
          rfl
        refine pure_ (i := 3) (N := some 58) (v := ?_) (a' := ?_) #[true, false, true, true, false, false, false, false, false, false, false, false, false, false, false] rfl rfl (by kernel_rfl) (fun _ _ _ h => h) (Or.inl ⟨by rfl, ?_⟩) ?_ ?_
        rotate_left
        · intro w'
          go_simp
          with_reducible rfl
        rotate_left
        · simp only [Act.put, List.setIfInBounds_toArray, List.set_cons_zero, List.set_cons_succ, i64_w, i32_w]
          rfl
        refine pure_ (i := 4) (N := some 59) (v := ?_) (a' := ?_) #[true, false, true, true, true, false, false, false, false, false, false, false, false, false, false] rfl rfl (by kernel_rfl) (fun _ _ _ h => h) (Or.inl ⟨by rfl, ?_⟩) ?_ ?_
        rotate_left
        · intro w'
          go_simp
          with_reducible rfl
        rotate_left
        · simp only [Act.put, List.setIfInBounds_toArray, List.set_cons_zero, List.set_cons_succ, i64_w, i32_w]
          rfl
        refine take_ (i := 5) (N := some 60) (v := ?_) (a' := ?_) #[true, false, true, true, true, true, false, false, false, false, false, false, false, false, false] rfl rfl (by kernel_rfl) (fun _ _ _ h => h) (Or.inl ⟨by rfl, ?_⟩) hHeld ?_ ?_
        rotate_left
        · intro w' s0
          go_simp
          with_reducible rfl
        rotate_left
        · simp only [Act.put, List.setIfInBounds_toArray, List.set_cons_zero, List.set_cons_succ, i64_w, i32_w]
          rfl
        refine pure_ (i := 6) (N := some 61) (v := ?_) (a' := ?_) #[true, false, true, true, true, true, true, false, false, false, false, false, false, false, false] rfl rfl (by kernel_rfl) (fun _ _ _ h => h) (Or.inl ⟨by rfl, ?_⟩) ?_ ?_
        rotate_left
        · intro w'
          go_simp
          with_reducible rfl
        rotate_left
        · simp only [Act.put, List.setIfInBounds_toArray, List.set_cons_zero, List.set_cons_succ, i64_w, i32_w]
          rfl
        refine one_ (i := 1) (N := some 56) #[true, true, true, true, true, true, true, false, false, false, false, false, false, false, false] rfl rfl (by kernel_rfl) (by decide) (fun K hK => ?_)
        refine goes_ Try.func20 (by kernel_rfl) rfl #[.pointer (some ⟨g, 0, none⟩)] (by rfl) rfl rfl (by simp only [List.map_toArray, List.map_cons, List.map_nil]; rfl) ?_
        with_reducible refine (wheel_Len.all HFD.out.pair.a).mono ?_
        rintro e wl ⟨rfl, rfl⟩
        rw [← HN.out]
        refine ⟨_, rfl, ?_⟩
        refine hK.out _ _ (hHeld) (fun hHeld => ?_)
        clear hK K
        refine norm_ (a' := ?_) ?_ ?_
        rotate_left
        · show Act.put _ (some 56) _ = _
          simp only [Act.put, List.setIfInBounds_toArray, List.set_cons_zero, List.set_cons_succ, i64_w, i32_w]
          rfl
        refine pure_ (i := 7) (N := some 62) (v := ?_) (a' := ?_) #[true, true, true, true, true, true, true, true, false, false, false, false, false, false, false] rfl rfl (by kernel_rfl) (fun _ _ _ h => h) (Or.inl ⟨by rfl, ?_⟩) ?_ ?_
        rotate_left
        · intro w'
          go_simp
          with_reducible rfl
        rotate_left
        · simp only [Act.put, List.setIfInBounds_toArray, List.set_cons_zero, List.set_cons_succ, i64_w, i32_w]
          rfl
        refine pure_ (i := 8) (N := some 63) (v := ?_) (a' := ?_) #[true, true, true, true, true, true, true, true, true, false, false, false, false, false, false] rfl rfl (by kernel_rfl) (fun _ _ _ h => h) (Or.inl ⟨by rfl, ?_⟩) ?_ ?_
        rotate_left
        · intro w'
          go_simp
          with_reducible rfl
        rotate_left
        · simp only [Act.put, List.setIfInBounds_toArray, List.set_cons_zero, List.set_cons_succ, i64_w, i32_w]
          rfl
        refine pure_ (i := 9) (N := some 64) (v := ?_) (a' := ?_) #[true, true, true, true, true, true, true, true, true, true, false, false, false, false, false] rfl rfl (by kernel_rfl) (fun _ _ _ h => h) (Or.inl ⟨by rfl, ?_⟩) ?_ ?_
        rotate_left
        · intro w'
          go_simp
          with_reducible rfl
        rotate_left
        · simp only [Act.put, List.setIfInBounds_toArray, List.set_cons_zero, List.set_cons_succ, i64_w, i32_w]
          rfl
        refine pure_ (i := 11) (N := some 66) (v := ?_) (a' := ?_) #[true, true, true, true, true, true, true, true, true, true, false, true, false, false, false] rfl rfl (by kernel_rfl) (fun _ _ _ h => h) (Or.inl ⟨by rfl, ?_⟩) ?_ ?_
        rotate_left
        · intro w'
          go_simp
          with_reducible rfl
        rotate_left
        · simp only [Act.put, List.setIfInBounds_toArray, List.set_cons_zero, List.set_cons_succ, i64_w, i32_w]
          rfl
        refine one_ (i := 10) (N := some 65) #[true, true, true, true, true, true, true, true, true, true, true, true, false, false, false] rfl rfl (by kernel_rfl) (by decide) (fun K hK => ?_)
        refine goes_ Try.func21 (by kernel_rfl) rfl #[.pointer (some ⟨g, 0, none⟩)] (by rfl) rfl rfl (by simp only [List.map_toArray, List.map_cons, List.map_nil]; rfl) ?_
        with_reducible refine (wheel_Spread.all HFD.out.pair.a).mono ?_
        rintro e ws ⟨rfl, hbs⟩
        have HFS := Aside0.mk (HFD.out.below hbs)
        have r0s := pw_cell_below hbs hHeld
        refine ⟨_, rfl, ?_⟩
        refine hK.out _ _ (r0s) (fun hHeld => ?_)
        clear hK K
        refine norm_ (a' := ?_) ?_ ?_
        rotate_left
        · show Act.put _ (some 65) _ = _
          simp only [Act.put, List.setIfInBounds_toArray, List.set_cons_zero, List.set_cons_succ, i64_w, i32_w]
          rfl
        refine one_ (i := 12) (N := some 67) #[true, true, true, true, true, true, true, true, true, true, true, true, true, false, false] rfl rfl (by kernel_rfl) (by decide) (fun K hK => ?_)
        refine goes_ Try.func22 (by kernel_rfl) rfl #[.pointer (some ⟨r, 0, none⟩)] (by rfl) rfl rfl (by simp only [List.map_toArray, List.map_cons, List.map_nil]; rfl) ?_
        with_reducible refine (ref_Spread.all HFS.out.pair.b HL.out.1 HL.out.2.1 HL.out.2.2).mono ?_
        rintro e wt ⟨rfl, hbt⟩
        have HFT := Aside0.mk (HFS.out.below hbt)
        have r0t := pw_cell_below hbt r0s
        refine ⟨_, rfl, ?_⟩
        refine hK.out _ _ (r0t) (fun hHeld => ?_)
        clear hK K
        refine norm_ (a' := ?_) ?_ ?_
        rotate_left
        · show Act.put _ (some 67) _ = _
          simp only [Act.put, List.setIfInBounds_toArray, List.set_cons_zero, List.set_cons_succ, i64_w, i32_w]
          rfl
        refine pure_ (i := 13) (N := some 68) (v := ?_) (a' := ?_) #[true, true, true, true, true, true, true, true, true, true, true, true, true, true, false] rfl rfl (by kernel_rfl) (fun _ _ _ h => h) (Or.inl ⟨by rfl, ?_⟩) ?_ ?_
        rotate_left
        · intro w'
          go_simp
          with_reducible rfl
        rotate_left
        · simp only [Act.put, List.setIfInBounds_toArray, List.set_cons_zero, List.set_cons_succ, i64_w, i32_w]
          rfl
        refine pure_ (i := 14) (N := some 69) (v := ?_) (a' := ?_) #[true, true, true, true, true, true, true, true, true, true, true, true, true, true, true] rfl rfl (by kernel_rfl) (fun _ _ _ h => h) (Or.inl ⟨by rfl, ?_⟩) ?_ ?_
        rotate_left
        · intro w'
          go_simp
          with_reducible rfl
        rotate_left
        · simp only [Act.put, List.setIfInBounds_toArray, List.set_cons_zero, List.set_cons_succ, i64_w, i32_w]
          rfl
        refine done_ (by kernel_rfl) ?_
        clear heq bl1 bl2 r0 hHeld r0s r0t HFD HFS HN
        have d4 := (blk_cell HFT.out.box 4).trans rfl
        by_cases hto : to_ < now
        · go_wp2_with fail
          refine (wheel_Advance.back HFT.out.pair.a to_ hto).mono ?_
          rintro e w7 ⟨rfl, rfl⟩
          go_wp2_with fail
          refine (ref_Advance.back HFT.out.pair.b to_ hto).mono ?_
          rintro e w8 ⟨rfl, rfl⟩
          have HCN : Aside0 (IC w8 none 0 []) := ⟨(Kd.R_reads' (Kd.R_nil (d := Kd.int .u64) 22 w8 0 (fun _ => True))).2.2⟩
          go_wp2_with (first
            | (go_at_call 25; (with_reducible refine (law_ids.calls none none 0 0 0 0 [] [] _ HCN.out HCN.out).mono ?_); rintro e w9 ⟨rfl, hd⟩; have HFE := Aside0.mk (HFT.out.below (drawn_belowW hd)); rw [decide_eq_true (rfl : ([] : List Int) = [])]; clear hd HCN HFT)
            | (go_at_call 14; (with_reducible refine (law_num.calls _ _).mono ?_); rintro e wx ⟨rfl, rfl⟩)
            | (go_at_call 26; (with_reducible refine (law_whole.calls HFE.out.pair).mono ?_); rintro e w10 ⟨rfl, hb10⟩; have HEN := Aside0.mk (HFE.out.pair.below hb10); clear hb10))
          go_ret
          exact ⟨rfl, HEN.out.bel⟩
        · have hle : now ≤ to_ := by omega
          go_wp2_with fail
          refine (wheel_Advance.all HFT.out.pair.a to_ HU4.out hle).mono ?_
          rintro e w5 ⟨v1, F', rfl, hw5, hF5, hk5, hr5⟩
          have b5 := (hk5.same Bx (blk_lt HFT.out.box) HFT.out.nf).trans HFT.out.box
          replace d4 := (blk_cell b5 4).trans rfl
          have HW5 := Aside0.mk hw5
          have HF5 := Aside0.mk hF5
          have HK5 := Aside0.mk hk5
          have HR5 := Aside0.mk hr5
          clear hw5 hF5 hk5 hr5 b5
          go_wp2_with fail
          refine (ref_Advance.all (HFT.out.pair.mid HK5.out) HFT.out.pair.srt HL.out.1 to_ hle).mono ?_
          rintro e w6 ⟨v2, G', rfl, hr6, hG6, hk6, hm6⟩
          have HEND := Aside0.mk (HFT.out.pair.both HW5.out HF5.out HK5.out hr6 hG6 hk6 (List.Perm.refl _) (HFT.out.pair.srt.filter _))
          have hrow : UR w6 0 (fun _ => True) v1 ((sorted (Ls.filter (isOver to_))).map (·.1)) := by
            have hbd := Kd.R_bound HR5.out
            have hnG : ∀ k, (F k ∨ wt.heap.size ≤ k) → ¬ G k := fun k h1 h2 => by
              rcases h1 with h1 | h1
              · exact HFT.out.pair.dis k h1 h2
              · have := HFT.out.pair.b.lt k h2; omega
            exact Kd.R_mono (Kd.R_step hbd (fun k hk hkl => hk6.same k hkl (hnG k hk.1.1))) (fun _ _ => trivial)
          obtain ⟨A1, c1, hv1⟩ := Kd.R_slice hrow
          obtain ⟨A2, c2, hv2⟩ := Kd.R_slice hm6
          obtain ⟨X1, hX1⟩ : ∃ X1, X1 = (sorted (Ls.filter (isOver to_))).map (·.1) := ⟨_, rfl⟩
          rw [← hX1] at hv1 hv2 hrow hm6
          obtain ⟨M, hM⟩ : ∃ M, M = X1.length := ⟨_, rfl⟩
          rw [← hM] at hv1 hv2
          subst hv1 hv2
          have HC1 : Aside0 (IC w6 A1 M X1) := ⟨by have h := (Kd.R_reads' hrow).2.2; rw [← hM] at h; exact h⟩
          have HC2 : Aside0 (IC w6 A2 M X1) := ⟨by have h := (Kd.R_reads' hm6).2.2; rw [← hM] at h; exact h⟩
          obtain ⟨Lx, hLx⟩ : ∃ Lx, Lx = Ls.filter (isStay to_) := ⟨_, rfl⟩
          rw [← hLx] at HEND
          clear hM hX1 hrow hm6 hr6 hG6 hk6 hLx hto hle HW5 HF5 HK5 HR5 d4
          go_wp2_with (first
            | (go_at_call 25; (with_reducible refine (law_ids.calls A1 A2 M M c1 c2 X1 X1 _ HC1.out HC2.out).mono ?_); rintro e w7 ⟨rfl, hd⟩; have HFE := Aside0.mk (HEND.out.below (drawn_belowW hd)); rw [decide_eq_true (rfl : X1 = X1)]; clear hd HC1 HC2 HEND)
            | (go_at_call 14; (with_reducible refine (law_num.calls _ _).mono ?_); rintro e wx ⟨rfl, rfl⟩)
            | (go_at_call 26; (with_reducible refine (law_whole.calls HFE.out).mono ?_); rintro e w10 ⟨rfl, hb10⟩; have HEN := Aside0.mk (HFE.out.below hb10); clear hb10))
          go_ret
          exact ⟨rfl, HEN.out.bel⟩
abbrev FillT := Int × Int × Int × Int × Int
abbrev kFill : Kd FillT := Kd.iso (Kd.pair (Kd.int .u64) (Kd.pair (Kd.int .u64) (Kd.pair (Kd.int .u64) (Kd.pair (Kd.int .i64) (Kd.int .u64))))) (fun x => x)
abbrev fillWf (b : FillT) : Prop := (Lit.int .u64 b.1).wf = true ∧ (Lit.int .u64 b.2.1).wf = true ∧ (Lit.int .u64 b.2.2.1).wf = true ∧ (Lit.int .i64 b.2.2.2.1).wf = true ∧ (Lit.int .u64 b.2.2.2.2).wf = true
set_option maxRecDepth 100000 in
theorem fill_opens : Opens Try.prog 29 kFill fillWf (fun b : FillT => 1 + (1 + (1 + (1 + 1))) + 1) :=
  Opens.struct (total := 5) (fun x => x) (fun x => x) (fun _ => rfl) Try.underlying29 (by kernel_rfl) (OpensFs.cons rfl (by kernel_rfl) (Opens.int .u64 Try.underlying22) (OpensFs.cons rfl (by kernel_rfl) (Opens.int .u64 Try.underlying22) (OpensFs.cons rfl (by kernel_rfl) (Opens.int .u64 Try.underlying22) (OpensFs.cons rfl (by kernel_rfl) (Opens.int .i64 Try.underlying3)
    (OpensFs.last rfl (by kernel_rfl) (by kernel_rfl) (Opens.int .u64 Try.underlying22))))))
theorem wf_I {x : Int} (h : (Lit.int .i64 x).wf = true) : -9223372036854775808 ≤ x ∧ x ≤ 9223372036854775807 := by
  simp only [Lit.wf, Bool.and_eq_true, decide_eq_true_eq, show IntKind.i64.min = -9223372036854775808 by decide, show IntKind.i64.max = 9223372036854775807 by decide] at h
  exact h
theorem wheelFills_machine (W : World) (cs : Array Value) (x : FillT) (hk : kFill.K W x cs.toList) (hw : fillWf x) :
    Calls Try.prog 5 #[.agg cs] W fun e w' => e = .returned (.bool true) ∧ Below W.heap.size W w' := by
  obtain ⟨a, b, c, d, f⟩ := x
  obtain ⟨q1, q2, e1, hk1, q3, q4, e2, hk2, q5, q6, e3, hk3, q7, q8, e4, hk4, hk5⟩ := hk
  obtain ⟨w1, w2, w3, w4, w5⟩ := hw
  simp only at w1 w2 w3 w4 w5
  have hcs : cs = #[.int .u64 a, .int .u64 b, .int .u64 c, .int .i64 d, .int .u64 f] := by
    apply Array.ext'
    rw [e1, e2, e3, e4, hk1, hk2, hk3, hk4, hk5]
    rfl
  subst hcs
  exact wheelFills.walk a b c d f W (wf_U w1) (wf_U w2) (wf_U w3) (wf_U w5) (wf_I w4).1 (wf_I w4).2
end Go.Proofs.Ytkgdlmgodpgcoaa.Hand
