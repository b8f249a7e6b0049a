/- Wheel: the law's changes: a call that may change something, on both wheels. -/
import Derived.Test.YtkgdlmgodpgcoaaWhlAL
namespace Go.Proofs.Ytkgdlmgodpgcoaa.Hand
open Go.RowKit Go.Maps Go.Proofs.YtkgdlmgodpgcoaaW.PrintWords Go.Proofs.YtkgdlmgodpgcoaaW.PrintLast Go.Proofs.YtkgdlmgodpgcoaaW.PrintMore
set_option linter.unusedVariables false
set_option linter.unusedSimpArgs false

/-- The program's wheel has gone on first. -/
theorem PairS.mid {w0 w w5 : World} {F G : Nat → Prop} {g m r : Nat} {now : Int} {Ls : List TimT} (h : PairS w0 w F G g m r now Ls) (hk : KeptW F w w5) : Rst w5 G r now Ls := h.b.kept hk (fun k h2 h1 => h.dis k h1 h2)
theorem PairS.both {w0 w w5 w6 : World} {F F' G G' : Nat → Prop} {g m r : Nat} {now now' : Int} {Ls L1 L2 : List TimT} (h : PairS w0 w F G g m r now Ls) (hw : Wst w5 F' g m now' L1) (hF : ∀ k, F' k → F k ∨ w.heap.size ≤ k) (hk : KeptW F w w5) (hr : Rst w6 G' r now' L2) (hG : ∀ k, G' k → G k ∨ w5.heap.size ≤ k) (hk2 : KeptW G w5 w6) (hp : L2.Perm L1) (hS : Srt L2) : PairS w0 w6 F' G' g m r now' L2 := by
  refine ⟨(hw.kept hk2 (fun k h1 h2 => ?_)).perm hp.symm, hr, hS, fun k h1 h2 => ?_, fun k h1 => ?_, fun k h1 => ?_, ?_⟩
  · rcases hF k h1 with h3 | h3
    · exact h.dis k h3 h2
    · have := h.b.lt k h2; omega
  · have h5 := hw.lt k h1
    rcases hG k h2 with h3 | h3
    · rcases hF k h1 with h4 | h4
      · exact h.dis k h4 h3
      · have := h.b.lt k h3; omega
    · omega
  · rcases hF k h1 with h3 | h3
    · exact h.lowA k h3
    · exact Nat.le_trans h.bel.size h3
  · rcases hG k h1 with h3 | h3
    · exact h.lowB k h3
    · exact Nat.le_trans h.bel.size (Nat.le_trans hk.bel.size h3)
  · exact KeptW.belowN (KeptW.belowN h.bel h.bel.size hk h.lowA) (Nat.le_trans h.bel.size hk.bel.size) hk2 h.lowB
/-- A row of neither has grown. -/
theorem PairS.grown {w0 w w' : World} {F G : Nat → Prop} {g m r : Nat} {now : Int} {Ls : List TimT} {row : Option Nat} (h : PairS w0 w F G g m r now Ls) (hg : w.grownBy w' row) (h1 : ∀ k, row = some k → w0.heap.size ≤ k ∧ ¬ F k ∧ ¬ G k) : PairS w0 w' F G g m r now Ls :=
  ⟨h.a.kept (KeptW.of_grown hg) (fun k hk e => (h1 k e).2.1 hk), h.b.kept (KeptW.of_grown hg) (fun k hk e => (h1 k e).2.2 hk), h.srt, h.dis, h.lowA, h.lowB, h.bel.grown hg h.bel.size (fun k e => (h1 k e).1)⟩
abbrev ActV (kd id at_ : Int) : Value := .agg #[.int .i64 kd, .int .u64 id, .int .u64 at_]
theorem ur_form {w : World} {base M c : Nat} {ok : Nat → Prop} {A : Option Addr} {X : List Int} (h : UR w base ok (.slice A M c) X) (hp : 0 < M) : ∃ b, A = some ⟨b, 0, none⟩ ∧ ok b := by
  obtain ⟨inner, ho⟩ := Kd.R_own h
  rcases ho.2 with ⟨e, _⟩ | ⟨g, cap, cur, e, _⟩
  · injection e with e1 e2 e3
    omega
  · injection e with e1 e2 e3
    exact ⟨g, e1, h.1 g (by rw [e1]; rfl)⟩
/-- The answer is written over, the wheels stand. -/
def ChgI (w0 wr : World) (F G : Nat → Prop) (g m r : Nat) (nw : Int) (Lx : List TimT) (A1 : Option Addr) (M c1 : Nat) : Prop := ∃ X, X.length = M ∧ UR wr 0 (fun k => w0.heap.size ≤ k ∧ ¬ F k ∧ ¬ G k) (.slice A1 M c1) X ∧ PairS w0 wr F G g m r nw Lx
theorem ChgI.step {w0 wr : World} {F G : Nat → Prop} {g m r : Nat} {nw : Int} {Lx : List TimT} {A1 : Option Addr} {M c1 i : Nat} (h : ChgI w0 wr F G g m r nw Lx A1 M c1) (hi : i < M) :
    ∃ b, A1 = some ⟨b, 0, none⟩ ∧ (∃ z, wr.cell? ⟨b, i, none⟩ = some (.int .u64 z)) ∧ wr.frozen? ⟨b, i, none⟩ = false ∧ ChgI w0 (wr.setCell ⟨b, i, none⟩ (.int .u64 77)) F G g m r nw Lx A1 M c1 := by
  obtain ⟨X, hl, hr, hp⟩ := h
  obtain ⟨b, rfl, hb⟩ := ur_form hr (by omega)
  have hc := Kd.R_celln (0 : Int) hr (i : Int) (by omega) (by omega)
  have hg := Kd.R_putg hr (i : Int) 77
  rw [Int.toNat_natCast] at hc hg
  exact ⟨b, rfl, ⟨_, hc.1⟩, hc.2, X.set i 77, by rw [List.length_set]; exact hl, hg.1, hp.grown hg.2 (fun k e => by injection e with e; rw [← e]; exact hb)⟩
theorem stay_adv_srt {Ls : List TimT} (h : Srt Ls) (tz : Int) : Srt (Ls.filter (isStay tz)) := h.filter _
set_option maxHeartbeats 2000000 in
set_option maxRecDepth 100000 in
theorem law_changes.calls {w0 w : World} {F G : Nat → Prop} {g m r : Nat} {now : Int} {Ls : List TimT} (h : PairS w0 w F G g m r now Ls) (kd id at_ : Int) (hid : U id) (hat : U at_) :
    Calls Try.prog 34 #[.pointer (some ⟨g, 0, none⟩), .pointer (some ⟨r, 0, none⟩), ActV kd id at_] w fun e w' => e = .returned (.bool true) ∧ ∃ F' G' now' Ls', PairS w0 w' F' G' g m r now' Ls' := by
  have hb1 := below_alloc (Below.refl w.heap.size w) (.cells #[.int .i64 kd, .int .u64 id, .int .u64 at_] 54)
  have bt := blk_new w (.cells #[.int .i64 kd, .int .u64 id, .int .u64 at_] 54 (0, 0))
  obtain ⟨w1, hw1⟩ : ∃ w1, w1 = w.alloc (.cells #[.int .i64 kd, .int .u64 id, .int .u64 at_] 54) := ⟨_, rfl⟩
  obtain ⟨B, hB⟩ : ∃ B, B = w.heap.size := ⟨_, rfl⟩
  rw [← hw1] at hb1
  rw [← hw1, ← hB] at bt
  have HP := Aside0.mk (h.below hb1)
  have HNF : Aside0 (¬ F B ∧ ¬ G B) := ⟨fun h2 => by have := h.a.lt B h2; omega, fun h2 => by have := h.b.lt B h2; omega⟩
  have HL := Aside0.mk h.lens
  have HBT := Aside0.mk bt
  have e0 := (blk_cell bt 0).trans rfl
  have e1 := (blk_cell bt 1).trans rfl
  have e2 := (blk_cell bt 2).trans rfl
  clear h hb1 bt
  go_enter Try.func34, Try.ntmps34
  go_upto_region 1 with (fail)
  rw [← hw1]
  rw [← hB]
  clear hw1 hB
  by_cases hk1 : kd = 1
  · subst hk1
    have HPD := Aside0.mk (HP.out.below (below_drew1 (Below.refl w1.heap.size w1)))
    obtain ⟨ee, hee⟩ : ∃ ee, ee = addE now Ls id at_ := ⟨_, rfl⟩
    have HEE := Aside0.mk hee
    have bl : (ee == ee) = true := beq_self_eq_true _
    clear hee
    go_upto_region 3 with (fail)
    refine start_ (n := 15) (S := fun w' => w'.cell? ⟨B, 1, none⟩ = some (.int .u64 id) ∧ w'.cell? ⟨B, 2, none⟩ = some (.int .u64 at_)) (ds := []) #[false, false, false, false, false, false, false, false, false, false, false, false, false, false, false] (by kernel_rfl) rfl rfl ⟨e1, e2⟩ (fun hHeld => ?_)
    refine pure_ (i := 0) (N := some 17) (v := ?_) (a' := ?_) #[true, false, false, false, false, false, false, false, false, false, false, false, false, false, false] rfl rfl (by kernel_rfl) (fun _ _ _ h => h) (Or.inl ⟨by rfl, ?_⟩) ?_ ?_
    rotate_left
    · intro w'
      go_simp
      with_reducible rfl
    rotate_left
    · simp only [Act.put, List.setIfInBounds_toArray, List.set_cons_zero, List.set_cons_succ, i64_w, i32_w]
      rfl
    refine pure_ (i := 1) (N := some 18) (v := ?_) (a' := ?_) #[true, true, false, false, false, false, false, false, false, false, false, false, false, false, false] rfl rfl (by kernel_rfl) (fun _ _ _ h => h) (Or.inl ⟨by rfl, ?_⟩) ?_ ?_
    rotate_left
    · intro w'
      go_simp
      with_reducible rfl
    rotate_left
    · simp only [Act.put, List.setIfInBounds_toArray, List.set_cons_zero, List.set_cons_succ, i64_w, i32_w]
      rfl
    refine pure_ (i := 3) (N := some 20) (v := ?_) (a' := ?_) #[true, true, false, true, false, false, false, false, false, false, false, false, false, false, false] rfl rfl (by kernel_rfl) (fun _ _ _ h => h) (Or.inl ⟨by rfl, ?_⟩) ?_ ?_
    rotate_left
    · intro w'
      go_simp
      with_reducible rfl
    rotate_left
    · simp only [Act.put, List.setIfInBounds_toArray, List.set_cons_zero, List.set_cons_succ, i64_w, i32_w]
      rfl
    refine pure_ (i := 7) (N := some 24) (v := ?_) (a' := ?_) #[true, true, false, true, false, false, false, true, false, false, false, false, false, false, false] rfl rfl (by kernel_rfl) (fun _ _ _ h => h) (Or.inl ⟨by rfl, ?_⟩) ?_ ?_
    rotate_left
    · intro w'
      go_simp
      with_reducible rfl
    rotate_left
    · simp only [Act.put, List.setIfInBounds_toArray, List.set_cons_zero, List.set_cons_succ, i64_w, i32_w]
      rfl
    refine pure_ (i := 8) (N := some 25) (v := ?_) (a' := ?_) #[true, true, false, true, false, false, false, true, true, false, false, false, false, false, false] rfl rfl (by kernel_rfl) (fun _ _ _ h => h) (Or.inl ⟨by rfl, ?_⟩) ?_ ?_
    rotate_left
    · intro w'
      go_simp
      with_reducible rfl
    rotate_left
    · simp only [Act.put, List.setIfInBounds_toArray, List.set_cons_zero, List.set_cons_succ, i64_w, i32_w]
      rfl
    refine pure_ (i := 10) (N := some 27) (v := ?_) (a' := ?_) #[true, true, false, true, false, false, false, true, true, false, true, false, false, false, false] rfl rfl (by kernel_rfl) (fun _ _ _ h => h) (Or.inl ⟨by rfl, ?_⟩) ?_ ?_
    rotate_left
    · intro w'
      go_simp
      with_reducible rfl
    rotate_left
    · simp only [Act.put, List.setIfInBounds_toArray, List.set_cons_zero, List.set_cons_succ, i64_w, i32_w]
      rfl
    refine take_ (i := 2) (N := some 19) (v := ?_) (a' := ?_) #[true, true, true, true, false, false, false, true, true, false, true, false, false, false, false] rfl rfl (by kernel_rfl) (fun _ _ _ h => h) (Or.inl ⟨by rfl, ?_⟩) hHeld ?_ ?_
    rotate_left
    · rintro w' ⟨s0, s1⟩
      go_simp
      with_reducible rfl
    rotate_left
    · simp only [Act.put, List.setIfInBounds_toArray, List.set_cons_zero, List.set_cons_succ, i64_w, i32_w]
      rfl
    refine take_ (i := 4) (N := some 21) (v := ?_) (a' := ?_) #[true, true, true, true, true, false, false, true, true, false, true, false, false, false, false] rfl rfl (by kernel_rfl) (fun _ _ _ h => h) (Or.inl ⟨by rfl, ?_⟩) hHeld ?_ ?_
    rotate_left
    · rintro w' ⟨s0, s1⟩
      go_simp
      with_reducible rfl
    rotate_left
    · simp only [Act.put, List.setIfInBounds_toArray, List.set_cons_zero, List.set_cons_succ, i64_w, i32_w]
      rfl
    refine take_ (i := 9) (N := some 26) (v := ?_) (a' := ?_) #[true, true, true, true, true, false, false, true, true, true, true, false, false, false, false] rfl rfl (by kernel_rfl) (fun _ _ _ h => h) (Or.inl ⟨by rfl, ?_⟩) hHeld ?_ ?_
    rotate_left
    · rintro w' ⟨s0, s1⟩
      go_simp
      with_reducible rfl
    rotate_left
    · simp only [Act.put, List.setIfInBounds_toArray, List.set_cons_zero, List.set_cons_succ, i64_w, i32_w]
      rfl
    refine take_ (i := 11) (N := some 28) (v := ?_) (a' := ?_) #[true, true, true, true, true, false, false, true, true, true, true, true, false, false, false] rfl rfl (by kernel_rfl) (fun _ _ _ h => h) (Or.inl ⟨by rfl, ?_⟩) hHeld ?_ ?_
    rotate_left
    · rintro w' ⟨s0, s1⟩
      go_simp
      with_reducible rfl
    rotate_left
    · simp only [Act.put, List.setIfInBounds_toArray, List.set_cons_zero, List.set_cons_succ, i64_w, i32_w]
      rfl
    refine one_ (i := 5) (N := some 22) #[true, true, true, true, true, true, false, true, true, true, true, true, false, false, false] rfl rfl (by kernel_rfl) (by decide) (fun K hK => ?_)
    refine goes_ Try.func18 (by kernel_rfl) rfl #[.pointer (some ⟨g, 0, none⟩), .int .u64 id, .int .u64 at_] (by rfl) rfl rfl (by simp only [List.map_toArray, List.map_cons, List.map_nil]; rfl) ?_
    with_reducible refine (wheel_Add.all HPD.out.a id at_ hid hat).mono ?_
    rintro e w5 ⟨rfl, F', hw5, hF5, hk5⟩
    rw [← HEE.out]
    have HW5 := Aside0.mk hw5
    have HF5 := Aside0.mk hF5
    have HK5 := Aside0.mk hk5
    have b5 := (hk5.same B (blk_lt HBT.out) HNF.out.1).trans HBT.out
    have HB5 := Aside0.mk b5
    clear hw5 hF5 hk5
    refine ⟨_, rfl, ?_⟩
    refine hK.out _ _ ⟨(blk_cell b5 1).trans rfl, (blk_cell b5 2).trans rfl⟩ (fun hHeld => ?_)
    clear hK K
    refine norm_ (a' := ?_) ?_ ?_
    rotate_left
    · show Act.put _ (some 22) _ = _
      simp only [Act.put, List.setIfInBounds_toArray, List.set_cons_zero, List.set_cons_succ, i64_w, i32_w]
      rfl
    refine one_ (i := 6) (N := some 23) #[true, true, true, true, true, true, true, true, true, true, true, true, false, false, false] rfl rfl (by kernel_rfl) (by decide) (fun K hK => ?_)
    refine goes_ Try.func14 (by kernel_rfl) rfl #[.int .i64 ee] (by rfl) rfl rfl (by simp only [List.map_toArray, List.map_cons, List.map_nil]; rfl) ?_
    with_reducible refine (law_num.calls _ _).mono ?_
    rintro e wx ⟨rfl, rfl⟩
    refine ⟨_, rfl, ?_⟩
    refine hK.out _ _ ⟨hHeld.1, hHeld.2⟩ (fun hHeld => ?_)
    clear hK K
    refine norm_ (a' := ?_) ?_ ?_
    rotate_left
    · show Act.put _ (some 23) _ = _
      simp only [Act.put, List.setIfInBounds_toArray, List.set_cons_zero, List.set_cons_succ, i64_w, i32_w]
      rfl
    refine one_ (i := 12) (N := some 29) #[true, true, true, true, true, true, true, true, true, true, true, true, true, false, false] rfl rfl (by kernel_rfl) (by decide) (fun K hK => ?_)
    refine goes_ Try.func19 (by kernel_rfl) rfl #[.pointer (some ⟨r, 0, none⟩), .int .u64 id, .int .u64 at_] (by rfl) rfl rfl (by simp only [List.map_toArray, List.map_cons, List.map_nil]; rfl) ?_
    with_reducible refine (ref_Add.all (HPD.out.mid HK5.out) HPD.out.srt HL.out.1 id at_).mono ?_
    rintro e w6 ⟨rfl, G', Ls', hr6, hp6, hs6, hG6, hk6⟩
    rw [← HEE.out]
    have b6 := (hk6.same B (blk_lt HB5.out) HNF.out.2).trans HB5.out
    have HEND := Aside0.mk (HPD.out.both HW5.out HF5.out HK5.out hr6 hG6 hk6 hp6 hs6)
    clear hr6 hp6 hs6 hG6 hk6
    refine ⟨_, rfl, ?_⟩
    refine hK.out _ _ ⟨(blk_cell b6 1).trans rfl, (blk_cell b6 2).trans rfl⟩ (fun hHeld => ?_)
    clear hK K
    refine norm_ (a' := ?_) ?_ ?_
    rotate_left
    · show Act.put _ (some 29) _ = _
      simp only [Act.put, List.setIfInBounds_toArray, List.set_cons_zero, List.set_cons_succ, i64_w, i32_w]
      rfl
    refine pure_ (i := 13) (N := some 30) (v := ?_) (a' := ?_) #[true, true, true, true, true, true, true, true, true, true, true, true, true, true, false] rfl rfl (by kernel_rfl) (fun _ _ _ h => h) (Or.inl ⟨by rfl, ?_⟩) ?_ ?_
    rotate_left
    · intro w'
      go_simp
      with_reducible rfl
    rotate_left
    · simp only [Act.put, List.setIfInBounds_toArray, List.set_cons_zero, List.set_cons_succ, i64_w, i32_w]
      rfl
    refine pure_ (i := 14) (N := some 6) (v := ?_) (a' := ?_) #[true, true, true, true, true, true, true, true, true, true, true, true, true, true, true] rfl rfl (by kernel_rfl) (fun _ _ _ h => h) (Or.inl ⟨by rfl, ?_⟩) ?_ ?_
    rotate_left
    · intro w'
      go_simp
      with_reducible rfl
    rotate_left
    · simp only [Act.put, List.setIfInBounds_toArray, List.set_cons_zero, List.set_cons_succ, i64_w, i32_w]
      rfl
    refine done_ (by kernel_rfl) ?_
    go_wp2_with fail
    go_ret
    exact ⟨rfl, _, _, _, _, HEND.out⟩
  · have k1 : (kd == 1) = false := beq_eq_false_iff_ne.mpr hk1
    by_cases hk2 : kd = 2
    · subst hk2
      have HPD := Aside0.mk (HP.out.below (below_drew1 (Below.refl w1.heap.size w1)))
      obtain ⟨ee, hee⟩ : ∃ ee, ee = remE Ls id := ⟨_, rfl⟩
      have HEE := Aside0.mk hee
      have bl : (ee == ee) = true := beq_self_eq_true _
      clear hee hk1 k1
      go_upto_region 5 with (fail)
      refine start_ (n := 11) (S := fun w' => w'.cell? ⟨B, 1, none⟩ = some (.int .u64 id)) (ds := []) #[false, false, false, false, false, false, false, false, false, false, false] (by kernel_rfl) rfl rfl (e1) (fun hHeld => ?_)
      refine pure_ (i := 0) (N := some 33) (v := ?_) (a' := ?_) #[true, false, false, false, false, false, false, false, false, false, false] rfl rfl (by kernel_rfl) (fun _ _ _ h => h) (Or.inl ⟨by rfl, ?_⟩) ?_ ?_
      rotate_left
      · intro w'
        go_simp
        with_reducible rfl
      rotate_left
      · simp only [Act.put, List.setIfInBounds_toArray, List.set_cons_zero, List.set_cons_succ, i64_w, i32_w]
        rfl
      refine pure_ (i := 1) (N := some 34) (v := ?_) (a' := ?_) #[true, true, false, false, false, false, false, false, false, false, false] rfl rfl (by kernel_rfl) (fun _ _ _ h => h) (Or.inl ⟨by rfl, ?_⟩) ?_ ?_
      rotate_left
      · intro w'
        go_simp
        with_reducible rfl
      rotate_left
      · simp only [Act.put, List.setIfInBounds_toArray, List.set_cons_zero, List.set_cons_succ, i64_w, i32_w]
        rfl
      refine pure_ (i := 5) (N := some 38) (v := ?_) (a' := ?_) #[true, true, false, false, false, true, false, false, false, false, false] rfl rfl (by kernel_rfl) (fun _ _ _ h => h) (Or.inl ⟨by rfl, ?_⟩) ?_ ?_
      rotate_left
      · intro w'
        go_simp
        with_reducible rfl
      rotate_left
      · simp only [Act.put, List.setIfInBounds_toArray, List.set_cons_zero, List.set_cons_succ, i64_w, i32_w]
        rfl
      refine pure_ (i := 6) (N := some 39) (v := ?_) (a' := ?_) #[true, true, false, false, false, true, true, false, false, false, false] rfl rfl (by kernel_rfl) (fun _ _ _ h => h) (Or.inl ⟨by rfl, ?_⟩) ?_ ?_
      rotate_left
      · intro w'
        go_simp
        with_reducible rfl
      rotate_left
      · simp only [Act.put, List.setIfInBounds_toArray, List.set_cons_zero, List.set_cons_succ, i64_w, i32_w]
        rfl
      refine take_ (i := 2) (N := some 35) (v := ?_) (a' := ?_) #[true, true, true, false, false, true, true, false, false, false, false] rfl rfl (by kernel_rfl) (fun _ _ _ h => h) (Or.inl ⟨by rfl, ?_⟩) hHeld ?_ ?_
      rotate_left
      · intro w' s0
        go_simp
        with_reducible rfl
      rotate_left
      · simp only [Act.put, List.setIfInBounds_toArray, List.set_cons_zero, List.set_cons_succ, i64_w, i32_w]
        rfl
      refine take_ (i := 7) (N := some 40) (v := ?_) (a' := ?_) #[true, true, true, false, false, true, true, true, false, false, false] rfl rfl (by kernel_rfl) (fun _ _ _ h => h) (Or.inl ⟨by rfl, ?_⟩) hHeld ?_ ?_
      rotate_left
      · intro w' s0
        go_simp
        with_reducible rfl
      rotate_left
      · simp only [Act.put, List.setIfInBounds_toArray, List.set_cons_zero, List.set_cons_succ, i64_w, i32_w]
        rfl
      refine one_ (i := 3) (N := some 36) #[true, true, true, true, false, true, true, true, false, false, false] rfl rfl (by kernel_rfl) (by decide) (fun K hK => ?_)
      refine goes_ Try.func27 (by kernel_rfl) rfl #[.pointer (some ⟨g, 0, none⟩), .int .u64 id] (by rfl) rfl rfl (by simp only [List.map_toArray, List.map_cons, List.map_nil]; rfl) ?_
      with_reducible refine (wheel_Remove.all HPD.out.a id hid).mono ?_
      rintro e w5 ⟨rfl, F', hw5, hF5, hk5⟩
      rw [← HEE.out]
      have HW5 := Aside0.mk hw5
      have HF5 := Aside0.mk hF5
      have HK5 := Aside0.mk hk5
      have b5 := (hk5.same B (blk_lt HBT.out) HNF.out.1).trans HBT.out
      have HB5 := Aside0.mk b5
      clear hw5 hF5 hk5
      refine ⟨_, rfl, ?_⟩
      refine hK.out _ _ ((blk_cell b5 1).trans rfl) (fun hHeld => ?_)
      clear hK K
      refine norm_ (a' := ?_) ?_ ?_
      rotate_left
      · show Act.put _ (some 36) _ = _
        simp only [Act.put, List.setIfInBounds_toArray, List.set_cons_zero, List.set_cons_succ, i64_w, i32_w]
        rfl
      refine one_ (i := 4) (N := some 37) #[true, true, true, true, true, true, true, true, false, false, false] rfl rfl (by kernel_rfl) (by decide) (fun K hK => ?_)
      refine goes_ Try.func14 (by kernel_rfl) rfl #[.int .i64 ee] (by rfl) rfl rfl (by simp only [List.map_toArray, List.map_cons, List.map_nil]; rfl) ?_
      with_reducible refine (law_num.calls _ _).mono ?_
      rintro e wx ⟨rfl, rfl⟩
      refine ⟨_, rfl, ?_⟩
      refine hK.out _ _ (hHeld) (fun hHeld => ?_)
      clear hK K
      refine norm_ (a' := ?_) ?_ ?_
      rotate_left
      · show Act.put _ (some 37) _ = _
        simp only [Act.put, List.setIfInBounds_toArray, List.set_cons_zero, List.set_cons_succ, i64_w, i32_w]
        rfl
      refine one_ (i := 8) (N := some 41) #[true, true, true, true, true, true, true, true, true, false, false] rfl rfl (by kernel_rfl) (by decide) (fun K hK => ?_)
      refine goes_ Try.func51 (by kernel_rfl) rfl #[.pointer (some ⟨r, 0, none⟩), .int .u64 id] (by rfl) rfl rfl (by simp only [List.map_toArray, List.map_cons, List.map_nil]; rfl) ?_
      with_reducible refine (ref_Remove.all (HPD.out.mid HK5.out) HPD.out.srt HL.out.1 id).mono ?_
      rintro e w6 ⟨rfl, G', hr6, hG6, hk6⟩
      rw [← HEE.out]
      have b6 := (hk6.same B (blk_lt HB5.out) HNF.out.2).trans HB5.out
      have HEND := Aside0.mk (HPD.out.both HW5.out HF5.out HK5.out hr6 hG6 hk6 (List.Perm.refl _) (HPD.out.srt.filter _))
      clear hr6 hG6 hk6
      refine ⟨_, rfl, ?_⟩
      refine hK.out _ _ ((blk_cell b6 1).trans rfl) (fun hHeld => ?_)
      clear hK K
      refine norm_ (a' := ?_) ?_ ?_
      rotate_left
      · show Act.put _ (some 41) _ = _
        simp only [Act.put, List.setIfInBounds_toArray, List.set_cons_zero, List.set_cons_succ, i64_w, i32_w]
        rfl
      refine pure_ (i := 9) (N := some 42) (v := ?_) (a' := ?_) #[true, true, true, true, true, true, true, true, true, true, false] rfl rfl (by kernel_rfl) (fun _ _ _ h => h) (Or.inl ⟨by rfl, ?_⟩) ?_ ?_
      rotate_left
      · intro w'
        go_simp
        with_reducible rfl
      rotate_left
      · simp only [Act.put, List.setIfInBounds_toArray, List.set_cons_zero, List.set_cons_succ, i64_w, i32_w]
        rfl
      refine pure_ (i := 10) (N := some 6) (v := ?_) (a' := ?_) #[true, true, true, true, true, true, true, true, true, true, true] rfl rfl (by kernel_rfl) (fun _ _ _ h => h) (Or.inl ⟨by rfl, ?_⟩) ?_ ?_
      rotate_left
      · intro w'
        go_simp
        with_reducible rfl
      rotate_left
      · simp only [Act.put, List.setIfInBounds_toArray, List.set_cons_zero, List.set_cons_succ, i64_w, i32_w]
        rfl
      refine done_ (by kernel_rfl) ?_
      go_wp2_with fail
      go_ret
      exact ⟨rfl, _, _, _, _, HEND.out⟩
    · have k2 : (kd == 2) = false := beq_eq_false_iff_ne.mpr hk2
      by_cases hk4 : kd = 4
      · subst hk4
        clear hk1 k1 hk2 k2
        by_cases hlt : at_ < now
        · go_wp2_with fail
          refine (wheel_Advance.back HP.out.a at_ hlt).mono ?_
          rintro e w2 ⟨rfl, rfl⟩
          go_wp2_with fail
          refine (ref_Advance.back HP.out.b at_ hlt).mono ?_
          rintro e w3 ⟨rfl, rfl⟩
          have HCN : Aside0 (IC w3 none 0 []) := ⟨(Kd.R_reads' (Kd.R_nil (d := Kd.int .u64) 22 w3 0 (fun _ => True))).2.2⟩
          clear hlt
          obtain ⟨M, hM⟩ : ∃ M, M = 0 := ⟨_, rfl⟩
          have HMB : Aside0 (M ≤ 8192) := ⟨by omega⟩
          obtain ⟨A1, hA1⟩ : ∃ A1 : Option Addr, A1 = none := ⟨_, rfl⟩
          obtain ⟨c1, hc1⟩ : ∃ c1, c1 = 0 := ⟨_, rfl⟩
          have HMZ : Aside0 (M = 0 ∧ A1 = none ∧ c1 = 0) := ⟨hM, hA1, hc1⟩
          have hval : (Value.slice none 0 0) = .slice A1 M c1 := by rw [hM, hA1, hc1]
          rw [hval]
          have HCM : Aside0 (IC w3 A1 M []) := ⟨by rw [hM, hA1]; exact HCN.out⟩
          have HCE : Aside0 (∀ W, PairS w0 W F G g m r now Ls → ChgI w0 W F G g m r now Ls A1 M c1) := ⟨fun W hW => by rw [hM, hA1, hc1]; exact ⟨[], rfl, Kd.R_nil _ _ _ _ _, hW⟩⟩
          clear hM hA1 hc1 hval HCN
          go_wp2_with (first
            | (go_at_call 25; (with_reducible refine (law_ids.calls A1 A1 M M c1 c1 [] [] _ HCM.out HCM.out).mono ?_); rintro e w4 ⟨rfl, hd⟩; have HP4 := Aside0.mk (HP.out.below (drawn_belowW hd)); rw [decide_eq_true (rfl : ([] : List Int) = [])]; clear hd HCM)
            | (go_at_call 14; (with_reducible refine (law_num.calls _ _).mono ?_); rintro e wx ⟨rfl, rfl⟩))
          have HCH := Aside0.mk (HCE.out _ HP4.out)
          clear e2 HP HP4 HCE
          have hMb : (M : Int) ≤ 8192 := by have := HMB.out; omega
          go_loopw [12] (fun v12 wr => ∃ i : Nat, i ≤ M ∧ v12 = .int .i64 i ∧ Aside0 (ChgI w0 wr F G g m r now Ls A1 M c1)) (fun v12 _ => M - (intOf v12).toNat)
          case atStart => exact ⟨0, Nat.zero_le _, rfl, HCH⟩
          case round =>
            clear HCH
            obtain ⟨i, hi, rfl, HI⟩ := hrel
            by_cases hlt : i < M
            · obtain ⟨b, hAb, ⟨zc, hce⟩, hfr, hnx⟩ := HI.out.step hlt
              subst hAb
              have HNX := Aside0.mk hnx
              clear hnx HI
              go_wp2_with fail
              go_roundw
              case rel => exact ⟨i + 1, by omega, by go_num, HNX⟩
              case measure => simp [intOf]; omega
            · obtain rfl : i = M := by omega
              obtain ⟨X, hXl, hXr, hXp⟩ := HI.out
              have HXL := Aside0.mk hXl
              have HXA : Aside0 (UR (wr.alloc (.cells #[.int .u64 78, .int .u64 79] 22)) 0 (fun k => w0.heap.size ≤ k ∧ ¬ F k ∧ ¬ G k) (.slice A1 i c1) X ∧ PairS w0 (wr.alloc (.cells #[.int .u64 78, .int .u64 79] 22)) F G g m r now Ls) := ⟨Kd.R_below hXr (below_alloc (Below.refl _ _) _), hXp.below (below_alloc (Below.refl _ _) _)⟩
              have HCW : Aside0 (IC (wr.alloc (.cells #[.int .u64 78, .int .u64 79] 22)) (some ⟨wr.heap.size, 0, none⟩) 2 [78, 79]) := ⟨ic_mk (l := [78, 79]) (by decide) (fun j hj => cells_two wr (.int .u64 78) (.int .u64 79) 22 j _ (by match j, hj with | 0, _ => rfl | 1, _ => rfl))⟩
              have HFR : Aside0 (∀ k, (wr.alloc (.cells #[.int .u64 78, .int .u64 79] 22)).heap.size ≤ k → w0.heap.size ≤ k ∧ ¬ F k ∧ ¬ G k) := ⟨fun k hk => ⟨Nat.le_trans HXA.out.2.bel.size hk, fun h => by have := HXA.out.2.a.lt k h; omega, fun h => by have := HXA.out.2.b.lt k h; omega⟩⟩
              have HLN : Aside0 ((X.length + 2) * 8 ≤ 140737488355328) := ⟨by rw [hXl]; have := HMB.out; omega⟩
              clear hXl hXr hXp HI
              go_wp2_with ((with_reducible refine gate_builtin (b := .append) (xs := #[.tmp 77, .tmp 78]) rfl ?_); at_builtin; refine Kd.R_append_row (Value.int .u64) (0 : Int) (h1 := fun _ => rfl) (w0 := wr.alloc (.cells #[.int .u64 78, .int .u64 79] 22)) 0 rfl (.tmp 77) (.tmp 78) 42 22 (.int .u64 0) 8 rfl Try.underlying42 info22 rfl (by decide) (.slice A1 i c1) X [78, 79] (some ⟨wr.heap.size, 0, none⟩) 2 2 (fun k => w0.heap.size ≤ k ∧ ¬ F k ∧ ¬ G k) rfl rfl HFR.out HXA.out.1 HCW.out (Below.refl _ _) (Nat.zero_le _) HLN.out ?_; intro v9 w9 ho hb hg hat9; obtain ⟨A9, c9, hv9⟩ := Kd.R_slice ho; have hn9 : (X ++ [(78 : Int), 79]).length = i + 2 := (by rw [List.length_append, HXL.out]; rfl); rw [hn9] at hv9; subst hv9; clear hn9; have HEX := Aside0.mk (HXA.out.2.grown hg (fun k e => HXA.out.1.1 k e)); clear ho hb hg hat9)
              go_ret
              exact ⟨rfl, _, _, _, _, HEX.out⟩
        · have hle : now ≤ at_ := by omega
          go_wp2_with fail
          refine (wheel_Advance.all HP.out.a at_ hat hle).mono ?_
          rintro e w5 ⟨v1, F', rfl, hw5, hF5, hk5, hr5⟩
          have b5 := (hk5.same B (blk_lt HBT.out) HNF.out.1).trans HBT.out
          replace e2 := (blk_cell b5 2).trans rfl
          have HW5 := Aside0.mk hw5
          have HF5 := Aside0.mk hF5
          have HK5 := Aside0.mk hk5
          have HR5 := Aside0.mk hr5
          clear hw5 hF5 hk5 hr5 b5
          go_wp2_with fail
          refine (ref_Advance.all (HP.out.mid HK5.out) HP.out.srt HL.out.1 at_ hle).mono ?_
          rintro e w6 ⟨v2, G', rfl, hr6, hG6, hk6, hm6⟩
          have HEND := Aside0.mk (HP.out.both HW5.out HF5.out HK5.out hr6 hG6 hk6 (List.Perm.refl _) (HP.out.srt.filter _))
          have hrow : UR w6 0 (fun k => w0.heap.size ≤ k ∧ ¬ F' k ∧ ¬ G' k) v1 ((sorted (Ls.filter (isOver at_))).map (·.1)) := by
            have hbd := Kd.R_bound HR5.out
            have hnG : ∀ k, (F k ∨ w1.heap.size ≤ k) → ¬ G k := fun k h1 h2 => by
              rcases h1 with h1 | h1
              · exact HP.out.dis k h1 h2
              · have := HP.out.b.lt k h2; omega
            refine Kd.R_mono (Kd.R_step hbd (fun k hk hkl => hk6.same k hkl (hnG k hk.1.1))) (fun k hk => ⟨?_, hk.1.2, fun h => ?_⟩)
            · rcases hk.1.1 with h1 | h1
              · exact HP.out.lowA k h1
              · exact Nat.le_trans HP.out.bel.size h1
            · rcases hG6 k h with h1 | h1
              · exact hnG k hk.1.1 h1
              · have := hk.2.2.1; omega
          obtain ⟨A1, c1, hv1⟩ := Kd.R_slice hrow
          obtain ⟨A2, c2, hv2⟩ := Kd.R_slice hm6
          have hlX : ((sorted (Ls.filter (isOver at_))).map (·.1)).length ≤ 8192 := by rw [List.length_map, sorted_length]; exact Nat.le_trans (List.length_filter_le _ _) HL.out.1
          obtain ⟨X1, hX1⟩ : ∃ X1, X1 = (sorted (Ls.filter (isOver at_))).map (·.1) := ⟨_, rfl⟩
          rw [← hX1] at hv1 hv2 hrow hm6 hlX
          obtain ⟨M, hM⟩ : ∃ M, M = X1.length := ⟨_, rfl⟩
          rw [← hM] at hv1 hv2 hlX
          have HMB := Aside0.mk hlX
          subst hv1 hv2
          have HC1 : Aside0 (IC w6 A1 M X1) := ⟨by have h := (Kd.R_reads' hrow).2.2; rw [← hM] at h; exact h⟩
          have HC2 : Aside0 (IC w6 A2 M X1) := ⟨by have h := (Kd.R_reads' hm6).2.2; rw [← hM] at h; exact h⟩
          have HROW : Aside0 (X1.length = M ∧ UR w6 0 (fun k => w0.heap.size ≤ k ∧ ¬ F' k ∧ ¬ G' k) (.slice A1 M c1) X1) := ⟨hM.symm, hrow⟩
          obtain ⟨Lx, hLx⟩ : ∃ Lx, Lx = Ls.filter (isStay at_) := ⟨_, rfl⟩
          rw [← hLx] at HEND
          clear hlX hM hX1 hrow hm6 hr6 hG6 hk6 hLx hlt hle HW5 HF5 HK5 HR5 e2
          go_wp2_with (first
            | (go_at_call 25; (with_reducible refine (law_ids.calls A1 A2 M M c1 c2 X1 X1 _ HC1.out HC2.out).mono ?_); rintro e w7 ⟨rfl, hd⟩; have HCH : Aside0 (ChgI w0 w7 F' G' g m r at_ Lx A1 M c1) := ⟨X1, HROW.out.1, Kd.R_below HROW.out.2 (drawn_belowW hd), HEND.out.below (drawn_belowW hd)⟩; rw [decide_eq_true (rfl : X1 = X1)]; clear hd HC1 HC2 HROW HEND)
            | (go_at_call 14; (with_reducible refine (law_num.calls _ _).mono ?_); rintro e wx ⟨rfl, rfl⟩))
          have hMb : (M : Int) ≤ 8192 := by have := HMB.out; omega
          go_loopw [12] (fun v12 wr => ∃ i : Nat, i ≤ M ∧ v12 = .int .i64 i ∧ Aside0 (ChgI w0 wr F' G' g m r at_ Lx A1 M c1)) (fun v12 _ => M - (intOf v12).toNat)
          case atStart => exact ⟨0, Nat.zero_le _, rfl, HCH⟩
          case round =>
            clear HCH
            obtain ⟨i, hi, rfl, HI⟩ := hrel
            by_cases hlt : i < M
            · obtain ⟨b, hAb, ⟨zc, hce⟩, hfr, hnx⟩ := HI.out.step hlt
              subst hAb
              have HNX := Aside0.mk hnx
              clear hnx HI
              go_wp2_with fail
              go_roundw
              case rel => exact ⟨i + 1, by omega, by go_num, HNX⟩
              case measure => simp [intOf]; omega
            · obtain rfl : i = M := by omega
              obtain ⟨X, hXl, hXr, hXp⟩ := HI.out
              have HXL := Aside0.mk hXl
              have HXA : Aside0 (UR (wr.alloc (.cells #[.int .u64 78, .int .u64 79] 22)) 0 (fun k => w0.heap.size ≤ k ∧ ¬ F' k ∧ ¬ G' k) (.slice A1 i c1) X ∧ PairS w0 (wr.alloc (.cells #[.int .u64 78, .int .u64 79] 22)) F' G' g m r at_ Lx) := ⟨Kd.R_below hXr (below_alloc (Below.refl _ _) _), hXp.below (below_alloc (Below.refl _ _) _)⟩
              have HCW : Aside0 (IC (wr.alloc (.cells #[.int .u64 78, .int .u64 79] 22)) (some ⟨wr.heap.size, 0, none⟩) 2 [78, 79]) := ⟨ic_mk (l := [78, 79]) (by decide) (fun j hj => cells_two wr (.int .u64 78) (.int .u64 79) 22 j _ (by match j, hj with | 0, _ => rfl | 1, _ => rfl))⟩
              have HFR : Aside0 (∀ k, (wr.alloc (.cells #[.int .u64 78, .int .u64 79] 22)).heap.size ≤ k → w0.heap.size ≤ k ∧ ¬ F' k ∧ ¬ G' k) := ⟨fun k hk => ⟨Nat.le_trans HXA.out.2.bel.size hk, fun h => by have := HXA.out.2.a.lt k h; omega, fun h => by have := HXA.out.2.b.lt k h; omega⟩⟩
              have HLN : Aside0 ((X.length + 2) * 8 ≤ 140737488355328) := ⟨by rw [hXl]; have := HMB.out; omega⟩
              clear hXl hXr hXp HI
              go_wp2_with ((with_reducible refine gate_builtin (b := .append) (xs := #[.tmp 77, .tmp 78]) rfl ?_); at_builtin; refine Kd.R_append_row (Value.int .u64) (0 : Int) (h1 := fun _ => rfl) (w0 := wr.alloc (.cells #[.int .u64 78, .int .u64 79] 22)) 0 rfl (.tmp 77) (.tmp 78) 42 22 (.int .u64 0) 8 rfl Try.underlying42 info22 rfl (by decide) (.slice A1 i c1) X [78, 79] (some ⟨wr.heap.size, 0, none⟩) 2 2 (fun k => w0.heap.size ≤ k ∧ ¬ F' k ∧ ¬ G' k) rfl rfl HFR.out HXA.out.1 HCW.out (Below.refl _ _) (Nat.zero_le _) HLN.out ?_; intro v9 w9 ho hb hg hat9; obtain ⟨A9, c9, hv9⟩ := Kd.R_slice ho; have hn9 : (X ++ [(78 : Int), 79]).length = i + 2 := (by rw [List.length_append, HXL.out]; rfl); rw [hn9] at hv9; subst hv9; clear hn9; have HEX := Aside0.mk (HXA.out.2.grown hg (fun k e => HXA.out.1.1 k e)); clear ho hb hg hat9)
              go_ret
              exact ⟨rfl, _, _, _, _, HEX.out⟩
      · have k4 : (kd == 4) = false := beq_eq_false_iff_ne.mpr hk4
        clear hk1 hk2 hk4
        go_wp2_with fail
        go_ret
        exact ⟨rfl, _, _, _, _, HP.out⟩
end Go.Proofs.Ytkgdlmgodpgcoaa.Hand
