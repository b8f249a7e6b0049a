/- Wheel: the law's asks: a call that tells, on both wheels. -/
import Derived.Test.YtkgdlmgodpgcoaaWhlAN
namespace Go.Proofs.Ytkgdlmgodpgcoaa.Hand
open Go.RowKit Go.Maps Go.Proofs.YtkgdlmgodpgcoaaW.PrintWords Go.Proofs.YtkgdlmgodpgcoaaW.PrintLast Go.Proofs.YtkgdlmgodpgcoaaW.PrintMore
set_option linter.unusedVariables false
set_option linter.unusedSimpArgs false

set_option maxHeartbeats 4000000 in
set_option maxRecDepth 100000 in
theorem law_asks.calls {w0 w : World} {F G : Nat → Prop} {g m r : Nat} {now : Int} {Ls : List TimT} (h : PairS w0 w F G g m r now Ls) (kd id at_ : Int) (hid : U id) (hat : U at_) :
    Calls Try.prog 35 #[.pointer (some ⟨g, 0, none⟩), .pointer (some ⟨r, 0, none⟩), ActV kd id at_] w fun e w' => e = .returned (.bool true) ∧ Below w.heap.size w w' := by
  have hb1 := below_alloc (Below.refl w.heap.size w) (.cells #[.int .i64 kd, .int .u64 id, .int .u64 at_] 54)
  have bt := blk_new w (.cells #[.int .i64 kd, .int .u64 id, .int .u64 at_] 54 (0, 0))
  obtain ⟨w1, hw1⟩ : ∃ w1, w1 = w.alloc (.cells #[.int .i64 kd, .int .u64 id, .int .u64 at_] 54) := ⟨_, rfl⟩
  obtain ⟨B, hB⟩ : ∃ B, B = w.heap.size := ⟨_, rfl⟩
  rw [← hw1] at hb1
  rw [← hw1, ← hB] at bt
  have HP := Aside0.mk (h.below hb1)
  have HBW := Aside0.mk hb1
  have HL := Aside0.mk h.lens
  have HBT := Aside0.mk bt
  have e0 := (blk_cell bt 0).trans rfl
  have e1 := (blk_cell bt 1).trans rfl
  have e2 := (blk_cell bt 2).trans rfl
  clear h hb1 bt
  go_enter Try.func35, Try.ntmps35
  go_upto_region 1 with (fail)
  rw [← hw1]
  rw [← hB]
  clear hw1 hB
  by_cases hk3 : kd = 3
  · subst hk3
    have hN1 := wheel_At.all HP.out.a id hid
    have hN2 := ref_At.all HP.out.b HP.out.srt.nodup id
    obtain ⟨nv, hnv⟩ : ∃ nv, nv = atOf Ls id := ⟨_, rfl⟩
    obtain ⟨nb, hnb⟩ : ∃ nb, nb = hasId Ls id := ⟨_, rfl⟩
    rw [← hnv, ← hnb] at hN1 hN2
    have bl3 : (nv == nv) = true := beq_self_eq_true _
    have bl4 : (nb == nb) = true := beq_self_eq_true _
    clear hnv hnb
    go_wp2_with fail
    refine hN1.mono ?_
    clear hN1
    rintro e w2 ⟨rfl, rfl⟩
    go_wp2_with fail
    refine hN2.mono ?_
    clear hN2
    rintro e w3 ⟨rfl, rfl⟩
    go_wp2_with fail
    go_ret
    exact ⟨rfl, HBW.out⟩
  have k3 : (kd == 3) = false := beq_eq_false_iff_ne.mpr hk3
  by_cases hk5 : kd = 5
  · subst hk5
    clear hk3 k3
    have hN1 := wheel_Next.all HP.out.a
    obtain ⟨nv, hnv⟩ : ∃ nv, nv = (if Ls = [] then 0 else leastOf Ls) := ⟨_, rfl⟩
    obtain ⟨nb, hnb⟩ : ∃ nb, nb = (!decide (Ls = [])) := ⟨_, rfl⟩
    rw [← hnv, ← hnb] at hN1
    have HNV := Aside0.mk hnv
    have HNB := Aside0.mk hnb
    have bl3 : (nv == nv) = true := beq_self_eq_true _
    have bl4 : (nb == nb) = true := beq_self_eq_true _
    clear hnv hnb
    go_wp2_with fail
    refine hN1.mono ?_
    clear hN1
    rintro e w2 ⟨rfl, hb2⟩
    have HP2 := Aside0.mk (HP.out.below hb2)
    have HB2 := Aside0.mk (HBW.out.trans (hb2.mono HBW.out.size))
    have hN2 := ref_Next.all HP2.out.b (fun t ht => (HL.out.2.2 t ht).2)
    rw [← HNV.out, ← HNB.out] at hN2
    clear hb2
    go_wp2_with fail
    refine hN2.mono ?_
    clear hN2
    rintro e w3 ⟨rfl, rfl⟩
    go_wp2_with fail
    go_ret
    exact ⟨rfl, HB2.out⟩
  have k5 : (kd == 5) = false := beq_eq_false_iff_ne.mpr hk5
  by_cases hk6 : kd = 6
  · subst hk6
    clear hk3 k3 hk5 k5
    obtain ⟨A, c, r0, r1, hrl⟩ := HP.out.rcells
    have HPD := Aside0.mk (HP.out.below (below_drew1 (Below.refl w1.heap.size w1)))
    have HBD := Aside0.mk (below_drew1 HBW.out)
    have bl2 : (now == now) = true := beq_self_eq_true _
    clear hrl r0
    go_upto_region 11 with (fail)
    refine start_ (n := 8) (S := fun w' => w'.cell? ⟨r, 1, none⟩ = some (.int .u64 now)) (ds := []) #[false, false, false, false, false, false, false, false] (by kernel_rfl) rfl rfl (r1) (fun hHeld => ?_)
    refine pure_ (i := 0) (N := some 63) (v := ?_) (a' := ?_) #[true, false, false, false, false, false, false, false] rfl rfl (by kernel_rfl) (fun _ _ _ h => h) (Or.inl ⟨by rfl, ?_⟩) ?_ ?_
    rotate_left
    · intro w'
      go_simp
      with_reducible rfl
    rotate_left
    · simp only [Act.put, List.setIfInBounds_toArray, List.set_cons_zero, List.set_cons_succ, i64_w, i32_w]
      rfl
    refine pure_ (i := 2) (N := some 65) (v := ?_) (a' := ?_) #[true, false, true, false, false, false, false, false] rfl rfl (by kernel_rfl) (fun _ _ _ h => h) (Or.inl ⟨by rfl, ?_⟩) ?_ ?_
    rotate_left
    · intro w'
      go_simp
      with_reducible rfl
    rotate_left
    · simp only [Act.put, List.setIfInBounds_toArray, List.set_cons_zero, List.set_cons_succ, i64_w, i32_w]
      rfl
    refine pure_ (i := 3) (N := some 66) (v := ?_) (a' := ?_) #[true, false, true, true, false, false, false, false] rfl rfl (by kernel_rfl) (fun _ _ _ h => h) (Or.inl ⟨by rfl, ?_⟩) ?_ ?_
    rotate_left
    · intro w'
      go_simp
      with_reducible rfl
    rotate_left
    · simp only [Act.put, List.setIfInBounds_toArray, List.set_cons_zero, List.set_cons_succ, i64_w, i32_w]
      rfl
    refine pure_ (i := 4) (N := some 67) (v := ?_) (a' := ?_) #[true, false, true, true, true, false, false, false] rfl rfl (by kernel_rfl) (fun _ _ _ h => h) (Or.inl ⟨by rfl, ?_⟩) ?_ ?_
    rotate_left
    · intro w'
      go_simp
      with_reducible rfl
    rotate_left
    · simp only [Act.put, List.setIfInBounds_toArray, List.set_cons_zero, List.set_cons_succ, i64_w, i32_w]
      rfl
    refine take_ (i := 5) (N := some 68) (v := ?_) (a' := ?_) #[true, false, true, true, true, true, false, false] rfl rfl (by kernel_rfl) (fun _ _ _ h => h) (Or.inl ⟨by rfl, ?_⟩) hHeld ?_ ?_
    rotate_left
    · intro w' s0
      go_simp
      with_reducible rfl
    rotate_left
    · simp only [Act.put, List.setIfInBounds_toArray, List.set_cons_zero, List.set_cons_succ, i64_w, i32_w]
      rfl
    refine one_ (i := 1) (N := some 64) #[true, true, true, true, true, true, false, false] rfl rfl (by kernel_rfl) (by decide) (fun K hK => ?_)
    refine goes_ Try.func30 (by kernel_rfl) rfl #[.pointer (some ⟨g, 0, none⟩)] (by rfl) rfl rfl (by simp only [List.map_toArray, List.map_cons, List.map_nil]; rfl) ?_
    with_reducible refine (wheel_Now.all HPD.out.a).mono ?_
    rintro e wn ⟨rfl, rfl⟩
    refine ⟨_, rfl, ?_⟩
    refine hK.out _ _ (hHeld) (fun hHeld => ?_)
    clear hK K
    refine norm_ (a' := ?_) ?_ ?_
    rotate_left
    · show Act.put _ (some 64) _ = _
      simp only [Act.put, List.setIfInBounds_toArray, List.set_cons_zero, List.set_cons_succ, i64_w, i32_w]
      rfl
    refine pure_ (i := 6) (N := some 69) (v := ?_) (a' := ?_) #[true, true, true, true, true, true, true, false] rfl rfl (by kernel_rfl) (fun _ _ _ h => h) (Or.inl ⟨by rfl, ?_⟩) ?_ ?_
    rotate_left
    · intro w'
      go_simp
      with_reducible rfl
    rotate_left
    · simp only [Act.put, List.setIfInBounds_toArray, List.set_cons_zero, List.set_cons_succ, i64_w, i32_w]
      rfl
    refine pure_ (i := 7) (N := some 6) (v := ?_) (a' := ?_) #[true, true, true, true, true, true, true, true] rfl rfl (by kernel_rfl) (fun _ _ _ h => h) (Or.inl ⟨by rfl, ?_⟩) ?_ ?_
    rotate_left
    · intro w'
      go_simp
      with_reducible rfl
    rotate_left
    · simp only [Act.put, List.setIfInBounds_toArray, List.set_cons_zero, List.set_cons_succ, i64_w, i32_w]
      rfl
    refine done_ (by kernel_rfl) ?_
    go_wp2_with fail
    go_ret
    exact ⟨rfl, HBD.out⟩
  have k6 : (kd == 6) = false := beq_eq_false_iff_ne.mpr hk6
  by_cases hk7 : kd = 7
  · subst hk7
    clear hk3 k3 hk5 k5 hk6 k6
    obtain ⟨A, c, r0, r1, hrl⟩ := HP.out.rcells
    obtain ⟨N, hN⟩ : ∃ N, N = Ls.length := ⟨_, rfl⟩
    rw [← hN] at r0
    have HN := Aside0.mk hN
    have HPD := Aside0.mk (HP.out.below (below_drew1 (Below.refl w1.heap.size w1)))
    have HBD := Aside0.mk (below_drew1 HBW.out)
    have bl2 : ((N : Int) == (N : Int)) = true := beq_self_eq_true _
    clear hrl r1 hN
    go_upto_region 13 with (fail)
    refine start_ (n := 9) (S := fun w' => w'.cell? ⟨r, 0, none⟩ = some (.slice A N c)) (ds := []) #[false, false, false, false, false, false, false, false, false] (by kernel_rfl) rfl rfl (r0) (fun hHeld => ?_)
    refine pure_ (i := 0) (N := some 72) (v := ?_) (a' := ?_) #[true, false, false, false, false, false, false, false, false] rfl rfl (by kernel_rfl) (fun _ _ _ h => h) (Or.inl ⟨by rfl, ?_⟩) ?_ ?_
    rotate_left
    · intro w'
      go_simp
      with_reducible rfl
    rotate_left
    · simp only [Act.put, List.setIfInBounds_toArray, List.set_cons_zero, List.set_cons_succ, i64_w, i32_w]
      rfl
    refine pure_ (i := 2) (N := some 74) (v := ?_) (a' := ?_) #[true, false, true, false, false, false, false, false, false] rfl rfl (by kernel_rfl) (fun _ _ _ h => h) (Or.inl ⟨by rfl, ?_⟩) ?_ ?_
    rotate_left
    · intro w'
      go_simp
      with_reducible rfl
    rotate_left
    · simp only [Act.put, List.setIfInBounds_toArray, List.set_cons_zero, List.set_cons_succ, i64_w, i32_w]
      rfl
    refine pure_ (i := 3) (N := some 75) (v := ?_) (a' := ?_) #[true, false, true, true, false, false, false, false, false] rfl rfl (by kernel_rfl) (fun _ _ _ h => h) (Or.inl ⟨by rfl, ?_⟩) ?_ ?_
    rotate_left
    · intro w'
      go_simp
      with_reducible rfl
    rotate_left
    · simp only [Act.put, List.setIfInBounds_toArray, List.set_cons_zero, List.set_cons_succ, i64_w, i32_w]
      rfl
    refine pure_ (i := 4) (N := some 76) (v := ?_) (a' := ?_) #[true, false, true, true, true, false, false, false, false] rfl rfl (by kernel_rfl) (fun _ _ _ h => h) (Or.inl ⟨by rfl, ?_⟩) ?_ ?_
    rotate_left
    · intro w'
      go_simp
      with_reducible rfl
    rotate_left
    · simp only [Act.put, List.setIfInBounds_toArray, List.set_cons_zero, List.set_cons_succ, i64_w, i32_w]
      rfl
    refine take_ (i := 5) (N := some 77) (v := ?_) (a' := ?_) #[true, false, true, true, true, true, false, false, false] rfl rfl (by kernel_rfl) (fun _ _ _ h => h) (Or.inl ⟨by rfl, ?_⟩) hHeld ?_ ?_
    rotate_left
    · intro w' s0
      go_simp
      with_reducible rfl
    rotate_left
    · simp only [Act.put, List.setIfInBounds_toArray, List.set_cons_zero, List.set_cons_succ, i64_w, i32_w]
      rfl
    refine pure_ (i := 6) (N := some 78) (v := ?_) (a' := ?_) #[true, false, true, true, true, true, true, false, false] rfl rfl (by kernel_rfl) (fun _ _ _ h => h) (Or.inl ⟨by rfl, ?_⟩) ?_ ?_
    rotate_left
    · intro w'
      go_simp
      with_reducible rfl
    rotate_left
    · simp only [Act.put, List.setIfInBounds_toArray, List.set_cons_zero, List.set_cons_succ, i64_w, i32_w]
      rfl
    refine one_ (i := 1) (N := some 73) #[true, true, true, true, true, true, true, false, false] rfl rfl (by kernel_rfl) (by decide) (fun K hK => ?_)
    refine goes_ Try.func20 (by kernel_rfl) rfl #[.pointer (some ⟨g, 0, none⟩)] (by rfl) rfl rfl (by simp only [List.map_toArray, List.map_cons, List.map_nil]; rfl) ?_
    with_reducible refine (wheel_Len.all HPD.out.a).mono ?_
    rintro e wl ⟨rfl, rfl⟩
    rw [← HN.out]
    refine ⟨_, rfl, ?_⟩
    refine hK.out _ _ (hHeld) (fun hHeld => ?_)
    clear hK K
    refine norm_ (a' := ?_) ?_ ?_
    rotate_left
    · show Act.put _ (some 73) _ = _
      simp only [Act.put, List.setIfInBounds_toArray, List.set_cons_zero, List.set_cons_succ, i64_w, i32_w]
      rfl
    refine pure_ (i := 7) (N := some 79) (v := ?_) (a' := ?_) #[true, true, true, true, true, true, true, true, false] rfl rfl (by kernel_rfl) (fun _ _ _ h => h) (Or.inl ⟨by rfl, ?_⟩) ?_ ?_
    rotate_left
    · intro w'
      go_simp
      with_reducible rfl
    rotate_left
    · simp only [Act.put, List.setIfInBounds_toArray, List.set_cons_zero, List.set_cons_succ, i64_w, i32_w]
      rfl
    refine pure_ (i := 8) (N := some 6) (v := ?_) (a' := ?_) #[true, true, true, true, true, true, true, true, true] rfl rfl (by kernel_rfl) (fun _ _ _ h => h) (Or.inl ⟨by rfl, ?_⟩) ?_ ?_
    rotate_left
    · intro w'
      go_simp
      with_reducible rfl
    rotate_left
    · simp only [Act.put, List.setIfInBounds_toArray, List.set_cons_zero, List.set_cons_succ, i64_w, i32_w]
      rfl
    refine done_ (by kernel_rfl) ?_
    go_wp2_with fail
    go_ret
    exact ⟨rfl, HBD.out⟩
  have k7 : (kd == 7) = false := beq_eq_false_iff_ne.mpr hk7
  by_cases hk8 : kd = 8
  · subst hk8
    clear hk3 k3 hk5 k5 hk6 k6 hk7 k7
    have heq : ∀ W, (Op.equalIn 10000 40 (.agg #[.int .i64 (cntOf Ls now 0 : Nat), .int .i64 (cntOf Ls now 1 : Nat), .int .i64 (cntOf Ls now 2 : Nat), .int .i64 (cntOf Ls now 3 : Nat), .int .i64 (cntOf Ls now 4 : Nat)]) (.agg #[.int .i64 (cntOf Ls now 0 : Nat), .int .i64 (cntOf Ls now 1 : Nat), .int .i64 (cntOf Ls now 2 : Nat), .int .i64 (cntOf Ls now 3 : Nat), .int .i64 (cntOf Ls now 4 : Nat)])).run Try.prog W = .ok true W := fun W => equal5 _ _ _ _ _ W
    go_wp2_with (first
      | (go_at_call 21; (with_reducible refine (wheel_Spread.all HP.out.a).mono ?_); rintro e w2 ⟨rfl, hb2⟩; have HP2 := Aside0.mk (HP.out.below hb2); have HB2 := Aside0.mk (HBW.out.trans (hb2.mono HBW.out.size)); clear hb2 HP)
      | (go_at_call 22; (with_reducible refine (ref_Spread.all HP2.out.b HL.out.1 HL.out.2.1 HL.out.2.2).mono ?_); rintro e w3 ⟨rfl, hb3⟩; have HB3 := Aside0.mk (HB2.out.trans (hb3.mono HB2.out.size)); clear hb3 HP2))
    go_ret
    exact ⟨rfl, HB3.out⟩
  have k8 : (kd == 8) = false := beq_eq_false_iff_ne.mpr hk8
  by_cases hk9 : kd = 9
  · subst hk9
    clear hk3 k3 hk5 k5 hk6 k6 hk7 k7 hk8 k8
    go_wp2_with (go_at_call 48; (with_reducible refine (law_each.calls HP.out.a HP.out.b HP.out.srt at_ hat).mono ?_); rintro e w2 ⟨rfl, hb2⟩; have HB2 := Aside0.mk (HBW.out.trans (hb2.mono HBW.out.size)); clear hb2)
    go_ret
    exact ⟨rfl, HB2.out⟩
  have k9 : (kd == 9) = false := beq_eq_false_iff_ne.mpr hk9
  clear hk3 hk5 hk6 hk7 hk8 hk9
  go_wp2_with fail
  go_ret
  exact ⟨rfl, HBW.out⟩
end Go.Proofs.Ytkgdlmgodpgcoaa.Hand
