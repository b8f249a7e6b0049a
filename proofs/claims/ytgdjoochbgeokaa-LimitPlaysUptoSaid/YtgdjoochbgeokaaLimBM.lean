/- Limits: one call played: Left, Wait, Forgive, Sweep. -/
import Derived.Test.YtgdjoochbgeokaaLimBL
namespace Go.Proofs.Ytgdjoochbgeokaa.Hand
open Go.RowKit Go.Maps Go.Proofs.YtgdjoochbgeokaaW.PrintWords Go.Proofs.YtgdjoochbgeokaaW.PrintLast Go.Proofs.YtgdjoochbgeokaaW.PrintMore Go.Proofs.Ytgdjoochbgeokaa.Q Go.Proofs.Ytgdjoochbgeokaa.PLimitMost
set_option linter.unusedVariables false
set_option linter.unusedSimpArgs false
set_option maxHeartbeats 2000000 in
set_option maxRecDepth 100000 in
theorem played_Left {w : World} {g m : Nat} {tr mo sp ck : Int} {v : Value} {l : List DocW} {Es : List Win} (h : PairL w g m tr mo sp ck v l Es) (hlt : (l.length : Int) < 4398046511104) (s : ByteArray) (hz : s.size ≤ 9223372036854775807) (now : Int) (hnow : 0 ≤ now ∧ now ≤ 18446744073709551615) :
    Calls Try.prog 14 #[.pointer (some ⟨g, 0, none⟩), .agg #[.int .i64 tr, .int .u64 sp, .int .i64 mo, .int .u64 ck, v], .agg #[.int .i64 2, .string s, .int .u64 now]] w (PlayedPost w g m tr mo sp l.length) := by
  obtain ⟨A, c, rfl, hcA, hCA⟩ := h.doc.view
  have HCA := Aside0.mk (And.intro hcA hCA)
  clear hcA hCA
  obtain ⟨t, ht⟩ : ∃ t, t = max now ck := ⟨_, rfl⟩
  have htB : ck ≤ t ∧ t ≤ 18446744073709551615 := by have := h.st.ckB; omega
  obtain ⟨W3, hW3⟩ : ∃ W3, W3 = (((w.alloc (.cells #[.int .i64 tr, .int .u64 sp, .int .i64 mo, .int .u64 ck, .slice A l.length c] 31)).alloc (.cells #[.int .i64 2, .string s, .int .u64 now] 35)).alloc (.cells #[.int .i64 0, .int .u64 0, .int .i64 0, .int .u64 0, .slice none 0 0] 31)) := ⟨_, rfl⟩
  have HD := Aside0.mk (Desk.start h.st.mlt tr mo sp ck (.slice A l.length c) 2 s now)
  rw [← hW3] at HD
  have hb3 : Below w.heap.size w W3 := by rw [hW3]; exact below_alloc (below_alloc (below_alloc (Below.refl _ _) _) _) _
  have HP := Aside0.mk (h.below hb3)
  have HBW := Aside0.mk hb3
  have HH := Aside0.mk h
  have HT := Aside0.mk ht
  have HTB := Aside0.mk htB
  have HLT := Aside0.mk hlt
  have HNW := Aside0.mk hnow
  have HZ := Aside0.mk hz
  have d0 := (blk_cell HD.out.b0 0).trans rfl
  have d1 := (blk_cell HD.out.b0 1).trans rfl
  have d2 := (blk_cell HD.out.b0 2).trans rfl
  have d3 := (blk_cell HD.out.b0 3).trans rfl
  have d4 := (blk_cell HD.out.b0 4).trans rfl
  have o0 := (blk_cell HD.out.b1 0).trans rfl
  have o1 := (blk_cell HD.out.b1 1).trans rfl
  have o2 := (blk_cell HD.out.b1 2).trans rfl
  have r0 := (blk_cell HD.out.b2 0).trans rfl
  have r1 := (blk_cell HD.out.b2 1).trans rfl
  have r2 := (blk_cell HD.out.b2 2).trans rfl
  have r3 := (blk_cell HD.out.b2 3).trans rfl
  have r4 := (blk_cell HD.out.b2 4).trans rfl
  have rz0 := blk_frozen HD.out.b2 0
  have rz1 := blk_frozen HD.out.b2 1
  have rz2 := blk_frozen HD.out.b2 2
  have rz3 := blk_frozen HD.out.b2 3
  have rz4 := blk_frozen HD.out.b2 4
  rw [hW3] at d0 d1 d2 d3 d4 o0 o1 o2 r0 r1 r2 r3 r4 rz0 rz1 rz2 rz3 rz4
  clear h ht htB hlt hnow hz hb3
  go_enter Try.func14, Try.ntmps14
  go_wp2_with fail
  rw [← hW3]
  clear d0 d1 d2 d3 d4 o0 o1 o2 r0 r1 r2 r3 r4 rz0 rz1 rz2 rz3 rz4
  obtain ⟨B0, hB0⟩ : ∃ B0, B0 = w.heap.size := ⟨_, rfl⟩
  obtain ⟨B1, hB1⟩ : ∃ B1, B1 = w.heap.size + 1 := ⟨_, rfl⟩
  obtain ⟨B2, hB2⟩ : ∃ B2, B2 = w.heap.size + 1 + 1 := ⟨_, rfl⟩
  rw [← hB2, ← hB1, ← hB0] at HD
  rw [← hB2, ← hB1, ← hB0]
  clear hB0 hB1 hB2 hW3
  have hev := left_ev (HH.out.docB (t := max now ck) (by rw [← HT.out]; exact HTB.out.1) (by rw [← HT.out]; exact HTB.out.2) HLT.out) (HH.out.nodupAt (by rw [← HT.out]; exact HTB.out.1)) tr mo s HH.out.st.trB (fun x hx => by have h1 := (HH.out.permAt (by rw [← HT.out]; exact HTB.out.1)).mem_iff.1 hx; have h2 := HH.out.st.use x (List.mem_filter.1 h1).1; exact ⟨by omega, h2.2⟩)
  rw [← HT.out] at hev
  obtain ⟨kk, hkk⟩ := hev.rounds
  have HKK := Aside0.mk hkk
  have hpm : leftI tr mo s (opens sp t l) = leftI tr mo s (Es.filter (al sp t)) := leftI_perm (HH.out.permAt HTB.out.1) (HH.out.nodupAt HTB.out.1)
  rw [hpm] at HKK
  obtain ⟨z, hz⟩ : ∃ z, z = leftI tr mo s (Es.filter (al sp t)) := ⟨_, rfl⟩
  have HZZ := Aside0.mk hz
  rw [← hz] at HKK
  clear hev hkk hpm hz
  have d0 := (blk_cell HD.out.b0 0).trans rfl
  have d1 := (blk_cell HD.out.b0 1).trans rfl
  have d2 := (blk_cell HD.out.b0 2).trans rfl
  have d3 := (blk_cell HD.out.b0 3).trans rfl
  have d4 := (blk_cell HD.out.b0 4).trans rfl
  have o0 := (blk_cell HD.out.b1 0).trans rfl
  have o1 := (blk_cell HD.out.b1 1).trans rfl
  have o2 := (blk_cell HD.out.b1 2).trans rfl
  have bz : (z == z) = true := by simp
  refine start_ (n := 16) (S := fun w' => w'.cell? ⟨B0, 0, none⟩ = some (.int .i64 tr) ∧ w'.cell? ⟨B0, 1, none⟩ = some (.int .u64 sp) ∧ w'.cell? ⟨B0, 2, none⟩ = some (.int .i64 mo) ∧ w'.cell? ⟨B0, 3, none⟩ = some (.int .u64 ck) ∧ w'.cell? ⟨B0, 4, none⟩ = some (.slice A l.length c) ∧ w'.cell? ⟨B1, 1, none⟩ = some (.string s) ∧ w'.cell? ⟨B1, 2, none⟩ = some (.int .u64 now)) (ds := []) #[false, false, false, false, false, false, false, false, false, false, false, false, false, false, false, false] (by kernel_rfl) rfl rfl ⟨d0, d1, d2, d3, d4, o1, o2⟩ (fun hHeld => ?_)
  refine pure_ (i := 1) (N := some 59) (v := ?_) (a' := ?_) #[false, true, false, false, false, false, false, false, false, false, false, false, false, false, false, false] rfl rfl (by kernel_rfl) (fun _ _ _ h => h) (Or.inl ⟨by rfl, ?_⟩) ?_ ?_
  rotate_left
  · intro w'
    go_simp
    with_reducible rfl
  rotate_left
  · simp only [Act.put, List.setIfInBounds_toArray, List.set_cons_zero, List.set_cons_succ, i64_w, i32_w]
    rfl
  refine pure_ (i := 2) (N := some 60) (v := ?_) (a' := ?_) #[false, true, true, false, false, false, false, false, false, false, false, false, false, false, false, false] rfl rfl (by kernel_rfl) (fun _ _ _ h => h) (Or.inl ⟨by rfl, ?_⟩) ?_ ?_
  rotate_left
  · intro w'
    go_simp
    with_reducible rfl
  rotate_left
  · simp only [Act.put, List.setIfInBounds_toArray, List.set_cons_zero, List.set_cons_succ, i64_w, i32_w]
    rfl
  refine pure_ (i := 4) (N := some 62) (v := ?_) (a' := ?_) #[false, true, true, false, true, false, false, false, false, false, false, false, false, false, false, false] rfl rfl (by kernel_rfl) (fun _ _ _ h => h) (Or.inl ⟨by rfl, ?_⟩) ?_ ?_
  rotate_left
  · intro w'
    go_simp
    with_reducible rfl
  rotate_left
  · simp only [Act.put, List.setIfInBounds_toArray, List.set_cons_zero, List.set_cons_succ, i64_w, i32_w]
    rfl
  refine pure_ (i := 8) (N := some 66) (v := ?_) (a' := ?_) #[false, true, true, false, true, false, false, false, true, false, false, false, false, false, false, false] rfl rfl (by kernel_rfl) (fun _ _ _ h => h) (Or.inl ⟨by rfl, ?_⟩) ?_ ?_
  rotate_left
  · intro w'
    go_simp
    with_reducible rfl
  rotate_left
  · simp only [Act.put, List.setIfInBounds_toArray, List.set_cons_zero, List.set_cons_succ, i64_w, i32_w]
    rfl
  refine pure_ (i := 10) (N := some 68) (v := ?_) (a' := ?_) #[false, true, true, false, true, false, false, false, true, false, true, false, false, false, false, false] rfl rfl (by kernel_rfl) (fun _ _ _ h => h) (Or.inl ⟨by rfl, ?_⟩) ?_ ?_
  rotate_left
  · intro w'
    go_simp
    with_reducible rfl
  rotate_left
  · simp only [Act.put, List.setIfInBounds_toArray, List.set_cons_zero, List.set_cons_succ, i64_w, i32_w]
    rfl
  refine take_ (i := 0) (N := some 58) (v := ?_) (a' := ?_) #[true, true, true, false, true, false, false, false, true, false, true, false, false, false, false, false] rfl rfl (by kernel_rfl) (fun _ _ _ h => h) (Or.inl ⟨by rfl, ?_⟩) hHeld ?_ ?_
  rotate_left
  · rintro w' ⟨s0, s1, s2, s3, s4, s5, s6⟩
    go_simp
    with_reducible rfl
  rotate_left
  · simp only [Act.put, List.setIfInBounds_toArray, List.set_cons_zero, List.set_cons_succ, i64_w, i32_w]
    rfl
  refine take_ (i := 3) (N := some 61) (v := ?_) (a' := ?_) #[true, true, true, true, true, false, false, false, true, false, true, false, false, false, false, false] rfl rfl (by kernel_rfl) (fun _ _ _ h => h) (Or.inl ⟨by rfl, ?_⟩) hHeld ?_ ?_
  rotate_left
  · rintro w' ⟨s0, s1, s2, s3, s4, s5, s6⟩
    go_simp
    with_reducible rfl
  rotate_left
  · simp only [Act.put, List.setIfInBounds_toArray, List.set_cons_zero, List.set_cons_succ, i64_w, i32_w]
    rfl
  refine take_ (i := 5) (N := some 63) (v := ?_) (a' := ?_) #[true, true, true, true, true, true, false, false, true, false, true, false, false, false, false, false] rfl rfl (by kernel_rfl) (fun _ _ _ h => h) (Or.inl ⟨by rfl, ?_⟩) hHeld ?_ ?_
  rotate_left
  · rintro w' ⟨s0, s1, s2, s3, s4, s5, s6⟩
    go_simp
    with_reducible rfl
  rotate_left
  · simp only [Act.put, List.setIfInBounds_toArray, List.set_cons_zero, List.set_cons_succ, i64_w, i32_w]
    rfl
  refine take_ (i := 7) (N := some 65) (v := ?_) (a' := ?_) #[true, true, true, true, true, true, false, true, true, false, true, false, false, false, false, false] rfl rfl (by kernel_rfl) (fun _ _ _ h => h) (Or.inl ⟨by rfl, ?_⟩) hHeld ?_ ?_
  rotate_left
  · rintro w' ⟨s0, s1, s2, s3, s4, s5, s6⟩
    go_simp
    with_reducible rfl
  rotate_left
  · simp only [Act.put, List.setIfInBounds_toArray, List.set_cons_zero, List.set_cons_succ, i64_w, i32_w]
    rfl
  refine take_ (i := 9) (N := some 67) (v := ?_) (a' := ?_) #[true, true, true, true, true, true, false, true, true, true, true, false, false, false, false, false] rfl rfl (by kernel_rfl) (fun _ _ _ h => h) (Or.inl ⟨by rfl, ?_⟩) hHeld ?_ ?_
  rotate_left
  · rintro w' ⟨s0, s1, s2, s3, s4, s5, s6⟩
    go_simp
    with_reducible rfl
  rotate_left
  · simp only [Act.put, List.setIfInBounds_toArray, List.set_cons_zero, List.set_cons_succ, i64_w, i32_w]
    rfl
  refine take_ (i := 11) (N := some 69) (v := ?_) (a' := ?_) #[true, true, true, true, true, true, false, true, true, true, true, true, false, false, false, false] rfl rfl (by kernel_rfl) (fun _ _ _ h => h) (Or.inl ⟨by rfl, ?_⟩) hHeld ?_ ?_
  rotate_left
  · rintro w' ⟨s0, s1, s2, s3, s4, s5, s6⟩
    go_simp
    with_reducible rfl
  rotate_left
  · simp only [Act.put, List.setIfInBounds_toArray, List.set_cons_zero, List.set_cons_succ, i64_w, i32_w]
    rfl
  refine one_ (i := 6) (N := some 64) #[true, true, true, true, true, true, true, true, true, true, true, true, false, false, false, false] rfl rfl (by kernel_rfl) (by decide) (fun K hK => ?_)
  refine goes_ Try.func16 (by kernel_rfl) rfl #[.pointer (some ⟨g, 0, none⟩), .string s, .int .u64 now] (by rfl) rfl rfl (by simp only [List.map_toArray, List.map_cons, List.map_nil]; rfl) ?_
  with_reducible refine (limit_Left.calls (HP.out.below (below_drew1 (Below.refl _ _))).st s now HNW.out t HT.out).mono ?_
  rintro e w5 ⟨rfl, hb5⟩
  rw [← HZZ.out]
  replace HP := Aside0.mk ((HP.out.below (below_drew1 (Below.refl _ _))).below hb5)
  replace HD := Aside0.mk ((HD.out.below (below_drew1 (Below.refl _ _))).below hb5)
  replace HBW := Aside0.mk (below_step (below_drew1 HBW.out) hb5)
  refine ⟨_, rfl, ?_⟩
  refine hK.out _ _ ⟨pw_cell_below hb5 hHeld.1, pw_cell_below hb5 hHeld.2.1, pw_cell_below hb5 hHeld.2.2.1, pw_cell_below hb5 hHeld.2.2.2.1, pw_cell_below hb5 hHeld.2.2.2.2.1, pw_cell_below hb5 hHeld.2.2.2.2.2.1, pw_cell_below hb5 hHeld.2.2.2.2.2.2⟩ (fun hHeld => ?_)
  clear hK K
  refine norm_ (a' := ?_) ?_ ?_
  rotate_left
  · show Act.put _ (some 64) _ = _
    simp only [Act.put, List.setIfInBounds_toArray, List.set_cons_zero, List.set_cons_succ, i64_w, i32_w]
    rfl
  refine one_ (i := 12) (N := some 70) #[true, true, true, true, true, true, true, true, true, true, true, true, true, false, false, false] rfl rfl (by kernel_rfl) (by decide) (fun K hK => ?_)
  refine goes_ Try.func22 (by kernel_rfl) rfl #[.agg #[.int .i64 tr, .int .u64 sp, .int .i64 mo, .int .u64 ck, .slice A l.length c], .string s, .int .u64 now] (by rfl) rfl rfl (by simp only [List.map_toArray, List.map_cons, List.map_nil]; rfl) ?_
  with_reducible refine (wicketref08_Left.calls kk tr sp mo ck A c l s now z w5 (Kd.C_below HCA.out.2 HBW.out) HCA.out.1 HKK.out).mono ?_
  rintro e w6 ⟨rfl, hb6⟩
  replace HP := Aside0.mk (HP.out.below hb6)
  replace HD := Aside0.mk (HD.out.below hb6)
  have r0 := (blk_cell HD.out.b2 0).trans rfl
  have r1 := (blk_cell HD.out.b2 1).trans rfl
  have r2 := (blk_cell HD.out.b2 2).trans rfl
  have r3 := (blk_cell HD.out.b2 3).trans rfl
  have r4 := (blk_cell HD.out.b2 4).trans rfl
  have rz0 := blk_frozen HD.out.b2 0
  have rz1 := blk_frozen HD.out.b2 1
  have rz2 := blk_frozen HD.out.b2 2
  have rz3 := blk_frozen HD.out.b2 3
  have rz4 := blk_frozen HD.out.b2 4
  refine ⟨_, rfl, ?_⟩
  refine hK.out _ _ ⟨pw_cell_below hb6 hHeld.1, pw_cell_below hb6 hHeld.2.1, pw_cell_below hb6 hHeld.2.2.1, pw_cell_below hb6 hHeld.2.2.2.1, pw_cell_below hb6 hHeld.2.2.2.2.1, pw_cell_below hb6 hHeld.2.2.2.2.2.1, pw_cell_below hb6 hHeld.2.2.2.2.2.2⟩ (fun hHeld => ?_)
  clear hK K
  refine norm_ (a' := ?_) ?_ ?_
  rotate_left
  · show Act.put _ (some 70) _ = _
    simp only [Act.put, List.setIfInBounds_toArray, List.set_cons_zero, List.set_cons_succ, i64_w, i32_w]
    rfl
  refine pure_ (i := 13) (N := some 71) (v := ?_) (a' := ?_) #[true, true, true, true, true, true, true, true, true, true, true, true, true, true, false, false] rfl rfl (by kernel_rfl) (fun _ _ _ h => h) (Or.inl ⟨by rfl, ?_⟩) ?_ ?_
  rotate_left
  · intro w'
    go_simp
    with_reducible rfl
  rotate_left
  · simp only [Act.put, List.setIfInBounds_toArray, List.set_cons_zero, List.set_cons_succ, i64_w, i32_w]
    rfl
  refine one_ (i := 14) (N := none) #[true, true, true, true, true, true, true, true, true, true, true, true, true, true, true, false] rfl rfl (by kernel_rfl) (by decide) (fun K hK => ?_)
  refine skip_ (w1 := (((((w6.setCell ⟨B2, 0, none⟩ (.int .i64 tr)).setCell ⟨B2, 1, none⟩ (.int .u64 sp)).setCell ⟨B2, 2, none⟩ (.int .i64 mo)).setCell ⟨B2, 3, none⟩ (.int .u64 ck)).setCell ⟨B2, 4, none⟩ (.slice A l.length c))) (by rfl) rfl ?_ ?_
  · go_simp
    try rfl
  refine hK.out _ _ ⟨cell_far5' HD.out.far.2.1 (blk_cell HD.out.b0 0), cell_far5' HD.out.far.2.1 (blk_cell HD.out.b0 1), cell_far5' HD.out.far.2.1 (blk_cell HD.out.b0 2), cell_far5' HD.out.far.2.1 (blk_cell HD.out.b0 3), cell_far5' HD.out.far.2.1 (blk_cell HD.out.b0 4), cell_far5' HD.out.far.2.2 (blk_cell HD.out.b1 1), cell_far5' HD.out.far.2.2 (blk_cell HD.out.b1 2)⟩ (fun hHeld => ?_)
  clear hK K
  refine pure_ (i := 15) (N := some 7) (v := ?_) (a' := ?_) #[true, true, true, true, true, true, true, true, true, true, true, true, true, true, true, true] rfl rfl (by kernel_rfl) (fun _ _ _ h => h) (Or.inl ⟨by rfl, ?_⟩) ?_ ?_
  rotate_left
  · intro w'
    go_simp
    with_reducible rfl
  rotate_left
  · simp only [Act.put, List.setIfInBounds_toArray, List.set_cons_zero, List.set_cons_succ, i64_w, i32_w]
    rfl
  refine done_ (by kernel_rfl) ?_
  go_wp2_with fail
  refine bodyPost_ret (results_ct rfl _ _ B2 31 #[.int .i64 tr, .int .u64 sp, .int .i64 mo, .int .u64 ck, .slice A l.length c] (0, 0) _ rfl (blk_five HD.out.b2 _ _ _ _ _) Try.underlying31 rfl size31) rfl ?_
  exact ⟨_, _, _, _, rfl, HP.out.farB HD.out.b2 _ _ _ _ _, HD.out.kept.five HD.out.up.2.2 _ _ _ _ _, Nat.le_succ _⟩
set_option maxHeartbeats 2000000 in
set_option maxRecDepth 100000 in
theorem played_Wait {w : World} {g m : Nat} {tr mo sp ck : Int} {v : Value} {l : List DocW} {Es : List Win} (h : PairL w g m tr mo sp ck v l Es) (hlt : (l.length : Int) < 4398046511104) (s : ByteArray) (hz : s.size ≤ 9223372036854775807) (now : Int) (hnow : 0 ≤ now ∧ now ≤ 18446744073709551615) :
    Calls Try.prog 14 #[.pointer (some ⟨g, 0, none⟩), .agg #[.int .i64 tr, .int .u64 sp, .int .i64 mo, .int .u64 ck, v], .agg #[.int .i64 3, .string s, .int .u64 now]] w (PlayedPost w g m tr mo sp l.length) := by
  obtain ⟨A, c, rfl, hcA, hCA⟩ := h.doc.view
  have HCA := Aside0.mk (And.intro hcA hCA)
  clear hcA hCA
  obtain ⟨t, ht⟩ : ∃ t, t = max now ck := ⟨_, rfl⟩
  have htB : ck ≤ t ∧ t ≤ 18446744073709551615 := by have := h.st.ckB; omega
  obtain ⟨W3, hW3⟩ : ∃ W3, W3 = (((w.alloc (.cells #[.int .i64 tr, .int .u64 sp, .int .i64 mo, .int .u64 ck, .slice A l.length c] 31)).alloc (.cells #[.int .i64 3, .string s, .int .u64 now] 35)).alloc (.cells #[.int .i64 0, .int .u64 0, .int .i64 0, .int .u64 0, .slice none 0 0] 31)) := ⟨_, rfl⟩
  have HD := Aside0.mk (Desk.start h.st.mlt tr mo sp ck (.slice A l.length c) 3 s now)
  rw [← hW3] at HD
  have hb3 : Below w.heap.size w W3 := by rw [hW3]; exact below_alloc (below_alloc (below_alloc (Below.refl _ _) _) _) _
  have HP := Aside0.mk (h.below hb3)
  have HBW := Aside0.mk hb3
  have HH := Aside0.mk h
  have HT := Aside0.mk ht
  have HTB := Aside0.mk htB
  have HLT := Aside0.mk hlt
  have HNW := Aside0.mk hnow
  have HZ := Aside0.mk hz
  have d0 := (blk_cell HD.out.b0 0).trans rfl
  have d1 := (blk_cell HD.out.b0 1).trans rfl
  have d2 := (blk_cell HD.out.b0 2).trans rfl
  have d3 := (blk_cell HD.out.b0 3).trans rfl
  have d4 := (blk_cell HD.out.b0 4).trans rfl
  have o0 := (blk_cell HD.out.b1 0).trans rfl
  have o1 := (blk_cell HD.out.b1 1).trans rfl
  have o2 := (blk_cell HD.out.b1 2).trans rfl
  have r0 := (blk_cell HD.out.b2 0).trans rfl
  have r1 := (blk_cell HD.out.b2 1).trans rfl
  have r2 := (blk_cell HD.out.b2 2).trans rfl
  have r3 := (blk_cell HD.out.b2 3).trans rfl
  have r4 := (blk_cell HD.out.b2 4).trans rfl
  have rz0 := blk_frozen HD.out.b2 0
  have rz1 := blk_frozen HD.out.b2 1
  have rz2 := blk_frozen HD.out.b2 2
  have rz3 := blk_frozen HD.out.b2 3
  have rz4 := blk_frozen HD.out.b2 4
  rw [hW3] at d0 d1 d2 d3 d4 o0 o1 o2 r0 r1 r2 r3 r4 rz0 rz1 rz2 rz3 rz4
  clear h ht htB hlt hnow hz hb3
  go_enter Try.func14, Try.ntmps14
  go_wp2_with fail
  rw [← hW3]
  clear d0 d1 d2 d3 d4 o0 o1 o2 r0 r1 r2 r3 r4 rz0 rz1 rz2 rz3 rz4
  obtain ⟨B0, hB0⟩ : ∃ B0, B0 = w.heap.size := ⟨_, rfl⟩
  obtain ⟨B1, hB1⟩ : ∃ B1, B1 = w.heap.size + 1 := ⟨_, rfl⟩
  obtain ⟨B2, hB2⟩ : ∃ B2, B2 = w.heap.size + 1 + 1 := ⟨_, rfl⟩
  rw [← hB2, ← hB1, ← hB0] at HD
  rw [← hB2, ← hB1, ← hB0]
  clear hB0 hB1 hB2 hW3
  have hev := wait_ev (HH.out.docB (t := max now ck) (by rw [← HT.out]; exact HTB.out.1) (by rw [← HT.out]; exact HTB.out.2) HLT.out) (HH.out.nodupAt (by rw [← HT.out]; exact HTB.out.1)) tr mo s
  rw [← HT.out] at hev
  obtain ⟨kk, hkk⟩ := hev.rounds
  have HKK := Aside0.mk hkk
  have hpm : waitI tr mo sp t s (opens sp t l) = waitI tr mo sp t s (Es.filter (al sp t)) := waitI_perm (HH.out.permAt HTB.out.1) (HH.out.nodupAt HTB.out.1)
  rw [hpm] at HKK
  obtain ⟨z, hz⟩ : ∃ z, z = waitI tr mo sp t s (Es.filter (al sp t)) := ⟨_, rfl⟩
  have HZZ := Aside0.mk hz
  rw [← hz] at HKK
  clear hev hkk hpm hz
  have d0 := (blk_cell HD.out.b0 0).trans rfl
  have d1 := (blk_cell HD.out.b0 1).trans rfl
  have d2 := (blk_cell HD.out.b0 2).trans rfl
  have d3 := (blk_cell HD.out.b0 3).trans rfl
  have d4 := (blk_cell HD.out.b0 4).trans rfl
  have o0 := (blk_cell HD.out.b1 0).trans rfl
  have o1 := (blk_cell HD.out.b1 1).trans rfl
  have o2 := (blk_cell HD.out.b1 2).trans rfl
  have bz : (z == z) = true := by simp
  refine start_ (n := 16) (S := fun w' => w'.cell? ⟨B0, 0, none⟩ = some (.int .i64 tr) ∧ w'.cell? ⟨B0, 1, none⟩ = some (.int .u64 sp) ∧ w'.cell? ⟨B0, 2, none⟩ = some (.int .i64 mo) ∧ w'.cell? ⟨B0, 3, none⟩ = some (.int .u64 ck) ∧ w'.cell? ⟨B0, 4, none⟩ = some (.slice A l.length c) ∧ w'.cell? ⟨B1, 1, none⟩ = some (.string s) ∧ w'.cell? ⟨B1, 2, none⟩ = some (.int .u64 now)) (ds := []) #[false, false, false, false, false, false, false, false, false, false, false, false, false, false, false, false] (by kernel_rfl) rfl rfl ⟨d0, d1, d2, d3, d4, o1, o2⟩ (fun hHeld => ?_)
  refine pure_ (i := 1) (N := some 75) (v := ?_) (a' := ?_) #[false, true, false, false, false, false, false, false, false, false, false, false, false, false, false, false] rfl rfl (by kernel_rfl) (fun _ _ _ h => h) (Or.inl ⟨by rfl, ?_⟩) ?_ ?_
  rotate_left
  · intro w'
    go_simp
    with_reducible rfl
  rotate_left
  · simp only [Act.put, List.setIfInBounds_toArray, List.set_cons_zero, List.set_cons_succ, i64_w, i32_w]
    rfl
  refine pure_ (i := 2) (N := some 76) (v := ?_) (a' := ?_) #[false, true, true, false, false, false, false, false, false, false, false, false, false, false, false, false] rfl rfl (by kernel_rfl) (fun _ _ _ h => h) (Or.inl ⟨by rfl, ?_⟩) ?_ ?_
  rotate_left
  · intro w'
    go_simp
    with_reducible rfl
  rotate_left
  · simp only [Act.put, List.setIfInBounds_toArray, List.set_cons_zero, List.set_cons_succ, i64_w, i32_w]
    rfl
  refine pure_ (i := 4) (N := some 78) (v := ?_) (a' := ?_) #[false, true, true, false, true, false, false, false, false, false, false, false, false, false, false, false] rfl rfl (by kernel_rfl) (fun _ _ _ h => h) (Or.inl ⟨by rfl, ?_⟩) ?_ ?_
  rotate_left
  · intro w'
    go_simp
    with_reducible rfl
  rotate_left
  · simp only [Act.put, List.setIfInBounds_toArray, List.set_cons_zero, List.set_cons_succ, i64_w, i32_w]
    rfl
  refine pure_ (i := 8) (N := some 82) (v := ?_) (a' := ?_) #[false, true, true, false, true, false, false, false, true, false, false, false, false, false, false, false] rfl rfl (by kernel_rfl) (fun _ _ _ h => h) (Or.inl ⟨by rfl, ?_⟩) ?_ ?_
  rotate_left
  · intro w'
    go_simp
    with_reducible rfl
  rotate_left
  · simp only [Act.put, List.setIfInBounds_toArray, List.set_cons_zero, List.set_cons_succ, i64_w, i32_w]
    rfl
  refine pure_ (i := 10) (N := some 84) (v := ?_) (a' := ?_) #[false, true, true, false, true, false, false, false, true, false, true, false, false, false, false, false] rfl rfl (by kernel_rfl) (fun _ _ _ h => h) (Or.inl ⟨by rfl, ?_⟩) ?_ ?_
  rotate_left
  · intro w'
    go_simp
    with_reducible rfl
  rotate_left
  · simp only [Act.put, List.setIfInBounds_toArray, List.set_cons_zero, List.set_cons_succ, i64_w, i32_w]
    rfl
  refine take_ (i := 0) (N := some 74) (v := ?_) (a' := ?_) #[true, true, true, false, true, false, false, false, true, false, true, false, false, false, false, false] rfl rfl (by kernel_rfl) (fun _ _ _ h => h) (Or.inl ⟨by rfl, ?_⟩) hHeld ?_ ?_
  rotate_left
  · rintro w' ⟨s0, s1, s2, s3, s4, s5, s6⟩
    go_simp
    with_reducible rfl
  rotate_left
  · simp only [Act.put, List.setIfInBounds_toArray, List.set_cons_zero, List.set_cons_succ, i64_w, i32_w]
    rfl
  refine take_ (i := 3) (N := some 77) (v := ?_) (a' := ?_) #[true, true, true, true, true, false, false, false, true, false, true, false, false, false, false, false] rfl rfl (by kernel_rfl) (fun _ _ _ h => h) (Or.inl ⟨by rfl, ?_⟩) hHeld ?_ ?_
  rotate_left
  · rintro w' ⟨s0, s1, s2, s3, s4, s5, s6⟩
    go_simp
    with_reducible rfl
  rotate_left
  · simp only [Act.put, List.setIfInBounds_toArray, List.set_cons_zero, List.set_cons_succ, i64_w, i32_w]
    rfl
  refine take_ (i := 5) (N := some 79) (v := ?_) (a' := ?_) #[true, true, true, true, true, true, false, false, true, false, true, false, false, false, false, false] rfl rfl (by kernel_rfl) (fun _ _ _ h => h) (Or.inl ⟨by rfl, ?_⟩) hHeld ?_ ?_
  rotate_left
  · rintro w' ⟨s0, s1, s2, s3, s4, s5, s6⟩
    go_simp
    with_reducible rfl
  rotate_left
  · simp only [Act.put, List.setIfInBounds_toArray, List.set_cons_zero, List.set_cons_succ, i64_w, i32_w]
    rfl
  refine take_ (i := 7) (N := some 81) (v := ?_) (a' := ?_) #[true, true, true, true, true, true, false, true, true, false, true, false, false, false, false, false] rfl rfl (by kernel_rfl) (fun _ _ _ h => h) (Or.inl ⟨by rfl, ?_⟩) hHeld ?_ ?_
  rotate_left
  · rintro w' ⟨s0, s1, s2, s3, s4, s5, s6⟩
    go_simp
    with_reducible rfl
  rotate_left
  · simp only [Act.put, List.setIfInBounds_toArray, List.set_cons_zero, List.set_cons_succ, i64_w, i32_w]
    rfl
  refine take_ (i := 9) (N := some 83) (v := ?_) (a' := ?_) #[true, true, true, true, true, true, false, true, true, true, true, false, false, false, false, false] rfl rfl (by kernel_rfl) (fun _ _ _ h => h) (Or.inl ⟨by rfl, ?_⟩) hHeld ?_ ?_
  rotate_left
  · rintro w' ⟨s0, s1, s2, s3, s4, s5, s6⟩
    go_simp
    with_reducible rfl
  rotate_left
  · simp only [Act.put, List.setIfInBounds_toArray, List.set_cons_zero, List.set_cons_succ, i64_w, i32_w]
    rfl
  refine take_ (i := 11) (N := some 85) (v := ?_) (a' := ?_) #[true, true, true, true, true, true, false, true, true, true, true, true, false, false, false, false] rfl rfl (by kernel_rfl) (fun _ _ _ h => h) (Or.inl ⟨by rfl, ?_⟩) hHeld ?_ ?_
  rotate_left
  · rintro w' ⟨s0, s1, s2, s3, s4, s5, s6⟩
    go_simp
    with_reducible rfl
  rotate_left
  · simp only [Act.put, List.setIfInBounds_toArray, List.set_cons_zero, List.set_cons_succ, i64_w, i32_w]
    rfl
  refine one_ (i := 6) (N := some 80) #[true, true, true, true, true, true, true, true, true, true, true, true, false, false, false, false] rfl rfl (by kernel_rfl) (by decide) (fun K hK => ?_)
  refine goes_ Try.func17 (by kernel_rfl) rfl #[.pointer (some ⟨g, 0, none⟩), .string s, .int .u64 now] (by rfl) rfl rfl (by simp only [List.map_toArray, List.map_cons, List.map_nil]; rfl) ?_
  with_reducible refine (limit_Wait.calls (HP.out.below (below_drew1 (Below.refl _ _))).st s now HNW.out t HT.out).mono ?_
  rintro e w5 ⟨rfl, hb5⟩
  rw [← HZZ.out]
  replace HP := Aside0.mk ((HP.out.below (below_drew1 (Below.refl _ _))).below hb5)
  replace HD := Aside0.mk ((HD.out.below (below_drew1 (Below.refl _ _))).below hb5)
  replace HBW := Aside0.mk (below_step (below_drew1 HBW.out) hb5)
  refine ⟨_, rfl, ?_⟩
  refine hK.out _ _ ⟨pw_cell_below hb5 hHeld.1, pw_cell_below hb5 hHeld.2.1, pw_cell_below hb5 hHeld.2.2.1, pw_cell_below hb5 hHeld.2.2.2.1, pw_cell_below hb5 hHeld.2.2.2.2.1, pw_cell_below hb5 hHeld.2.2.2.2.2.1, pw_cell_below hb5 hHeld.2.2.2.2.2.2⟩ (fun hHeld => ?_)
  clear hK K
  refine norm_ (a' := ?_) ?_ ?_
  rotate_left
  · show Act.put _ (some 80) _ = _
    simp only [Act.put, List.setIfInBounds_toArray, List.set_cons_zero, List.set_cons_succ, i64_w, i32_w]
    rfl
  refine one_ (i := 12) (N := some 86) #[true, true, true, true, true, true, true, true, true, true, true, true, true, false, false, false] rfl rfl (by kernel_rfl) (by decide) (fun K hK => ?_)
  refine goes_ Try.func23 (by kernel_rfl) rfl #[.agg #[.int .i64 tr, .int .u64 sp, .int .i64 mo, .int .u64 ck, .slice A l.length c], .string s, .int .u64 now] (by rfl) rfl rfl (by simp only [List.map_toArray, List.map_cons, List.map_nil]; rfl) ?_
  with_reducible refine (wicketref08_Wait.calls kk tr sp mo ck A c l s now z w5 (Kd.C_below HCA.out.2 HBW.out) HCA.out.1 HKK.out).mono ?_
  rintro e w6 ⟨rfl, hb6⟩
  replace HP := Aside0.mk (HP.out.below hb6)
  replace HD := Aside0.mk (HD.out.below hb6)
  have r0 := (blk_cell HD.out.b2 0).trans rfl
  have r1 := (blk_cell HD.out.b2 1).trans rfl
  have r2 := (blk_cell HD.out.b2 2).trans rfl
  have r3 := (blk_cell HD.out.b2 3).trans rfl
  have r4 := (blk_cell HD.out.b2 4).trans rfl
  have rz0 := blk_frozen HD.out.b2 0
  have rz1 := blk_frozen HD.out.b2 1
  have rz2 := blk_frozen HD.out.b2 2
  have rz3 := blk_frozen HD.out.b2 3
  have rz4 := blk_frozen HD.out.b2 4
  refine ⟨_, rfl, ?_⟩
  refine hK.out _ _ ⟨pw_cell_below hb6 hHeld.1, pw_cell_below hb6 hHeld.2.1, pw_cell_below hb6 hHeld.2.2.1, pw_cell_below hb6 hHeld.2.2.2.1, pw_cell_below hb6 hHeld.2.2.2.2.1, pw_cell_below hb6 hHeld.2.2.2.2.2.1, pw_cell_below hb6 hHeld.2.2.2.2.2.2⟩ (fun hHeld => ?_)
  clear hK K
  refine norm_ (a' := ?_) ?_ ?_
  rotate_left
  · show Act.put _ (some 86) _ = _
    simp only [Act.put, List.setIfInBounds_toArray, List.set_cons_zero, List.set_cons_succ, i64_w, i32_w]
    rfl
  refine pure_ (i := 13) (N := some 87) (v := ?_) (a' := ?_) #[true, true, true, true, true, true, true, true, true, true, true, true, true, true, false, false] rfl rfl (by kernel_rfl) (fun _ _ _ h => h) (Or.inl ⟨by rfl, ?_⟩) ?_ ?_
  rotate_left
  · intro w'
    go_simp
    with_reducible rfl
  rotate_left
  · simp only [Act.put, List.setIfInBounds_toArray, List.set_cons_zero, List.set_cons_succ, i64_w, i32_w]
    rfl
  refine one_ (i := 14) (N := none) #[true, true, true, true, true, true, true, true, true, true, true, true, true, true, true, false] rfl rfl (by kernel_rfl) (by decide) (fun K hK => ?_)
  refine skip_ (w1 := (((((w6.setCell ⟨B2, 0, none⟩ (.int .i64 tr)).setCell ⟨B2, 1, none⟩ (.int .u64 sp)).setCell ⟨B2, 2, none⟩ (.int .i64 mo)).setCell ⟨B2, 3, none⟩ (.int .u64 ck)).setCell ⟨B2, 4, none⟩ (.slice A l.length c))) (by rfl) rfl ?_ ?_
  · go_simp
    try rfl
  refine hK.out _ _ ⟨cell_far5' HD.out.far.2.1 (blk_cell HD.out.b0 0), cell_far5' HD.out.far.2.1 (blk_cell HD.out.b0 1), cell_far5' HD.out.far.2.1 (blk_cell HD.out.b0 2), cell_far5' HD.out.far.2.1 (blk_cell HD.out.b0 3), cell_far5' HD.out.far.2.1 (blk_cell HD.out.b0 4), cell_far5' HD.out.far.2.2 (blk_cell HD.out.b1 1), cell_far5' HD.out.far.2.2 (blk_cell HD.out.b1 2)⟩ (fun hHeld => ?_)
  clear hK K
  refine pure_ (i := 15) (N := some 7) (v := ?_) (a' := ?_) #[true, true, true, true, true, true, true, true, true, true, true, true, true, true, true, true] rfl rfl (by kernel_rfl) (fun _ _ _ h => h) (Or.inl ⟨by rfl, ?_⟩) ?_ ?_
  rotate_left
  · intro w'
    go_simp
    with_reducible rfl
  rotate_left
  · simp only [Act.put, List.setIfInBounds_toArray, List.set_cons_zero, List.set_cons_succ, i64_w, i32_w]
    rfl
  refine done_ (by kernel_rfl) ?_
  go_wp2_with fail
  refine bodyPost_ret (results_ct rfl _ _ B2 31 #[.int .i64 tr, .int .u64 sp, .int .i64 mo, .int .u64 ck, .slice A l.length c] (0, 0) _ rfl (blk_five HD.out.b2 _ _ _ _ _) Try.underlying31 rfl size31) rfl ?_
  exact ⟨_, _, _, _, rfl, HP.out.farB HD.out.b2 _ _ _ _ _, HD.out.kept.five HD.out.up.2.2 _ _ _ _ _, Nat.le_succ _⟩
set_option maxHeartbeats 2000000 in
set_option maxRecDepth 100000 in
theorem played_Forgive {w : World} {g m : Nat} {tr mo sp ck : Int} {v : Value} {l : List DocW} {Es : List Win} (h : PairL w g m tr mo sp ck v l Es) (hlt : (l.length : Int) < 4398046511104) (s : ByteArray) (hz : s.size ≤ 9223372036854775807) (now : Int) (hnow : 0 ≤ now ∧ now ≤ 18446744073709551615) :
    Calls Try.prog 14 #[.pointer (some ⟨g, 0, none⟩), .agg #[.int .i64 tr, .int .u64 sp, .int .i64 mo, .int .u64 ck, v], .agg #[.int .i64 4, .string s, .int .u64 now]] w (PlayedPost w g m tr mo sp l.length) := by
  obtain ⟨A, c, rfl, hcA, hCA⟩ := h.doc.view
  have HCA := Aside0.mk (And.intro hcA hCA)
  clear hcA hCA
  obtain ⟨t, ht⟩ : ∃ t, t = max now ck := ⟨_, rfl⟩
  have htB : ck ≤ t ∧ t ≤ 18446744073709551615 := by have := h.st.ckB; omega
  obtain ⟨W3, hW3⟩ : ∃ W3, W3 = (((w.alloc (.cells #[.int .i64 tr, .int .u64 sp, .int .i64 mo, .int .u64 ck, .slice A l.length c] 31)).alloc (.cells #[.int .i64 4, .string s, .int .u64 now] 35)).alloc (.cells #[.int .i64 0, .int .u64 0, .int .i64 0, .int .u64 0, .slice none 0 0] 31)) := ⟨_, rfl⟩
  have HD := Aside0.mk (Desk.start h.st.mlt tr mo sp ck (.slice A l.length c) 4 s now)
  rw [← hW3] at HD
  have hb3 : Below w.heap.size w W3 := by rw [hW3]; exact below_alloc (below_alloc (below_alloc (Below.refl _ _) _) _) _
  have HP := Aside0.mk (h.below hb3)
  have HBW := Aside0.mk hb3
  have HH := Aside0.mk h
  have HT := Aside0.mk ht
  have HTB := Aside0.mk htB
  have HLT := Aside0.mk hlt
  have HNW := Aside0.mk hnow
  have HZ := Aside0.mk hz
  have d0 := (blk_cell HD.out.b0 0).trans rfl
  have d1 := (blk_cell HD.out.b0 1).trans rfl
  have d2 := (blk_cell HD.out.b0 2).trans rfl
  have d3 := (blk_cell HD.out.b0 3).trans rfl
  have d4 := (blk_cell HD.out.b0 4).trans rfl
  have o0 := (blk_cell HD.out.b1 0).trans rfl
  have o1 := (blk_cell HD.out.b1 1).trans rfl
  have o2 := (blk_cell HD.out.b1 2).trans rfl
  have r0 := (blk_cell HD.out.b2 0).trans rfl
  have r1 := (blk_cell HD.out.b2 1).trans rfl
  have r2 := (blk_cell HD.out.b2 2).trans rfl
  have r3 := (blk_cell HD.out.b2 3).trans rfl
  have r4 := (blk_cell HD.out.b2 4).trans rfl
  have rz0 := blk_frozen HD.out.b2 0
  have rz1 := blk_frozen HD.out.b2 1
  have rz2 := blk_frozen HD.out.b2 2
  have rz3 := blk_frozen HD.out.b2 3
  have rz4 := blk_frozen HD.out.b2 4
  rw [hW3] at d0 d1 d2 d3 d4 o0 o1 o2 r0 r1 r2 r3 r4 rz0 rz1 rz2 rz3 rz4
  clear h ht htB hlt hnow hz hb3
  go_enter Try.func14, Try.ntmps14
  go_wp2_with fail
  rw [← hW3]
  clear d0 d1 d2 d3 d4 o0 o1 o2 r0 r1 r2 r3 r4 rz0 rz1 rz2 rz3 rz4
  obtain ⟨B0, hB0⟩ : ∃ B0, B0 = w.heap.size := ⟨_, rfl⟩
  obtain ⟨B1, hB1⟩ : ∃ B1, B1 = w.heap.size + 1 := ⟨_, rfl⟩
  obtain ⟨B2, hB2⟩ : ∃ B2, B2 = w.heap.size + 1 + 1 := ⟨_, rfl⟩
  rw [← hB2, ← hB1, ← hB0] at HD
  rw [← hB2, ← hB1, ← hB0]
  clear hB0 hB1 hB2 hW3
  refine (ref_Forgive.all (tr := tr) (mo := mo) HP.out.doc (HH.out.docB (Int.le_refl ck) HH.out.st.ckB.2 HLT.out) (HH.out.nodupAt (Int.le_refl ck)) s).mono ?_
  rintro x w5 ⟨v5', l5, rfl, hV5, hb5, hT⟩
  obtain ⟨A5, k5, rfl, _, _⟩ := hV5.view
  have hfr := forgive_rel HH.out.rel HH.out.cnt hT
  obtain ⟨c5, hc5⟩ : ∃ c5, c5 = ck := ⟨_, rfl⟩
  obtain ⟨E7, hE7⟩ : ∃ E7, E7 = (Es.filter (al sp ck)).filter fun x => !decide (x.1 = s) := ⟨_, rfl⟩
  obtain ⟨z, hz⟩ : ∃ z, z = (look (Es.filter (al sp ck)) s).isSome := ⟨_, rfl⟩
  have hzz := hz
  rw [← look_perm (HH.out.permAt (Int.le_refl ck)) (HH.out.nodupAt (Int.le_refl ck))] at hzz
  have HZZ := Aside0.mk hz
  have HE7 := Aside0.mk hE7
  rw [← hE7] at hfr
  have hHP := HP.out
  rw [← hzz]
  rw [← hc5] at hfr ⊢
  have HR7 := Aside0.mk hfr
  have HC5 := Aside0.mk hc5
  clear hfr hz hzz hE7 hT hc5 hHP
  replace HD := Aside0.mk (HD.out.below hb5)
  obtain ⟨W6, hW6⟩ : ∃ W6, W6 = w5.alloc (.cells #[.int .i64 tr, .int .u64 sp, .int .i64 mo, .int .u64 c5, .slice A5 l5.length k5] 31) := ⟨_, rfl⟩
  have q6 : Below w5.heap.size w5 W6 := by rw [hW6]; exact below_alloc (Below.refl _ _) _
  have HLX : Aside0 (B2 < w5.heap.size ∧ w.heap.size ≤ w5.heap.size) := ⟨⟨blk_lt HD.out.b2, HD.out.kept.size⟩⟩
  have HB3 : Aside0 (W6.heap[w5.heap.size]? = some (.cells #[.int .i64 tr, .int .u64 sp, .int .i64 mo, .int .u64 c5, .slice A5 l5.length k5] 31 (0, 0))) := ⟨by rw [hW6]; exact blk_new _ _⟩
  replace HD := Aside0.mk (HD.out.below q6)
  have HP6 := Aside0.mk ((HP.out.below hb5).below q6)
  have HV6 := Aside0.mk (Kd.R_below hV5 q6)
  clear q6 hb5 hV5 HP
  go_wp2_with fail
  rw [← hW6]
  obtain ⟨B3, hB3⟩ : ∃ B3, B3 = w5.heap.size := ⟨_, rfl⟩
  have HN3 : Aside0 (B3 ≠ B2 ∧ B3 ≠ g ∧ B3 ≠ m) := ⟨by have h1 := HLX.out; have h2 := HD.out.low; omega⟩
  rw [← hB3] at HB3 ⊢
  clear hB3 hW6
  have d0 := (blk_cell HB3.out 0).trans rfl
  have d1 := (blk_cell HB3.out 1).trans rfl
  have d2 := (blk_cell HB3.out 2).trans rfl
  have d3 := (blk_cell HB3.out 3).trans rfl
  have d4 := (blk_cell HB3.out 4).trans rfl
  have o0 := (blk_cell HD.out.b1 0).trans rfl
  have o1 := (blk_cell HD.out.b1 1).trans rfl
  have o2 := (blk_cell HD.out.b1 2).trans rfl
  have bz : (z == z) = true := by simp
  refine start_ (n := 9) (S := fun w' => w'.cell? ⟨B3, 0, none⟩ = some (.int .i64 tr) ∧ w'.cell? ⟨B3, 1, none⟩ = some (.int .u64 sp) ∧ w'.cell? ⟨B3, 2, none⟩ = some (.int .i64 mo) ∧ w'.cell? ⟨B3, 3, none⟩ = some (.int .u64 c5) ∧ w'.cell? ⟨B3, 4, none⟩ = some (.slice A5 l5.length k5) ∧ w'.cell? ⟨B1, 1, none⟩ = some (.string s)) (ds := []) #[false, false, false, false, false, false, false, false, false] (by kernel_rfl) rfl rfl ⟨d0, d1, d2, d3, d4, o1⟩ (fun hHeld => ?_)
  refine pure_ (i := 1) (N := some 98) (v := ?_) (a' := ?_) #[false, true, false, false, false, false, false, false, false] rfl rfl (by kernel_rfl) (fun _ _ _ h => h) (Or.inl ⟨by rfl, ?_⟩) ?_ ?_
  rotate_left
  · intro w'
    go_simp
    with_reducible rfl
  rotate_left
  · simp only [Act.put, List.setIfInBounds_toArray, List.set_cons_zero, List.set_cons_succ, i64_w, i32_w]
    rfl
  refine pure_ (i := 2) (N := some 99) (v := ?_) (a' := ?_) #[false, true, true, false, false, false, false, false, false] rfl rfl (by kernel_rfl) (fun _ _ _ h => h) (Or.inl ⟨by rfl, ?_⟩) ?_ ?_
  rotate_left
  · intro w'
    go_simp
    with_reducible rfl
  rotate_left
  · simp only [Act.put, List.setIfInBounds_toArray, List.set_cons_zero, List.set_cons_succ, i64_w, i32_w]
    rfl
  refine pure_ (i := 5) (N := some 102) (v := ?_) (a' := ?_) #[false, true, true, false, false, true, false, false, false] rfl rfl (by kernel_rfl) (fun _ _ _ h => h) (Or.inl ⟨by rfl, ?_⟩) ?_ ?_
  rotate_left
  · intro w'
    go_simp
    with_reducible rfl
  rotate_left
  · simp only [Act.put, List.setIfInBounds_toArray, List.set_cons_zero, List.set_cons_succ, i64_w, i32_w]
    rfl
  refine take_ (i := 0) (N := some 97) (v := ?_) (a' := ?_) #[true, true, true, false, false, true, false, false, false] rfl rfl (by kernel_rfl) (fun _ _ _ h => h) (Or.inl ⟨by rfl, ?_⟩) hHeld ?_ ?_
  rotate_left
  · rintro w' ⟨s0, s1, s2, s3, s4, s5⟩
    go_simp
    with_reducible rfl
  rotate_left
  · simp only [Act.put, List.setIfInBounds_toArray, List.set_cons_zero, List.set_cons_succ, i64_w, i32_w]
    rfl
  refine take_ (i := 3) (N := some 100) (v := ?_) (a' := ?_) #[true, true, true, true, false, true, false, false, false] rfl rfl (by kernel_rfl) (fun _ _ _ h => h) (Or.inl ⟨by rfl, ?_⟩) hHeld ?_ ?_
  rotate_left
  · rintro w' ⟨s0, s1, s2, s3, s4, s5⟩
    go_simp
    with_reducible rfl
  rotate_left
  · simp only [Act.put, List.setIfInBounds_toArray, List.set_cons_zero, List.set_cons_succ, i64_w, i32_w]
    rfl
  refine one_ (i := 4) (N := some 101) #[true, true, true, true, true, true, false, false, false] rfl rfl (by kernel_rfl) (by decide) (fun K hK => ?_)
  refine goes_ Try.func18 (by kernel_rfl) rfl #[.pointer (some ⟨g, 0, none⟩), .string s] (by rfl) rfl rfl (by simp only [List.map_toArray, List.map_cons, List.map_nil]; rfl) ?_
  with_reducible refine (limit_Forgive.all (HP6.out.below (below_drew1 (Below.refl _ _))).st s HZ.out).mono ?_
  rintro e w7 ⟨rfl, hk7, hS7⟩
  have HB37 : Aside0 (w7.heap[B3]? = some (.cells #[.int .i64 tr, .int .u64 sp, .int .i64 mo, .int .u64 c5, .slice A5 l5.length k5] 31 (0, 0))) := ⟨(hk7.block B3 (blk_lt HB3.out) (fun hh => hh.elim HN3.out.2.1 HN3.out.2.2)).trans HB3.out⟩
  have HV7 : Aside0 (DV w7 (.slice A5 l5.length k5) l5) := ⟨DV.kept (Kd.R_below HV6.out (below_drew1 (Below.refl _ _))) (HP6.out.below (below_drew1 (Below.refl _ _))).st hk7⟩
  replace HD := Aside0.mk ((HD.out.below (below_drew1 (Below.refl _ _))).keep hk7)
  have HS7 := Aside0.mk hS7
  have r0 := (blk_cell HD.out.b2 0).trans rfl
  have r1 := (blk_cell HD.out.b2 1).trans rfl
  have r2 := (blk_cell HD.out.b2 2).trans rfl
  have r3 := (blk_cell HD.out.b2 3).trans rfl
  have r4 := (blk_cell HD.out.b2 4).trans rfl
  have rz0 := blk_frozen HD.out.b2 0
  have rz1 := blk_frozen HD.out.b2 1
  have rz2 := blk_frozen HD.out.b2 2
  have rz3 := blk_frozen HD.out.b2 3
  have rz4 := blk_frozen HD.out.b2 4
  rw [← HZZ.out]
  rw [← HE7.out, ← HC5.out] at HS7
  refine ⟨_, rfl, ?_⟩
  refine hK.out _ _ ⟨(blk_cell HB37.out 0), (blk_cell HB37.out 1), (blk_cell HB37.out 2), (blk_cell HB37.out 3), (blk_cell HB37.out 4), (blk_cell HD.out.b1 1)⟩ (fun hHeld => ?_)
  clear hK K
  refine norm_ (a' := ?_) ?_ ?_
  rotate_left
  · show Act.put _ (some 101) _ = _
    simp only [Act.put, List.setIfInBounds_toArray, List.set_cons_zero, List.set_cons_succ, i64_w, i32_w]
    rfl
  refine pure_ (i := 6) (N := some 103) (v := ?_) (a' := ?_) #[true, true, true, true, true, true, true, false, false] rfl rfl (by kernel_rfl) (fun _ _ _ h => h) (Or.inl ⟨by rfl, ?_⟩) ?_ ?_
  rotate_left
  · intro w'
    go_simp
    with_reducible rfl
  rotate_left
  · simp only [Act.put, List.setIfInBounds_toArray, List.set_cons_zero, List.set_cons_succ, i64_w, i32_w]
    rfl
  refine one_ (i := 7) (N := none) #[true, true, true, true, true, true, true, true, false] rfl rfl (by kernel_rfl) (by decide) (fun K hK => ?_)
  refine skip_ (w1 := (((((w7.setCell ⟨B2, 0, none⟩ (.int .i64 tr)).setCell ⟨B2, 1, none⟩ (.int .u64 sp)).setCell ⟨B2, 2, none⟩ (.int .i64 mo)).setCell ⟨B2, 3, none⟩ (.int .u64 c5)).setCell ⟨B2, 4, none⟩ (.slice A5 l5.length k5))) (by rfl) rfl ?_ ?_
  · go_simp
    try rfl
  refine hK.out _ _ ⟨cell_far5' HN3.out.1 (blk_cell HB37.out 0), cell_far5' HN3.out.1 (blk_cell HB37.out 1), cell_far5' HN3.out.1 (blk_cell HB37.out 2), cell_far5' HN3.out.1 (blk_cell HB37.out 3), cell_far5' HN3.out.1 (blk_cell HB37.out 4), cell_far5' HD.out.far.2.2 (blk_cell HD.out.b1 1)⟩ (fun hHeld => ?_)
  clear hK K
  refine pure_ (i := 8) (N := some 7) (v := ?_) (a' := ?_) #[true, true, true, true, true, true, true, true, true] rfl rfl (by kernel_rfl) (fun _ _ _ h => h) (Or.inl ⟨by rfl, ?_⟩) ?_ ?_
  rotate_left
  · intro w'
    go_simp
    with_reducible rfl
  rotate_left
  · simp only [Act.put, List.setIfInBounds_toArray, List.set_cons_zero, List.set_cons_succ, i64_w, i32_w]
    rfl
  refine done_ (by kernel_rfl) ?_
  go_wp2_with fail
  have HP7 : Aside0 (PairL w7 g m tr mo sp c5 (.slice A5 l5.length k5) l5 E7) := ⟨⟨HS7.out, HV7.out, HR7.out.1, HR7.out.2.1⟩⟩
  refine bodyPost_ret (results_ct rfl _ _ B2 31 #[.int .i64 tr, .int .u64 sp, .int .i64 mo, .int .u64 c5, .slice A5 l5.length k5] (0, 0) _ rfl (blk_five HD.out.b2 _ _ _ _ _) Try.underlying31 rfl size31) rfl ?_
  exact ⟨_, _, _, _, rfl, HP7.out.farB HD.out.b2 _ _ _ _ _, HD.out.kept.five HD.out.up.2.2 _ _ _ _ _, HR7.out.2.2⟩
set_option maxHeartbeats 2000000 in
set_option maxRecDepth 100000 in
theorem played_Sweep {w : World} {g m : Nat} {tr mo sp ck : Int} {v : Value} {l : List DocW} {Es : List Win} (h : PairL w g m tr mo sp ck v l Es) (hlt : (l.length : Int) < 4398046511104) (s : ByteArray) (hz : s.size ≤ 9223372036854775807) (now : Int) (hnow : 0 ≤ now ∧ now ≤ 18446744073709551615) :
    Calls Try.prog 14 #[.pointer (some ⟨g, 0, none⟩), .agg #[.int .i64 tr, .int .u64 sp, .int .i64 mo, .int .u64 ck, v], .agg #[.int .i64 5, .string s, .int .u64 now]] w (PlayedPost w g m tr mo sp l.length) := by
  obtain ⟨A, c, rfl, hcA, hCA⟩ := h.doc.view
  have HCA := Aside0.mk (And.intro hcA hCA)
  clear hcA hCA
  obtain ⟨t, ht⟩ : ∃ t, t = max now ck := ⟨_, rfl⟩
  have htB : ck ≤ t ∧ t ≤ 18446744073709551615 := by have := h.st.ckB; omega
  obtain ⟨W3, hW3⟩ : ∃ W3, W3 = (((w.alloc (.cells #[.int .i64 tr, .int .u64 sp, .int .i64 mo, .int .u64 ck, .slice A l.length c] 31)).alloc (.cells #[.int .i64 5, .string s, .int .u64 now] 35)).alloc (.cells #[.int .i64 0, .int .u64 0, .int .i64 0, .int .u64 0, .slice none 0 0] 31)) := ⟨_, rfl⟩
  have HD := Aside0.mk (Desk.start h.st.mlt tr mo sp ck (.slice A l.length c) 5 s now)
  rw [← hW3] at HD
  have hb3 : Below w.heap.size w W3 := by rw [hW3]; exact below_alloc (below_alloc (below_alloc (Below.refl _ _) _) _) _
  have HP := Aside0.mk (h.below hb3)
  have HBW := Aside0.mk hb3
  have HH := Aside0.mk h
  have HT := Aside0.mk ht
  have HTB := Aside0.mk htB
  have HLT := Aside0.mk hlt
  have HNW := Aside0.mk hnow
  have HZ := Aside0.mk hz
  have d0 := (blk_cell HD.out.b0 0).trans rfl
  have d1 := (blk_cell HD.out.b0 1).trans rfl
  have d2 := (blk_cell HD.out.b0 2).trans rfl
  have d3 := (blk_cell HD.out.b0 3).trans rfl
  have d4 := (blk_cell HD.out.b0 4).trans rfl
  have o0 := (blk_cell HD.out.b1 0).trans rfl
  have o1 := (blk_cell HD.out.b1 1).trans rfl
  have o2 := (blk_cell HD.out.b1 2).trans rfl
  have r0 := (blk_cell HD.out.b2 0).trans rfl
  have r1 := (blk_cell HD.out.b2 1).trans rfl
  have r2 := (blk_cell HD.out.b2 2).trans rfl
  have r3 := (blk_cell HD.out.b2 3).trans rfl
  have r4 := (blk_cell HD.out.b2 4).trans rfl
  have rz0 := blk_frozen HD.out.b2 0
  have rz1 := blk_frozen HD.out.b2 1
  have rz2 := blk_frozen HD.out.b2 2
  have rz3 := blk_frozen HD.out.b2 3
  have rz4 := blk_frozen HD.out.b2 4
  rw [hW3] at d0 d1 d2 d3 d4 o0 o1 o2 r0 r1 r2 r3 r4 rz0 rz1 rz2 rz3 rz4
  clear h ht htB hlt hnow hz hb3
  go_enter Try.func14, Try.ntmps14
  go_wp2_with fail
  rw [← hW3]
  clear d0 d1 d2 d3 d4 o0 o1 o2 r0 r1 r2 r3 r4 rz0 rz1 rz2 rz3 rz4
  obtain ⟨B0, hB0⟩ : ∃ B0, B0 = w.heap.size := ⟨_, rfl⟩
  obtain ⟨B1, hB1⟩ : ∃ B1, B1 = w.heap.size + 1 := ⟨_, rfl⟩
  obtain ⟨B2, hB2⟩ : ∃ B2, B2 = w.heap.size + 1 + 1 := ⟨_, rfl⟩
  rw [← hB2, ← hB1, ← hB0] at HD
  rw [← hB2, ← hB1, ← hB0]
  clear hB0 hB1 hB2 hW3
  refine (ref_Sweep.all (t := t) (tr := tr) (mo := mo) HP.out.doc HT.out (HH.out.docB HTB.out.1 HTB.out.2 HLT.out)).mono ?_
  rintro x w5 ⟨rfl, hb5⟩
  have hV5 := Kd.R_below HP.out.doc hb5
  obtain ⟨l5, hl5⟩ : ∃ l5, l5 = l := ⟨_, rfl⟩
  obtain ⟨c5, hc5⟩ : ∃ c5, c5 = t := ⟨_, rfl⟩
  obtain ⟨A5, hA5⟩ : ∃ A5, A5 = A := ⟨_, rfl⟩
  obtain ⟨k5, hk5⟩ : ∃ k5, k5 = c := ⟨_, rfl⟩
  obtain ⟨E7, hE7⟩ : ∃ E7, E7 = Es.filter (al sp t) := ⟨_, rfl⟩
  have hln := (HH.out.permAt HTB.out.1).length_eq
  obtain ⟨z, hz⟩ : ∃ z, z = ((Es.filter (al sp t)).length : Int) := ⟨_, rfl⟩
  rw [hln, ← hz]
  have HR7 : Aside0 (RelL tr mo sp c5 (l5.map toW) E7 ∧ (∀ x, x ∈ l5 → 0 ≤ x.f2) ∧ l5.length ≤ l.length + 1) := ⟨by rw [hl5, hc5, hE7]; exact ⟨HH.out.rel.later HTB.out.1, HH.out.cnt, Nat.le_succ _⟩⟩
  have HZZ := Aside0.mk hz
  have HE7 := Aside0.mk hE7
  have HC5 := Aside0.mk hc5
  rw [← hc5]
  rw [← hl5, ← hA5, ← hk5] at hV5
  have hN5 := congrArg List.length hl5
  rw [← hN5, ← hA5, ← hk5]
  clear hl5 hz hE7 hc5 hA5 hk5 hln hN5
  replace HD := Aside0.mk (HD.out.below hb5)
  obtain ⟨W6, hW6⟩ : ∃ W6, W6 = w5.alloc (.cells #[.int .i64 tr, .int .u64 sp, .int .i64 mo, .int .u64 c5, .slice A5 l5.length k5] 31) := ⟨_, rfl⟩
  have q6 : Below w5.heap.size w5 W6 := by rw [hW6]; exact below_alloc (Below.refl _ _) _
  have HLX : Aside0 (B2 < w5.heap.size ∧ w.heap.size ≤ w5.heap.size) := ⟨⟨blk_lt HD.out.b2, HD.out.kept.size⟩⟩
  have HB3 : Aside0 (W6.heap[w5.heap.size]? = some (.cells #[.int .i64 tr, .int .u64 sp, .int .i64 mo, .int .u64 c5, .slice A5 l5.length k5] 31 (0, 0))) := ⟨by rw [hW6]; exact blk_new _ _⟩
  replace HD := Aside0.mk (HD.out.below q6)
  have HP6 := Aside0.mk ((HP.out.below hb5).below q6)
  have HV6 := Aside0.mk (Kd.R_below hV5 q6)
  clear q6 hb5 hV5 HP
  go_wp2_with fail
  rw [← hW6]
  obtain ⟨B3, hB3⟩ : ∃ B3, B3 = w5.heap.size := ⟨_, rfl⟩
  have HN3 : Aside0 (B3 ≠ B2 ∧ B3 ≠ g ∧ B3 ≠ m) := ⟨by have h1 := HLX.out; have h2 := HD.out.low; omega⟩
  rw [← hB3] at HB3 ⊢
  clear hB3 hW6
  have d0 := (blk_cell HB3.out 0).trans rfl
  have d1 := (blk_cell HB3.out 1).trans rfl
  have d2 := (blk_cell HB3.out 2).trans rfl
  have d3 := (blk_cell HB3.out 3).trans rfl
  have d4 := (blk_cell HB3.out 4).trans rfl
  have o0 := (blk_cell HD.out.b1 0).trans rfl
  have o1 := (blk_cell HD.out.b1 1).trans rfl
  have o2 := (blk_cell HD.out.b1 2).trans rfl
  have bz : (z == z) = true := by simp
  refine start_ (n := 9) (S := fun w' => w'.cell? ⟨B3, 0, none⟩ = some (.int .i64 tr) ∧ w'.cell? ⟨B3, 1, none⟩ = some (.int .u64 sp) ∧ w'.cell? ⟨B3, 2, none⟩ = some (.int .i64 mo) ∧ w'.cell? ⟨B3, 3, none⟩ = some (.int .u64 c5) ∧ w'.cell? ⟨B3, 4, none⟩ = some (.slice A5 l5.length k5) ∧ w'.cell? ⟨B1, 2, none⟩ = some (.int .u64 now)) (ds := []) #[false, false, false, false, false, false, false, false, false] (by kernel_rfl) rfl rfl ⟨d0, d1, d2, d3, d4, o2⟩ (fun hHeld => ?_)
  refine pure_ (i := 1) (N := some 114) (v := ?_) (a' := ?_) #[false, true, false, false, false, false, false, false, false] rfl rfl (by kernel_rfl) (fun _ _ _ h => h) (Or.inl ⟨by rfl, ?_⟩) ?_ ?_
  rotate_left
  · intro w'
    go_simp
    with_reducible rfl
  rotate_left
  · simp only [Act.put, List.setIfInBounds_toArray, List.set_cons_zero, List.set_cons_succ, i64_w, i32_w]
    rfl
  refine pure_ (i := 2) (N := some 115) (v := ?_) (a' := ?_) #[false, true, true, false, false, false, false, false, false] rfl rfl (by kernel_rfl) (fun _ _ _ h => h) (Or.inl ⟨by rfl, ?_⟩) ?_ ?_
  rotate_left
  · intro w'
    go_simp
    with_reducible rfl
  rotate_left
  · simp only [Act.put, List.setIfInBounds_toArray, List.set_cons_zero, List.set_cons_succ, i64_w, i32_w]
    rfl
  refine pure_ (i := 5) (N := some 118) (v := ?_) (a' := ?_) #[false, true, true, false, false, true, false, false, false] rfl rfl (by kernel_rfl) (fun _ _ _ h => h) (Or.inl ⟨by rfl, ?_⟩) ?_ ?_
  rotate_left
  · intro w'
    go_simp
    with_reducible rfl
  rotate_left
  · simp only [Act.put, List.setIfInBounds_toArray, List.set_cons_zero, List.set_cons_succ, i64_w, i32_w]
    rfl
  refine take_ (i := 0) (N := some 113) (v := ?_) (a' := ?_) #[true, true, true, false, false, true, false, false, false] rfl rfl (by kernel_rfl) (fun _ _ _ h => h) (Or.inl ⟨by rfl, ?_⟩) hHeld ?_ ?_
  rotate_left
  · rintro w' ⟨s0, s1, s2, s3, s4, s5⟩
    go_simp
    with_reducible rfl
  rotate_left
  · simp only [Act.put, List.setIfInBounds_toArray, List.set_cons_zero, List.set_cons_succ, i64_w, i32_w]
    rfl
  refine take_ (i := 3) (N := some 116) (v := ?_) (a' := ?_) #[true, true, true, true, false, true, false, false, false] rfl rfl (by kernel_rfl) (fun _ _ _ h => h) (Or.inl ⟨by rfl, ?_⟩) hHeld ?_ ?_
  rotate_left
  · rintro w' ⟨s0, s1, s2, s3, s4, s5⟩
    go_simp
    with_reducible rfl
  rotate_left
  · simp only [Act.put, List.setIfInBounds_toArray, List.set_cons_zero, List.set_cons_succ, i64_w, i32_w]
    rfl
  refine one_ (i := 4) (N := some 117) #[true, true, true, true, true, true, false, false, false] rfl rfl (by kernel_rfl) (by decide) (fun K hK => ?_)
  refine goes_ Try.func12 (by kernel_rfl) rfl #[.pointer (some ⟨g, 0, none⟩), .int .u64 now] (by rfl) rfl rfl (by simp only [List.map_toArray, List.map_cons, List.map_nil]; rfl) ?_
  with_reducible refine (limit_Sweep.all (HP6.out.below (below_drew1 (Below.refl _ _))).st now HNW.out t HT.out).mono ?_
  rintro e w7 ⟨rfl, hk7, hS7⟩
  have HB37 : Aside0 (w7.heap[B3]? = some (.cells #[.int .i64 tr, .int .u64 sp, .int .i64 mo, .int .u64 c5, .slice A5 l5.length k5] 31 (0, 0))) := ⟨(hk7.block B3 (blk_lt HB3.out) (fun hh => hh.elim HN3.out.2.1 HN3.out.2.2)).trans HB3.out⟩
  have HV7 : Aside0 (DV w7 (.slice A5 l5.length k5) l5) := ⟨DV.kept (Kd.R_below HV6.out (below_drew1 (Below.refl _ _))) (HP6.out.below (below_drew1 (Below.refl _ _))).st hk7⟩
  replace HD := Aside0.mk ((HD.out.below (below_drew1 (Below.refl _ _))).keep hk7)
  have HS7 := Aside0.mk hS7
  have r0 := (blk_cell HD.out.b2 0).trans rfl
  have r1 := (blk_cell HD.out.b2 1).trans rfl
  have r2 := (blk_cell HD.out.b2 2).trans rfl
  have r3 := (blk_cell HD.out.b2 3).trans rfl
  have r4 := (blk_cell HD.out.b2 4).trans rfl
  have rz0 := blk_frozen HD.out.b2 0
  have rz1 := blk_frozen HD.out.b2 1
  have rz2 := blk_frozen HD.out.b2 2
  have rz3 := blk_frozen HD.out.b2 3
  have rz4 := blk_frozen HD.out.b2 4
  rw [← HZZ.out]
  rw [← HE7.out, ← HC5.out] at HS7
  refine ⟨_, rfl, ?_⟩
  refine hK.out _ _ ⟨(blk_cell HB37.out 0), (blk_cell HB37.out 1), (blk_cell HB37.out 2), (blk_cell HB37.out 3), (blk_cell HB37.out 4), (blk_cell HD.out.b1 2)⟩ (fun hHeld => ?_)
  clear hK K
  refine norm_ (a' := ?_) ?_ ?_
  rotate_left
  · show Act.put _ (some 117) _ = _
    simp only [Act.put, List.setIfInBounds_toArray, List.set_cons_zero, List.set_cons_succ, i64_w, i32_w]
    rfl
  refine pure_ (i := 6) (N := some 119) (v := ?_) (a' := ?_) #[true, true, true, true, true, true, true, false, false] rfl rfl (by kernel_rfl) (fun _ _ _ h => h) (Or.inl ⟨by rfl, ?_⟩) ?_ ?_
  rotate_left
  · intro w'
    go_simp
    with_reducible rfl
  rotate_left
  · simp only [Act.put, List.setIfInBounds_toArray, List.set_cons_zero, List.set_cons_succ, i64_w, i32_w]
    rfl
  refine one_ (i := 7) (N := none) #[true, true, true, true, true, true, true, true, false] rfl rfl (by kernel_rfl) (by decide) (fun K hK => ?_)
  refine skip_ (w1 := (((((w7.setCell ⟨B2, 0, none⟩ (.int .i64 tr)).setCell ⟨B2, 1, none⟩ (.int .u64 sp)).setCell ⟨B2, 2, none⟩ (.int .i64 mo)).setCell ⟨B2, 3, none⟩ (.int .u64 c5)).setCell ⟨B2, 4, none⟩ (.slice A5 l5.length k5))) (by rfl) rfl ?_ ?_
  · go_simp
    try rfl
  refine hK.out _ _ ⟨cell_far5' HN3.out.1 (blk_cell HB37.out 0), cell_far5' HN3.out.1 (blk_cell HB37.out 1), cell_far5' HN3.out.1 (blk_cell HB37.out 2), cell_far5' HN3.out.1 (blk_cell HB37.out 3), cell_far5' HN3.out.1 (blk_cell HB37.out 4), cell_far5' HD.out.far.2.2 (blk_cell HD.out.b1 2)⟩ (fun hHeld => ?_)
  clear hK K
  refine pure_ (i := 8) (N := some 7) (v := ?_) (a' := ?_) #[true, true, true, true, true, true, true, true, true] rfl rfl (by kernel_rfl) (fun _ _ _ h => h) (Or.inl ⟨by rfl, ?_⟩) ?_ ?_
  rotate_left
  · intro w'
    go_simp
    with_reducible rfl
  rotate_left
  · simp only [Act.put, List.setIfInBounds_toArray, List.set_cons_zero, List.set_cons_succ, i64_w, i32_w]
    rfl
  refine done_ (by kernel_rfl) ?_
  go_wp2_with fail
  have HP7 : Aside0 (PairL w7 g m tr mo sp c5 (.slice A5 l5.length k5) l5 E7) := ⟨⟨HS7.out, HV7.out, HR7.out.1, HR7.out.2.1⟩⟩
  refine bodyPost_ret (results_ct rfl _ _ B2 31 #[.int .i64 tr, .int .u64 sp, .int .i64 mo, .int .u64 c5, .slice A5 l5.length k5] (0, 0) _ rfl (blk_five HD.out.b2 _ _ _ _ _) Try.underlying31 rfl size31) rfl ?_
  exact ⟨_, _, _, _, rfl, HP7.out.farB HD.out.b2 _ _ _ _ _, HD.out.kept.five HD.out.up.2.2 _ _ _ _ _, HR7.out.2.2⟩
end Go.Proofs.Ytgdjoochbgeokaa.Hand
