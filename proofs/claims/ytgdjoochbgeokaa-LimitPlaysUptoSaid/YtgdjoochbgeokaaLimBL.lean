/- Limits: one call played: Try, Left, Wait. -/
import Derived.Test.YtgdjoochbgeokaaLimBK
namespace Go.Proofs.Ytgdjoochbgeokaa.Hand
open Go.RowKit Go.Maps Go.Proofs.YtgdjoochbgeokaaW.PrintWords Go.Proofs.YtgdjoochbgeokaaW.PrintLast Go.Proofs.YtgdjoochbgeokaaW.PrintMore Go.Proofs.Ytgdjoochbgeokaa.Q Go.Proofs.Ytgdjoochbgeokaa.PLimitMost
set_option linter.unusedVariables false
set_option linter.unusedSimpArgs false
theorem cell_far5' {W : World} {g : Nat} {a : Addr} {x y0 y1 y2 y3 y4 : Value} (h : a.block ≠ g) (hc : W.cell? a = some x) :
    (((((W.setCell ⟨g, 0, none⟩ y0).setCell ⟨g, 1, none⟩ y1).setCell ⟨g, 2, none⟩ y2).setCell ⟨g, 3, none⟩ y3).setCell ⟨g, 4, none⟩ y4).cell? a = some x := by
  rw [cell_far (p := ⟨g, 4, none⟩) h, cell_far (p := ⟨g, 3, none⟩) h, cell_far (p := ⟨g, 2, none⟩) h, cell_far (p := ⟨g, 1, none⟩) h, cell_far (p := ⟨g, 0, none⟩) h]
  exact hc
theorem Desk.start {w : World} {g m : Nat} (hl : g < w.heap.size ∧ m < w.heap.size) (tr mo sp ck : Int) (v : Value) (k : Int) (s : ByteArray) (now : Int) :
    Desk w (((w.alloc (.cells #[.int .i64 tr, .int .u64 sp, .int .i64 mo, .int .u64 ck, v] 31)).alloc (.cells #[.int .i64 k, .string s, .int .u64 now] 35)).alloc (.cells #[.int .i64 0, .int .u64 0, .int .i64 0, .int .u64 0, .slice none 0 0] 31)) w.heap.size (w.heap.size + 1) (w.heap.size + 1 + 1) g m tr mo sp ck v k s now := by
  have s1 : (w.alloc (.cells #[.int .i64 tr, .int .u64 sp, .int .i64 mo, .int .u64 ck, v] 31)).heap.size = w.heap.size + 1 := by simp
  have s2 : ((w.alloc (.cells #[.int .i64 tr, .int .u64 sp, .int .i64 mo, .int .u64 ck, v] 31)).alloc (.cells #[.int .i64 k, .string s, .int .u64 now] 35)).heap.size = w.heap.size + 1 + 1 := by simp
  refine ⟨?_, ?_, ?_, ?_, ⟨by omega, by omega, by omega⟩, ⟨by omega, by omega, by omega⟩, hl⟩
  · exact blk_alloc (blk_alloc (blk_new w (.cells #[.int .i64 tr, .int .u64 sp, .int .i64 mo, .int .u64 ck, v] 31 (0, 0))) _) _
  · rw [← s1]; exact blk_alloc (blk_new _ (.cells #[.int .i64 k, .string s, .int .u64 now] 35 (0, 0))) _
  · rw [← s2]; exact blk_new _ (.cells #[.int .i64 0, .int .u64 0, .int .i64 0, .int .u64 0, .slice none 0 0] 31 (0, 0))
  · exact (((KeptL.refl _ w).alloc _).alloc _).alloc _
set_option maxHeartbeats 2000000 in
set_option maxRecDepth 100000 in
theorem played_Try {w : World} {g m : Nat} {tr mo sp ck : Int} {v : Value} {l : List DocW} {Es : List Win} (h : PairL w g m tr mo sp ck v l Es) (hlt : (l.length : Int) < 4398046511104) (s : ByteArray) (hz : s.size ≤ 9223372036854775807) (now : Int) (hnow : 0 ≤ now ∧ now ≤ 18446744073709551615) :
    Calls Try.prog 14 #[.pointer (some ⟨g, 0, none⟩), .agg #[.int .i64 tr, .int .u64 sp, .int .i64 mo, .int .u64 ck, v], .agg #[.int .i64 1, .string s, .int .u64 now]] w (PlayedPost w g m tr mo sp l.length) := by
  obtain ⟨A, c, rfl, hcA, hCA⟩ := h.doc.view
  have HCA := Aside0.mk (And.intro hcA hCA)
  clear hcA hCA
  obtain ⟨t, ht⟩ : ∃ t, t = max now ck := ⟨_, rfl⟩
  have htB : ck ≤ t ∧ t ≤ 18446744073709551615 := by have := h.st.ckB; omega
  obtain ⟨W3, hW3⟩ : ∃ W3, W3 = (((w.alloc (.cells #[.int .i64 tr, .int .u64 sp, .int .i64 mo, .int .u64 ck, .slice A l.length c] 31)).alloc (.cells #[.int .i64 1, .string s, .int .u64 now] 35)).alloc (.cells #[.int .i64 0, .int .u64 0, .int .i64 0, .int .u64 0, .slice none 0 0] 31)) := ⟨_, rfl⟩
  have HD := Aside0.mk (Desk.start h.st.mlt tr mo sp ck (.slice A l.length c) 1 s now)
  rw [← hW3] at HD
  have hb3 : Below w.heap.size w W3 := by rw [hW3]; exact below_alloc (below_alloc (below_alloc (Below.refl _ _) _) _) _
  have HP := Aside0.mk (h.below hb3)
  have HH := Aside0.mk h
  have HT := Aside0.mk ht
  have HTB := Aside0.mk htB
  have HLT := Aside0.mk hlt
  have HNW := Aside0.mk hnow
  have HZ := Aside0.mk hz
  have d0 := (blk_cell HD.out.b0 0).trans rfl
  have d1 := (blk_cell HD.out.b0 1).trans rfl
  have d2 := (blk_cell HD.out.b0 2).trans rfl
  have d3 := (blk_cell HD.out.b0 3).trans rfl
  have d4 := (blk_cell HD.out.b0 4).trans rfl
  have o0 := (blk_cell HD.out.b1 0).trans rfl
  have o1 := (blk_cell HD.out.b1 1).trans rfl
  have o2 := (blk_cell HD.out.b1 2).trans rfl
  have r0 := (blk_cell HD.out.b2 0).trans rfl
  have r1 := (blk_cell HD.out.b2 1).trans rfl
  have r2 := (blk_cell HD.out.b2 2).trans rfl
  have r3 := (blk_cell HD.out.b2 3).trans rfl
  have r4 := (blk_cell HD.out.b2 4).trans rfl
  have rz0 := blk_frozen HD.out.b2 0
  have rz1 := blk_frozen HD.out.b2 1
  have rz2 := blk_frozen HD.out.b2 2
  have rz3 := blk_frozen HD.out.b2 3
  have rz4 := blk_frozen HD.out.b2 4
  rw [hW3] at d0 d1 d2 d3 d4 o0 o1 o2 r0 r1 r2 r3 r4 rz0 rz1 rz2 rz3 rz4
  clear h ht htB hlt hnow hz hb3
  go_enter Try.func14, Try.ntmps14
  go_wp2_with fail
  rw [← hW3]
  clear d0 d1 d2 d3 d4 o0 o1 o2 r0 r1 r2 r3 r4 rz0 rz1 rz2 rz3 rz4
  obtain ⟨B0, hB0⟩ : ∃ B0, B0 = w.heap.size := ⟨_, rfl⟩
  obtain ⟨B1, hB1⟩ : ∃ B1, B1 = w.heap.size + 1 := ⟨_, rfl⟩
  obtain ⟨B2, hB2⟩ : ∃ B2, B2 = w.heap.size + 1 + 1 := ⟨_, rfl⟩
  rw [← hB2, ← hB1, ← hB0] at HD
  rw [← hB2, ← hB1, ← hB0]
  clear hB0 hB1 hB2 hW3
  refine (limit_Try.all HP.out.st s now HNW.out t HT.out).mono ?_
  rintro x w4 ⟨rfl, hk4, hS4⟩
  replace HD := Aside0.mk (HD.out.keep hk4)
  have HV4 := Aside0.mk (HP.out.doc.kept HP.out.st hk4)
  have HS4 := Aside0.mk hS4
  clear hk4 hS4
  have d0 := (blk_cell HD.out.b0 0).trans rfl
  have d1 := (blk_cell HD.out.b0 1).trans rfl
  have d2 := (blk_cell HD.out.b0 2).trans rfl
  have d3 := (blk_cell HD.out.b0 3).trans rfl
  have d4 := (blk_cell HD.out.b0 4).trans rfl
  have o0 := (blk_cell HD.out.b1 0).trans rfl
  have o1 := (blk_cell HD.out.b1 1).trans rfl
  have o2 := (blk_cell HD.out.b1 2).trans rfl
  go_wp2_with fail
  clear d0 d1 d2 d3 d4 o0 o1 o2
  refine (ref_Try.all (t := t) HV4.out HT.out (HH.out.docB HTB.out.1 HTB.out.2 HLT.out) (HH.out.nodupAt HTB.out.1) HS4.out.trB HLT.out s).mono ?_
  rintro x w5 ⟨v5', l5, rfl, hV5, hb5, hT⟩
  obtain ⟨A5, k5, rfl, _, _⟩ := hV5.view
  have hw := whyI_perm (tr := tr) (mo := mo) (s := s) (HH.out.permAt HTB.out.1) (HH.out.nodupAt HTB.out.1)
  have hn : tryN tr mo s (opens sp t l) = tryN tr mo s (Es.filter (al sp t)) := by
    unfold tryN
    rw [hw, look_perm (HH.out.permAt HTB.out.1) (HH.out.nodupAt HTB.out.1)]
  have hcn := try_cnt HH.out.cnt hT
  have HP5 : Aside0 (PairL w5 g m tr mo sp (tryC ck t s) (.slice A5 l5.length k5) l5 (tryL tr mo t s Es (Es.filter (al sp t)))) := ⟨HS4.out.below hb5, hV5, try_rel HH.out.rel HTB.out.1 (by have := HH.out.st.spB; omega) HH.out.st.ckB.1 HH.out.st.trB.1 hT, hcn.1⟩
  have HN5 := Aside0.mk hcn.2
  rw [hn, hw]
  obtain ⟨n5, hn5⟩ : ∃ n5, n5 = tryN tr mo s (Es.filter (al sp t)) := ⟨_, rfl⟩
  obtain ⟨e5, he5⟩ : ∃ e5, e5 = whyI tr mo s (Es.filter (al sp t)) := ⟨_, rfl⟩
  obtain ⟨c5, hc5⟩ : ∃ c5, c5 = tryC ck t s := ⟨_, rfl⟩
  rw [← hc5] at HP5 ⊢
  rw [← hn5, ← he5]
  replace HD := Aside0.mk (HD.out.below hb5)
  have HLX : Aside0 (B2 < w5.heap.size) := ⟨blk_lt HD.out.b2⟩
  clear hb5 hV5 hT hw hn hcn hn5 he5 hc5 HS4 HV4 HP
  obtain ⟨W6, hW6⟩ : ∃ W6, W6 = w5.alloc (.cells #[.int .i64 tr, .int .u64 sp, .int .i64 mo, .int .u64 c5, (.slice A5 l5.length k5)] 31) := ⟨_, rfl⟩
  have q6 : Below w5.heap.size w5 W6 := by rw [hW6]; exact below_alloc (Below.refl _ _) _
  have HB3 : Aside0 (W6.heap[w5.heap.size]? = some (.cells #[.int .i64 tr, .int .u64 sp, .int .i64 mo, .int .u64 c5, (.slice A5 l5.length k5)] 31 (0, 0))) := ⟨by rw [hW6]; exact blk_new _ _⟩
  replace HD := Aside0.mk (HD.out.below q6)
  replace HP5 := Aside0.mk (HP5.out.below q6)
  clear q6
  go_wp2_with fail
  rw [← hW6]
  obtain ⟨B3, hB3⟩ : ∃ B3, B3 = w5.heap.size := ⟨_, rfl⟩
  have HN3 : Aside0 (B3 ≠ B2) := ⟨by rw [hB3]; exact Nat.ne_of_gt HLX.out⟩
  rw [← hB3] at HB3 ⊢
  clear hB3 hW6
  have d0 := (blk_cell HB3.out 0).trans rfl
  have d1 := (blk_cell HB3.out 1).trans rfl
  have d2 := (blk_cell HB3.out 2).trans rfl
  have d3 := (blk_cell HB3.out 3).trans rfl
  have d4 := (blk_cell HB3.out 4).trans rfl
  have bn : (n5 == n5) = true := by simp
  have be : (e5 == e5) = true := by simp
  refine start_ (n := 12) (S := fun w' => w'.cell? ⟨B3, 0, none⟩ = some (.int .i64 tr) ∧ w'.cell? ⟨B3, 1, none⟩ = some (.int .u64 sp) ∧ w'.cell? ⟨B3, 2, none⟩ = some (.int .i64 mo) ∧ w'.cell? ⟨B3, 3, none⟩ = some (.int .u64 c5) ∧ w'.cell? ⟨B3, 4, none⟩ = some ((.slice A5 l5.length k5))) (ds := []) #[false, false, false, false, false, false, false, false, false, false, false, false] (by kernel_rfl) rfl rfl ⟨d0, d1, d2, d3, d4⟩ (fun hHeld => ?_)
  refine pure_ (i := 1) (N := some 47) (v := ?_) (a' := ?_) #[false, true, false, false, false, false, false, false, false, false, false, false] rfl rfl (by kernel_rfl) (fun _ _ _ h => h) (Or.inl ⟨by rfl, ?_⟩) ?_ ?_
  rotate_left
  · intro w'
    go_simp
    with_reducible rfl
  rotate_left
  · simp only [Act.put, List.setIfInBounds_toArray, List.set_cons_zero, List.set_cons_succ, i64_w, i32_w]
    rfl
  refine pure_ (i := 2) (N := some 48) (v := ?_) (a' := ?_) #[false, true, true, false, false, false, false, false, false, false, false, false] rfl rfl (by kernel_rfl) (fun _ _ _ h => h) (Or.inl ⟨by rfl, ?_⟩) ?_ ?_
  rotate_left
  · intro w'
    go_simp
    with_reducible rfl
  rotate_left
  · simp only [Act.put, List.setIfInBounds_toArray, List.set_cons_zero, List.set_cons_succ, i64_w, i32_w]
    rfl
  refine pure_ (i := 3) (N := some 49) (v := ?_) (a' := ?_) #[false, true, true, true, false, false, false, false, false, false, false, false] rfl rfl (by kernel_rfl) (fun _ _ _ h => h) (Or.inl ⟨by rfl, ?_⟩) ?_ ?_
  rotate_left
  · intro w'
    go_simp
    with_reducible rfl
  rotate_left
  · simp only [Act.put, List.setIfInBounds_toArray, List.set_cons_zero, List.set_cons_succ, i64_w, i32_w]
    rfl
  refine pure_ (i := 4) (N := some 50) (v := ?_) (a' := ?_) #[false, true, true, true, true, false, false, false, false, false, false, false] rfl rfl (by kernel_rfl) (fun _ _ _ h => h) (Or.inl ⟨by rfl, ?_⟩) ?_ ?_
  rotate_left
  · intro w'
    go_simp
    with_reducible rfl
  rotate_left
  · simp only [Act.put, List.setIfInBounds_toArray, List.set_cons_zero, List.set_cons_succ, i64_w, i32_w]
    rfl
  refine pure_ (i := 5) (N := some 51) (v := ?_) (a' := ?_) #[false, true, true, true, true, true, false, false, false, false, false, false] rfl rfl (by kernel_rfl) (fun _ _ _ h => h) (Or.inl ⟨by rfl, ?_⟩) ?_ ?_
  rotate_left
  · intro w'
    go_simp
    with_reducible rfl
  rotate_left
  · simp only [Act.put, List.setIfInBounds_toArray, List.set_cons_zero, List.set_cons_succ, i64_w, i32_w]
    rfl
  refine pure_ (i := 7) (N := some 53) (v := ?_) (a' := ?_) #[false, true, true, true, true, true, false, true, false, false, false, false] rfl rfl (by kernel_rfl) (fun _ _ _ h => h) (Or.inl ⟨by rfl, ?_⟩) ?_ ?_
  rotate_left
  · intro w'
    go_simp
    with_reducible rfl
  rotate_left
  · simp only [Act.put, List.setIfInBounds_toArray, List.set_cons_zero, List.set_cons_succ, i64_w, i32_w]
    rfl
  refine take_ (i := 0) (N := some 46) (v := ?_) (a' := ?_) #[true, true, true, true, true, true, false, true, false, false, false, false] rfl rfl (by kernel_rfl) (fun _ _ _ h => h) (Or.inl ⟨by rfl, ?_⟩) hHeld ?_ ?_
  rotate_left
  · rintro w' ⟨s0, s1, s2, s3, s4⟩
    go_simp
    with_reducible rfl
  rotate_left
  · simp only [Act.put, List.setIfInBounds_toArray, List.set_cons_zero, List.set_cons_succ, i64_w, i32_w]
    rfl
  refine one_ (i := 6) (N := some 52) #[true, true, true, true, true, true, true, true, false, false, false, false] rfl rfl (by kernel_rfl) (by decide) (fun K hK => ?_)
  refine goes_ Try.func11 (by kernel_rfl) rfl #[.int .i64 e5] (by rfl) rfl rfl (by simp only [List.map_toArray, List.map_cons, List.map_nil]; rfl) ?_
  with_reducible refine (wicketlaw08_num.calls _ _ _ rfl).mono ?_
  rintro e w7 ⟨rfl, hd7⟩
  have hb7 := drawn_belowL hd7
  replace HD := Aside0.mk ((HD.out.below (below_drew1 (Below.refl _ _))).below hb7)
  replace HP5 := Aside0.mk ((HP5.out.below (below_drew1 (Below.refl _ _))).below hb7)
  have HB37 := Aside0.mk (blk_below (blk_drew HB3.out) hb7)
  have r0 := (blk_cell HD.out.b2 0).trans rfl
  have r1 := (blk_cell HD.out.b2 1).trans rfl
  have r2 := (blk_cell HD.out.b2 2).trans rfl
  have r3 := (blk_cell HD.out.b2 3).trans rfl
  have r4 := (blk_cell HD.out.b2 4).trans rfl
  have rz0 := blk_frozen HD.out.b2 0
  have rz1 := blk_frozen HD.out.b2 1
  have rz2 := blk_frozen HD.out.b2 2
  have rz3 := blk_frozen HD.out.b2 3
  have rz4 := blk_frozen HD.out.b2 4
  refine ⟨_, rfl, ?_⟩
  refine hK.out _ _ ⟨pw_cell_below hb7 hHeld.1, pw_cell_below hb7 hHeld.2.1, pw_cell_below hb7 hHeld.2.2.1, pw_cell_below hb7 hHeld.2.2.2.1, pw_cell_below hb7 hHeld.2.2.2.2⟩ (fun hHeld => ?_)
  clear hK K
  refine norm_ (a' := ?_) ?_ ?_
  rotate_left
  · show Act.put _ (some 52) _ = _
    simp only [Act.put, List.setIfInBounds_toArray, List.set_cons_zero, List.set_cons_succ, i64_w, i32_w]
    rfl
  refine pure_ (i := 8) (N := some 54) (v := ?_) (a' := ?_) #[true, true, true, true, true, true, true, true, true, false, false, false] rfl rfl (by kernel_rfl) (fun _ _ _ h => h) (Or.inl ⟨by rfl, ?_⟩) ?_ ?_
  rotate_left
  · intro w'
    go_simp
    with_reducible rfl
  rotate_left
  · simp only [Act.put, List.setIfInBounds_toArray, List.set_cons_zero, List.set_cons_succ, i64_w, i32_w]
    rfl
  refine pure_ (i := 9) (N := some 55) (v := ?_) (a' := ?_) #[true, true, true, true, true, true, true, true, true, true, false, false] rfl rfl (by kernel_rfl) (fun _ _ _ h => h) (Or.inl ⟨by rfl, ?_⟩) ?_ ?_
  rotate_left
  · intro w'
    go_simp
    with_reducible rfl
  rotate_left
  · simp only [Act.put, List.setIfInBounds_toArray, List.set_cons_zero, List.set_cons_succ, i64_w, i32_w]
    rfl
  refine one_ (i := 10) (N := none) #[true, true, true, true, true, true, true, true, true, true, true, false] rfl rfl (by kernel_rfl) (by decide) (fun K hK => ?_)
  refine skip_ (w1 := (((((w7.setCell ⟨B2, 0, none⟩ (.int .i64 tr)).setCell ⟨B2, 1, none⟩ (.int .u64 sp)).setCell ⟨B2, 2, none⟩ (.int .i64 mo)).setCell ⟨B2, 3, none⟩ (.int .u64 c5)).setCell ⟨B2, 4, none⟩ (.slice A5 l5.length k5))) (by rfl) rfl ?_ ?_
  · go_simp
    try rfl
  refine hK.out _ _ ⟨cell_far5' HN3.out (blk_cell HB37.out 0), cell_far5' HN3.out (blk_cell HB37.out 1), cell_far5' HN3.out (blk_cell HB37.out 2), cell_far5' HN3.out (blk_cell HB37.out 3), cell_far5' HN3.out (blk_cell HB37.out 4)⟩ (fun hHeld => ?_)
  clear hK K
  refine pure_ (i := 11) (N := some 7) (v := ?_) (a' := ?_) #[true, true, true, true, true, true, true, true, true, true, true, true] rfl rfl (by kernel_rfl) (fun _ _ _ h => h) (Or.inl ⟨by rfl, ?_⟩) ?_ ?_
  rotate_left
  · intro w'
    go_simp
    with_reducible rfl
  rotate_left
  · simp only [Act.put, List.setIfInBounds_toArray, List.set_cons_zero, List.set_cons_succ, i64_w, i32_w]
    rfl
  refine done_ (by kernel_rfl) ?_
  go_wp2_with fail
  refine bodyPost_ret (results_ct rfl _ _ B2 31 #[.int .i64 tr, .int .u64 sp, .int .i64 mo, .int .u64 c5, (.slice A5 l5.length k5)] (0, 0) _ rfl (blk_five HD.out.b2 _ _ _ _ _) Try.underlying31 rfl size31) rfl ?_
  exact ⟨_, _, _, _, rfl, HP5.out.farB HD.out.b2 _ _ _ _ _, HD.out.kept.five HD.out.up.2.2 _ _ _ _ _, HN5.out⟩
end Go.Proofs.Ytgdjoochbgeokaa.Hand
