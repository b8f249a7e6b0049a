/- Limits: one call played: Clear, Subjects, and a call of no kind. -/
import Derived.Test.YtgdjoochbgeokaaLimBM
namespace Go.Proofs.Ytgdjoochbgeokaa.Hand
open Go.RowKit Go.Maps Go.Proofs.YtgdjoochbgeokaaW.PrintWords Go.Proofs.YtgdjoochbgeokaaW.PrintLast Go.Proofs.YtgdjoochbgeokaaW.PrintMore Go.Proofs.Ytgdjoochbgeokaa.Q Go.Proofs.Ytgdjoochbgeokaa.PLimitMost
set_option linter.unusedVariables false
set_option linter.unusedSimpArgs false
set_option maxHeartbeats 2000000 in
set_option maxRecDepth 100000 in
theorem ref_Clear.all {w : World} {A : Option Addr} {n c : Nat} {tr sp mo ck : Int} :
    Calls Try.prog 28 #[(.agg #[.int .i64 tr, .int .u64 sp, .int .i64 mo, .int .u64 ck, .slice A n c])] w fun e w' => e = .returned (.agg #[.int .i64 tr, .int .u64 sp, .int .i64 mo, .int .u64 0, .slice none 0 0]) ∧ Below w.heap.size w w' := by
  obtain ⟨W1, hW1⟩ : ∃ W1, W1 = (w.alloc (.cells #[.int .i64 tr, .int .u64 sp, .int .i64 mo, .int .u64 ck, .slice A n c] 31)).alloc (.cells #[.int .i64 0, .int .u64 0, .int .i64 0, .int .u64 0, .slice none 0 0] 31) := ⟨_, rfl⟩
  have s1 : (w.alloc (.cells #[.int .i64 tr, .int .u64 sp, .int .i64 mo, .int .u64 ck, .slice A n c] 31)).heap.size = w.heap.size + 1 := by simp
  have h0 : W1.heap[w.heap.size]? = some (.cells #[.int .i64 tr, .int .u64 sp, .int .i64 mo, .int .u64 ck, .slice A n c] 31 (0, 0)) := by rw [hW1]; exact blk_alloc (blk_new w (.cells #[.int .i64 tr, .int .u64 sp, .int .i64 mo, .int .u64 ck, .slice A n c] 31 (0, 0))) _
  have h1 : W1.heap[w.heap.size + 1]? = some (.cells #[.int .i64 0, .int .u64 0, .int .i64 0, .int .u64 0, .slice none 0 0] 31 (0, 0)) := by rw [hW1, ← s1]; exact blk_new _ (.cells #[.int .i64 0, .int .u64 0, .int .i64 0, .int .u64 0, .slice none 0 0] 31 (0, 0))
  have HB1 := Aside0.mk h1
  have HK : Aside0 (Below w.heap.size w W1) := ⟨by rw [hW1]; exact below_alloc (below_alloc (Below.refl _ _) _) _⟩
  have d0 := (blk_cell h0 0).trans rfl
  have d1 := (blk_cell h0 1).trans rfl
  have d2 := (blk_cell h0 2).trans rfl
  have d3 := (blk_cell h0 3).trans rfl
  have d4 := (blk_cell h0 4).trans rfl
  have e0 := (blk_cell h1 0).trans rfl
  have e1 := (blk_cell h1 1).trans rfl
  have e2 := (blk_cell h1 2).trans rfl
  have e3 := (blk_cell h1 3).trans rfl
  have e4 := (blk_cell h1 4).trans rfl
  have ez0 := blk_frozen h1 0
  have ez1 := blk_frozen h1 1
  have ez2 := blk_frozen h1 2
  have ez3 := blk_frozen h1 3
  have ez4 := blk_frozen h1 4
  rw [hW1] at d0 d1 d2 d3 d4 e0 e1 e2 e3 e4 ez0 ez1 ez2 ez3 ez4
  clear h0 h1 s1
  go_enter Try.func28, Try.ntmps28
  go_wp2_with fail
  clear d0 d1 d2 d3 d4 e0 e1 e2 e3 e4 ez0 ez1 ez2 ez3 ez4 hW1
  have s1 : (w.alloc (.cells #[.int .i64 tr, .int .u64 sp, .int .i64 mo, .int .u64 ck, .slice A n c] 31)).heap.size = w.heap.size + 1 := by simp
  have hq : ((w.alloc (.cells #[.int .i64 tr, .int .u64 sp, .int .i64 mo, .int .u64 ck, .slice A n c] 31)).alloc (.cells #[.int .i64 tr, .int .u64 sp, .int .i64 mo, .int .u64 0, .slice none 0 0] 31)).heap[w.heap.size + 1]? = some (.cells #[.int .i64 tr, .int .u64 sp, .int .i64 mo, .int .u64 0, .slice none 0 0] 31 (0, 0)) := by rw [← s1]; exact blk_new _ _
  refine bodyPost_ret (results_cell_row rfl _ _ (w.heap.size + 1) 31 #[.int .i64 tr, .int .u64 sp, .int .i64 mo, .int .u64 0, .slice none 0 0] (0, 0) _ rfl hq Try.underlying31 rfl size31) rfl ?_
  exact ⟨rfl, below_alloc (below_alloc (Below.refl _ _) _) _⟩
set_option maxHeartbeats 2000000 in
set_option maxRecDepth 100000 in
theorem played_Clear {w : World} {g m : Nat} {tr mo sp ck : Int} {v : Value} {l : List DocW} {Es : List Win} (h : PairL w g m tr mo sp ck v l Es) (hlt : (l.length : Int) < 4398046511104) (s : ByteArray) (hz : s.size ≤ 9223372036854775807) (now : Int) (hnow : 0 ≤ now ∧ now ≤ 18446744073709551615) :
    Calls Try.prog 14 #[.pointer (some ⟨g, 0, none⟩), .agg #[.int .i64 tr, .int .u64 sp, .int .i64 mo, .int .u64 ck, v], .agg #[.int .i64 7, .string s, .int .u64 now]] w (PlayedPost w g m tr mo sp l.length) := by
  obtain ⟨A, c, rfl, hcA, hCA⟩ := h.doc.view
  have HCA := Aside0.mk (And.intro hcA hCA)
  clear hcA hCA
  obtain ⟨t, ht⟩ : ∃ t, t = max now ck := ⟨_, rfl⟩
  have htB : ck ≤ t ∧ t ≤ 18446744073709551615 := by have := h.st.ckB; omega
  obtain ⟨W3, hW3⟩ : ∃ W3, W3 = (((w.alloc (.cells #[.int .i64 tr, .int .u64 sp, .int .i64 mo, .int .u64 ck, .slice A l.length c] 31)).alloc (.cells #[.int .i64 7, .string s, .int .u64 now] 35)).alloc (.cells #[.int .i64 0, .int .u64 0, .int .i64 0, .int .u64 0, .slice none 0 0] 31)) := ⟨_, rfl⟩
  have HD := Aside0.mk (Desk.start h.st.mlt tr mo sp ck (.slice A l.length c) 7 s now)
  rw [← hW3] at HD
  have hb3 : Below w.heap.size w W3 := by rw [hW3]; exact below_alloc (below_alloc (below_alloc (Below.refl _ _) _) _) _
  have HP := Aside0.mk (h.below hb3)
  have HBW := Aside0.mk hb3
  have HH := Aside0.mk h
  have HT := Aside0.mk ht
  have HTB := Aside0.mk htB
  have HLT := Aside0.mk hlt
  have HNW := Aside0.mk hnow
  have HZ := Aside0.mk hz
  have d0 := (blk_cell HD.out.b0 0).trans rfl
  have d1 := (blk_cell HD.out.b0 1).trans rfl
  have d2 := (blk_cell HD.out.b0 2).trans rfl
  have d3 := (blk_cell HD.out.b0 3).trans rfl
  have d4 := (blk_cell HD.out.b0 4).trans rfl
  have o0 := (blk_cell HD.out.b1 0).trans rfl
  have o1 := (blk_cell HD.out.b1 1).trans rfl
  have o2 := (blk_cell HD.out.b1 2).trans rfl
  have r0 := (blk_cell HD.out.b2 0).trans rfl
  have r1 := (blk_cell HD.out.b2 1).trans rfl
  have r2 := (blk_cell HD.out.b2 2).trans rfl
  have r3 := (blk_cell HD.out.b2 3).trans rfl
  have r4 := (blk_cell HD.out.b2 4).trans rfl
  have rz0 := blk_frozen HD.out.b2 0
  have rz1 := blk_frozen HD.out.b2 1
  have rz2 := blk_frozen HD.out.b2 2
  have rz3 := blk_frozen HD.out.b2 3
  have rz4 := blk_frozen HD.out.b2 4
  rw [hW3] at d0 d1 d2 d3 d4 o0 o1 o2 r0 r1 r2 r3 r4 rz0 rz1 rz2 rz3 rz4
  clear h ht htB hlt hnow hz hb3
  go_enter Try.func14, Try.ntmps14
  go_wp2_with fail
  rw [← hW3]
  clear d0 d1 d2 d3 d4 o0 o1 o2 r0 r1 r2 r3 r4 rz0 rz1 rz2 rz3 rz4
  obtain ⟨B0, hB0⟩ : ∃ B0, B0 = w.heap.size := ⟨_, rfl⟩
  obtain ⟨B1, hB1⟩ : ∃ B1, B1 = w.heap.size + 1 := ⟨_, rfl⟩
  obtain ⟨B2, hB2⟩ : ∃ B2, B2 = w.heap.size + 1 + 1 := ⟨_, rfl⟩
  rw [← hB2, ← hB1, ← hB0] at HD
  rw [← hB2, ← hB1, ← hB0]
  clear hB0 hB1 hB2 hW3
  refine (limit_Clear.all HP.out.st).mono ?_
  rintro x w4 ⟨⟨v4, rfl⟩, hk4, hS4⟩
  replace HD := Aside0.mk (HD.out.keep hk4)
  have HS4 := Aside0.mk hS4
  clear hk4 hS4
  have d0 := (blk_cell HD.out.b0 0).trans rfl
  have d1 := (blk_cell HD.out.b0 1).trans rfl
  have d2 := (blk_cell HD.out.b0 2).trans rfl
  have d3 := (blk_cell HD.out.b0 3).trans rfl
  have d4 := (blk_cell HD.out.b0 4).trans rfl
  go_wp2_with fail
  clear d0 d1 d2 d3 d4
  refine ref_Clear.all.mono ?_
  rintro x w5 ⟨rfl, hb5⟩
  replace HD := Aside0.mk (HD.out.below hb5)
  have HP5 : Aside0 (PairL w5 g m tr mo sp 0 (.slice none 0 0) [] []) := ⟨⟨HS4.out.below hb5, Kd.R_nil _ _ _ _ _, RelL.empty (by have := HH.out.st.moB; omega), fun x hx => absurd hx List.not_mem_nil⟩⟩
  clear hb5
  have r0 := (blk_cell HD.out.b2 0).trans rfl
  have r1 := (blk_cell HD.out.b2 1).trans rfl
  have r2 := (blk_cell HD.out.b2 2).trans rfl
  have r3 := (blk_cell HD.out.b2 3).trans rfl
  have r4 := (blk_cell HD.out.b2 4).trans rfl
  have rz0 := blk_frozen HD.out.b2 0
  have rz1 := blk_frozen HD.out.b2 1
  have rz2 := blk_frozen HD.out.b2 2
  have rz3 := blk_frozen HD.out.b2 3
  have rz4 := blk_frozen HD.out.b2 4
  go_wp2_with fail
  refine bodyPost_ret (results_ct rfl _ _ B2 31 #[.int .i64 tr, .int .u64 sp, .int .i64 mo, .int .u64 0, .slice none 0 0] (0, 0) _ rfl (blk_five HD.out.b2 _ _ _ _ _) Try.underlying31 rfl size31) rfl ?_
  exact ⟨_, _, _, _, rfl, HP5.out.farB HD.out.b2 _ _ _ _ _, HD.out.kept.five HD.out.up.2.2 _ _ _ _ _, Nat.zero_le _⟩
set_option maxHeartbeats 2000000 in
set_option maxRecDepth 100000 in
theorem played_other {w : World} {g m : Nat} {tr mo sp ck : Int} {v : Value} {l : List DocW} {Es : List Win} (h : PairL w g m tr mo sp ck v l Es) (hlt : (l.length : Int) < 4398046511104) (s : ByteArray) (hz : s.size ≤ 9223372036854775807) (now : Int) (hnow : 0 ≤ now ∧ now ≤ 18446744073709551615) (k : Int) (h1 : k ≠ 1) ( h2 : k ≠ 2) ( h3 : k ≠ 3) ( h4 : k ≠ 4) ( h5 : k ≠ 5) ( h6 : k ≠ 6) ( h7 : k ≠ 7) :
    Calls Try.prog 14 #[.pointer (some ⟨g, 0, none⟩), .agg #[.int .i64 tr, .int .u64 sp, .int .i64 mo, .int .u64 ck, v], .agg #[.int .i64 k, .string s, .int .u64 now]] w (PlayedPost w g m tr mo sp l.length) := by
  obtain ⟨A, c, rfl, hcA, hCA⟩ := h.doc.view
  have HCA := Aside0.mk (And.intro hcA hCA)
  clear hcA hCA
  obtain ⟨t, ht⟩ : ∃ t, t = max now ck := ⟨_, rfl⟩
  have htB : ck ≤ t ∧ t ≤ 18446744073709551615 := by have := h.st.ckB; omega
  obtain ⟨W3, hW3⟩ : ∃ W3, W3 = (((w.alloc (.cells #[.int .i64 tr, .int .u64 sp, .int .i64 mo, .int .u64 ck, .slice A l.length c] 31)).alloc (.cells #[.int .i64 k, .string s, .int .u64 now] 35)).alloc (.cells #[.int .i64 0, .int .u64 0, .int .i64 0, .int .u64 0, .slice none 0 0] 31)) := ⟨_, rfl⟩
  have HD := Aside0.mk (Desk.start h.st.mlt tr mo sp ck (.slice A l.length c) k s now)
  rw [← hW3] at HD
  have hb3 : Below w.heap.size w W3 := by rw [hW3]; exact below_alloc (below_alloc (below_alloc (Below.refl _ _) _) _) _
  have HP := Aside0.mk (h.below hb3)
  have HBW := Aside0.mk hb3
  have HH := Aside0.mk h
  have HT := Aside0.mk ht
  have HTB := Aside0.mk htB
  have HLT := Aside0.mk hlt
  have HNW := Aside0.mk hnow
  have HZ := Aside0.mk hz
  have d0 := (blk_cell HD.out.b0 0).trans rfl
  have d1 := (blk_cell HD.out.b0 1).trans rfl
  have d2 := (blk_cell HD.out.b0 2).trans rfl
  have d3 := (blk_cell HD.out.b0 3).trans rfl
  have d4 := (blk_cell HD.out.b0 4).trans rfl
  have o0 := (blk_cell HD.out.b1 0).trans rfl
  have o1 := (blk_cell HD.out.b1 1).trans rfl
  have o2 := (blk_cell HD.out.b1 2).trans rfl
  have r0 := (blk_cell HD.out.b2 0).trans rfl
  have r1 := (blk_cell HD.out.b2 1).trans rfl
  have r2 := (blk_cell HD.out.b2 2).trans rfl
  have r3 := (blk_cell HD.out.b2 3).trans rfl
  have r4 := (blk_cell HD.out.b2 4).trans rfl
  have rz0 := blk_frozen HD.out.b2 0
  have rz1 := blk_frozen HD.out.b2 1
  have rz2 := blk_frozen HD.out.b2 2
  have rz3 := blk_frozen HD.out.b2 3
  have rz4 := blk_frozen HD.out.b2 4
  rw [hW3] at d0 d1 d2 d3 d4 o0 o1 o2 r0 r1 r2 r3 r4 rz0 rz1 rz2 rz3 rz4
  clear h ht htB hlt hnow hz hb3
  have b1 : (k == 1) = false := beq_eq_false_iff_ne.mpr h1
  have b2 : (k == 2) = false := beq_eq_false_iff_ne.mpr h2
  have b3 : (k == 3) = false := beq_eq_false_iff_ne.mpr h3
  have b4 : (k == 4) = false := beq_eq_false_iff_ne.mpr h4
  have b5 : (k == 5) = false := beq_eq_false_iff_ne.mpr h5
  have b6 : (k == 6) = false := beq_eq_false_iff_ne.mpr h6
  have b7 : (k == 7) = false := beq_eq_false_iff_ne.mpr h7
  clear h1 h2 h3 h4 h5 h6 h7
  go_enter Try.func14, Try.ntmps14
  go_wp2_with fail
  clear d0 d1 d2 d3 d4 o0 o1 o2 r0 r1 r2 r3 r4 rz0 rz1 rz2 rz3 rz4
  have s2 : ((w.alloc (.cells #[.int .i64 tr, .int .u64 sp, .int .i64 mo, .int .u64 ck, .slice A l.length c] 31)).alloc (.cells #[.int .i64 k, .string s, .int .u64 now] 35)).heap.size = w.heap.size + 1 + 1 := by simp
  have hq : (((w.alloc (.cells #[.int .i64 tr, .int .u64 sp, .int .i64 mo, .int .u64 ck, .slice A l.length c] 31)).alloc (.cells #[.int .i64 k, .string s, .int .u64 now] 35)).alloc (.cells #[.int .i64 tr, .int .u64 sp, .int .i64 mo, .int .u64 ck, .slice A l.length c] 31)).heap[w.heap.size + 1 + 1]? = some (.cells #[.int .i64 tr, .int .u64 sp, .int .i64 mo, .int .u64 ck, .slice A l.length c] 31 (0, 0)) := by rw [← s2]; exact blk_new _ _
  refine bodyPost_ret (results_ct rfl _ _ (w.heap.size + 1 + 1) 31 #[.int .i64 tr, .int .u64 sp, .int .i64 mo, .int .u64 ck, .slice A l.length c] (0, 0) _ rfl hq Try.underlying31 rfl size31) rfl ?_
  have hbx := below_alloc (below_alloc (below_alloc (Below.refl w.heap.size w) (.cells #[.int .i64 tr, .int .u64 sp, .int .i64 mo, .int .u64 ck, .slice A l.length c] 31)) (.cells #[.int .i64 k, .string s, .int .u64 now] 35)) (.cells #[.int .i64 tr, .int .u64 sp, .int .i64 mo, .int .u64 ck, .slice A l.length c] 31)
  exact ⟨_, _, _, _, rfl, HH.out.below hbx, KeptL.of_below hbx, Nat.le_succ _⟩
end Go.Proofs.Ytgdjoochbgeokaa.Hand
