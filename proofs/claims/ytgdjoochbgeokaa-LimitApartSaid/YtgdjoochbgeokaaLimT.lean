/- LimitApart: the walk. -/
import Derived.Test.YtgdjoochbgeokaaLimQ
namespace Go.Proofs.Ytgdjoochbgeokaa.Hand
open Go.RowKit Go.Maps Go.Proofs.YtgdjoochbgeokaaW.PrintWords Go.Proofs.YtgdjoochbgeokaaW.PrintLast Go.Proofs.YtgdjoochbgeokaaW.PrintMore Go.Proofs.Ytgdjoochbgeokaa.PLimitMost
set_option linter.unusedVariables false
set_option linter.unusedSimpArgs false

/-- Two limits beside a story, over what lay there. -/
structure LW2 (w wr : World) (B g m n g2 m2 n2 : Nat) (tr sp ck : Int) (cs : Array Value) (D E : DW) : Prop where
  lim : LimAt wr g m tr 4096 sp ck
  own : Owns wr m n D
  lim2 : LimAt wr g2 m2 tr 4096 sp ck
  own2 : Owns wr m2 n2 E
  box : wr.heap[B]? = some (.cells cs 25 (0, 0))
  bel : Below w.heap.size w wr
/-- They lie apart, and above. -/
structure Dis (w : World) (g m g2 m2 : Nat) : Prop where
  gg : g ≠ g2
  gm : g ≠ m2
  mg : m ≠ g2
  mm : m ≠ m2
  up : ∀ b, (b = g ∨ b = m) → w.heap.size ≤ b
  up2 : ∀ b, (b = g2 ∨ b = m2) → w.heap.size ≤ b
theorem LW2.below {w wr w2 : World} {B g m n g2 m2 n2 : Nat} {tr sp ck : Int} {cs : Array Value} {D E : DW} (h : LW2 w wr B g m n g2 m2 n2 tr sp ck cs D E) (hb : Below wr.heap.size wr w2) : LW2 w w2 B g m n g2 m2 n2 tr sp ck cs D E := ⟨h.lim.below hb, Owns.below h.own hb, h.lim2.below hb, Owns.below h.own2 hb, blk_below h.box hb, below_step h.bel hb⟩
theorem Owns.lt {w : World} {m n : Nat} {D : DW} (h : Owns w m n D) : m < w.heap.size := World.ownsMap.lt h
theorem Owns.same {w w' : World} {m n : Nat} {D : DW} (h : Owns w m n D) (e : w'.heap[m]? = w.heap[m]?) : Owns w' m n D := by
  obtain ⟨es, clock, h1, h2⟩ := h
  exact ⟨es, clock, e.trans h1, h2⟩
/-- The first one has turned: what is told of the second stands, its clock too. -/
theorem LW2.far {w wr w2 : World} {B g m n g2 m2 n2 : Nat} {tr sp ck : Int} {cs : Array Value} {D E : DW} (h : LW2 w wr B g m n g2 m2 n2 tr sp ck cs D E) (hd : Dis w g m g2 m2) (hk : KeptL (fun b => b = g ∨ b = m) wr w2) :
    LimAt w2 g2 m2 tr 4096 sp ck ∧ Owns w2 m2 n2 E ∧ w2.heap[B]? = some (.cells cs 25 (0, 0)) ∧ Below w.heap.size w w2 := by
  refine ⟨(hk.block g2 (blk_lt h.lim2) (fun hb => ?_)).trans h.lim2, Owns.same h.own2 (hk.block m2 h.own2.lt (fun hb => ?_)), (hk.block B (blk_lt h.box) (fun hb => ?_)).trans h.box, below_step2 h.bel hk hd.up⟩
  · rcases hb with hb | hb
    · exact hd.gg hb.symm
    · exact hd.mg hb.symm
  · rcases hb with hb | hb
    · exact hd.gm hb.symm
    · exact hd.mm hb.symm
  · rcases hb with rfl | rfl
    · exact blk_ne h.lim h.box (by decide) rfl
    · exact Owns.ne_cells h.own h.box rfl
theorem far2 {w wr w2 : World} {B g m n g2 m2 n2 : Nat} {tr sp ck ck2 : Int} {cs : Array Value} {D E : DW} (hL : LimAt wr g m tr 4096 sp ck) (hO : Owns wr m n D) (hL2 : LimAt wr g2 m2 tr 4096 sp ck2) (hO2 : Owns wr m2 n2 E) (hX : wr.heap[B]? = some (.cells cs 25 (0, 0))) (hB : Below w.heap.size w wr) (hd : Dis w g m g2 m2) (hk : KeptL (fun b => b = g2 ∨ b = m2) wr w2) :
    LimAt w2 g m tr 4096 sp ck ∧ Owns w2 m n D ∧ w2.heap[B]? = some (.cells cs 25 (0, 0)) ∧ Below w.heap.size w w2 := by
  refine ⟨(hk.block g (blk_lt hL) (fun hb => ?_)).trans hL, Owns.same hO (hk.block m hO.lt (fun hb => ?_)), (hk.block B (blk_lt hX) (fun hb => ?_)).trans hX, below_step2 hB hk hd.up2⟩
  · rcases hb with hb | hb
    · exact hd.gg hb
    · exact hd.gm hb
  · rcases hb with hb | hb
    · exact hd.mg hb
    · exact hd.mm hb
  · rcases hb with rfl | rfl
    · exact blk_ne hL2 hX (by decide) rfl
    · exact Owns.ne_cells hO2 hX rfl
set_option maxHeartbeats 4000000 in
set_option maxRecDepth 100000 in
theorem limitApart.walk (tr sp mo : Int) (A : Option Addr) (C : Nat) (ops : List OpT) (subject : ByteArray) (w : World) (hr : Kd.C kOp w A ops.length ops) (hsp : 0 ≤ sp ∧ sp ≤ 18446744073709551615) (hops : ∀ i, i < ops.length → 0 ≤ (opN ops i).2.2 ∧ (opN ops i).2.2 ≤ 18446744073709551615) (hlen : ops.length ≤ 9223372036854775807) :
    Calls Try.prog 4 #[.agg #[.int .i64 tr, .int .u64 sp, .int .i64 mo, .slice A ops.length C], .string subject] w fun e w' => e = .returned (.bool true) ∧ Below w.heap.size w w' := by
  have HC := Aside0.mk hr
  have HOPS := Aside0.mk hops
  have HB := Aside0.mk (below_alloc (Below.refl w.heap.size w) (.cells #[.int .i64 tr, .int .u64 sp, .int .i64 4096, .slice A ops.length C] 25))
  have HX := Aside0.mk (blk_new w (.cells #[.int .i64 tr, .int .u64 sp, .int .i64 4096, .slice A ops.length C] 25))
  have hx := blk_new w (.cells #[.int .i64 tr, .int .u64 sp, .int .i64 mo, .slice A ops.length C] 25)
  have d2 := (blk_cell hx 2).trans rfl
  have f2 := blk_frozen hx 2
  clear hr hops hsp hx
  go_enter Try.func4, Try.ntmps4
  go_wp2_with fail
  clear d2 f2
  obtain ⟨B, hB⟩ : ∃ B, B = w.heap.size := ⟨_, rfl⟩
  obtain ⟨w1, hw1⟩ : ∃ w1, w1 = w.alloc (.cells #[.int .i64 tr, .int .u64 sp, .int .i64 4096, .slice A ops.length C] 25) := ⟨_, rfl⟩
  rw [← hB, ← hw1] at HX
  rw [← hw1] at HB
  rw [← hB, ← hw1]
  clear hw1 hB
  have d0 := (blk_cell HX.out 0).trans rfl
  have d1 := (blk_cell HX.out 1).trans rfl
  have d2 := (blk_cell HX.out 2).trans rfl
  have d3 := (blk_cell HX.out 3).trans rfl
  by_cases hn : okNew tr sp 4096
  · skip
    refine start_ (n := 6) (S := fun w' => w'.cell? ⟨B, 0, none⟩ = some (.int .i64 tr) ∧ w'.cell? ⟨B, 1, none⟩ = some (.int .u64 sp) ∧ w'.cell? ⟨B, 2, none⟩ = some (.int .i64 4096) ∧ w'.cell? ⟨B, 3, none⟩ = some (.slice A ops.length C)) (ds := []) #[false, false, false, false, false, false] (by kernel_rfl) rfl rfl ⟨d0, d1, d2, d3⟩ (fun hHeld => ?_)
    refine take_ (i := 0) (N := some 16) (v := ?_) (a' := ?_) #[true, false, false, false, false, false] rfl rfl (by kernel_rfl) (fun _ _ _ h => h) (Or.inl ⟨by rfl, ?_⟩) hHeld ?_ ?_
    rotate_left
    · rintro w' ⟨s0, s1, s2, s3⟩
      go_simp
      with_reducible rfl
    rotate_left
    · simp only [Act.put, List.setIfInBounds_toArray, List.set_cons_zero, List.set_cons_succ, i64_w, i32_w]
      rfl
    refine take_ (i := 2) (N := some 18) (v := ?_) (a' := ?_) #[true, false, true, false, false, false] rfl rfl (by kernel_rfl) (fun _ _ _ h => h) (Or.inl ⟨by rfl, ?_⟩) hHeld ?_ ?_
    rotate_left
    · rintro w' ⟨s0, s1, s2, s3⟩
      go_simp
      with_reducible rfl
    rotate_left
    · simp only [Act.put, List.setIfInBounds_toArray, List.set_cons_zero, List.set_cons_succ, i64_w, i32_w]
      rfl
    refine one_ (i := 1) (N := some 17) #[true, true, true, false, false, false] rfl rfl (by kernel_rfl) (by decide) (fun K hK => ?_)
    refine goes_ Try.func7 (by kernel_rfl) rfl #[.agg #[.int .i64 tr, .int .u64 sp, .int .i64 4096, .slice A ops.length C]] (by rfl) rfl rfl (by simp only [List.map_toArray, List.map_cons, List.map_nil]; rfl) ?_
    refine (lim_made.good tr sp 4096 A ops.length C w1.drew hn).mono ?_
    rintro e w2 ⟨g, m, rfl, hL, hO, hb2, hg, hm⟩
    refine ⟨_, rfl, ?_⟩
    refine hK.out _ _ ⟨pw_cell_below hb2 hHeld.1, pw_cell_below hb2 hHeld.2.1, pw_cell_below hb2 hHeld.2.2.1, pw_cell_below hb2 hHeld.2.2.2⟩ (fun hHeld => ?_)
    clear hK K
    refine norm_ (a' := ?_) ?_ ?_
    rotate_left
    · show Act.put _ (some 17) _ = _
      simp only [Act.put, List.setIfInBounds_toArray, List.set_cons_zero, List.set_cons_succ, i64_w, i32_w]
      rfl
    refine one_ (i := 3) (N := some 19) #[true, true, true, true, false, false] rfl rfl (by kernel_rfl) (by decide) (fun K hK => ?_)
    refine goes_ Try.func7 (by kernel_rfl) rfl #[.agg #[.int .i64 tr, .int .u64 sp, .int .i64 4096, .slice A ops.length C]] (by rfl) rfl rfl (by simp only [List.map_toArray, List.map_cons, List.map_nil]; rfl) ?_
    refine (lim_made.good tr sp 4096 A ops.length C w2 hn).mono ?_
    rintro e w3 ⟨g2, m2, rfl, hL2, hO2, hb3, hg2, hm2⟩
    refine ⟨_, rfl, ?_⟩
    refine hK.out _ _ ⟨pw_cell_below hb3 hHeld.1, pw_cell_below hb3 hHeld.2.1, pw_cell_below hb3 hHeld.2.2.1, pw_cell_below hb3 hHeld.2.2.2⟩ (fun hHeld => ?_)
    clear hK K
    refine norm_ (a' := ?_) ?_ ?_
    rotate_left
    · show Act.put _ (some 19) _ = _
      simp only [Act.put, List.setIfInBounds_toArray, List.set_cons_zero, List.set_cons_succ, i64_w, i32_w]
      rfl
    refine pure_ (i := 4) (N := some 5) (v := ?_) (a' := ?_) #[true, true, true, true, true, false] rfl rfl (by kernel_rfl) (fun _ _ _ h => h) (Or.inl ⟨by rfl, ?_⟩) ?_ ?_
    rotate_left
    · intro w'
      go_simp
      with_reducible rfl
    rotate_left
    · simp only [Act.put, List.setIfInBounds_toArray, List.set_cons_zero, List.set_cons_succ, i64_w, i32_w]
      rfl
    refine pure_ (i := 5) (N := some 6) (v := ?_) (a' := ?_) #[true, true, true, true, true, true] rfl rfl (by kernel_rfl) (fun _ _ _ h => h) (Or.inl ⟨by rfl, ?_⟩) ?_ ?_
    rotate_left
    · intro w'
      go_simp
      with_reducible rfl
    rotate_left
    · simp only [Act.put, List.setIfInBounds_toArray, List.set_cons_zero, List.set_cons_succ, i64_w, i32_w]
      rfl
    refine done_ (by kernel_rfl) ?_
    have hb2' := below_step (below_drew1 (Below.refl w1.heap.size w1)) hb2
    have hdd : Dis w g m g2 m2 := by
      have hs := HB.out.size
      have e1 := blk_lt hL
      have e2 := hO.lt
      have hs2 : w1.heap.size ≤ w2.heap.size := hb2'.size
      have hg' : w1.heap.size ≤ g := hg
      have hm' : w1.heap.size ≤ m := hm
      exact ⟨by omega, by omega, by omega, by omega, fun b h => by rcases h with rfl | rfl <;> omega, fun b h => by rcases h with rfl | rfl <;> omega⟩
    have HD := Aside0.mk hdd
    have HLW := Aside0.mk (LW2.mk (hL.below hb3) (Owns.below hO hb3) hL2 hO2 (blk_below (blk_below HX.out hb2') hb3) (below_step (below_step HB.out hb2') hb3))
    have HTR := Aside0.mk (show 1 ≤ tr ∧ tr ≤ 1000000 by obtain ⟨a, b, _⟩ := hn; omega)
    clear hL hO hL2 hO2 hb2 hb3 hg hm hg2 hm2 hb2' hdd hn d0 d1 d2 d3 HX HB
    go_wp2_with fail
    refine (lim_live.calls w3).mono ?_
    rintro x w4 ⟨rfl, hb⟩
    replace HLW := Aside0.mk (HLW.out.below hb)
    clear hb
    have b3 := (blk_cell HLW.out.box 3).trans rfl
    by_cases hbig : ops.length > 4096
    · have t1 : decide ((ops.length : Int) > 4096) = true := decide_eq_true (by omega)
      clear hbig
      go_wp2_with fail
      go_ret
      exact ⟨rfl, HLW.out.bel⟩
    have t1 : decide ((ops.length : Int) > 4096) = false := decide_eq_false (by omega)
    obtain ⟨N, hN⟩ : ∃ N, N = ops.length := ⟨_, rfl⟩
    go_wp2_with fail
    rw [← hN] at HOPS hlen HLW hbig ⊢
    have HNL := Aside0.mk hN
    clear hN b3 t1
    go_loopw [9] (fun v9 wr => ∃ (i : Nat) (ck : Int) (D E : DW) (n n2 : Nat), i ≤ N ∧ v9 = .int .i64 i ∧ Aside0 (LW2 w wr B g m n g2 m2 n2 tr sp ck #[.int .i64 tr, .int .u64 sp, .int .i64 4096, .slice A N C] D E) ∧ Aside0 (Alone sp tr (ks subject) D E ck i)) (fun v9 _ => N - (intOf v9).toNat)
    case atStart => exact ⟨0, 0, .map [], .map [], _, _, Nat.zero_le _, rfl, HLW, ⟨alone_start sp tr _⟩⟩
    case round =>
      clear HLW
      obtain ⟨i, ck, D, E, n, n2, hi, rfl, HLW, HJ⟩ := hrel
      have b3 := (blk_cell HLW.out.box 3).trans rfl
      by_cases hlt : i < N
      · obtain ⟨⟨kd, s, now⟩, hop⟩ : ∃ o, o = opN ops i := ⟨_, rfl⟩
        have hoi := HOPS.out i hlt
        obtain ⟨ad, hA, o0, o1, o2⟩ := op_at (Kd.C_below HC.out HLW.out.bel) i (by rw [← HNL.out]; exact hlt)
        rw [← hop] at o0 o1 o2 hoi
        simp only at o0 o1 o2 hoi
        subst hA
        have HNOW := Aside0.mk hoi
        clear hop hoi
        have HLW4 := Aside0.mk (HLW.out.below (below_alloc (Below.refl wr.heap.size wr) (.cells #[.int .i64 kd, .string s, .int .u64 now] 35)))
        have HBO := Aside0.mk (blk_new wr (.cells #[.int .i64 kd, .string s, .int .u64 now] 35))
        go_wp2_with fail
        obtain ⟨Bo, hBo⟩ : ∃ Bo, Bo = wr.heap.size := ⟨_, rfl⟩
        obtain ⟨w4, hw4⟩ : ∃ w4, w4 = wr.alloc (.cells #[.int .i64 kd, .string s, .int .u64 now] 35) := ⟨_, rfl⟩
        rw [← hBo, ← hw4] at HBO
        rw [← hw4] at HLW4
        rw [← hBo, ← hw4]
        clear hBo hw4 o0 o1 o2 b3
        refine (limit_Try.calls g m n tr 4096 sp ck now s D w4 HLW4.out.lim HLW4.out.own HJ.out.rck HNOW.out HTR.out (by decide) HJ.out.good).mono ?_
        rintro x w5 ⟨D5, ck5, r5, e5, n5, rfl, hK, hL, hO, hS⟩
        have HFR := Aside0.mk (HLW4.out.far HD.out hK)
        have HL5 := Aside0.mk hL
        have HO5 := Aside0.mk hO
        have HS5 := Aside0.mk hS
        have HBO5 : Aside0 (w5.heap[Bo]? = some (.cells #[.int .i64 kd, .string s, .int .u64 now] 35 (0, 0))) := ⟨(hK.block Bo (blk_lt HBO.out) (fun hb => by
          rcases hb with rfl | rfl
          · exact blk_ne HLW4.out.lim HBO.out (by decide) rfl
          · exact Owns.ne_cells HLW4.out.own HBO.out rfl)).trans HBO.out⟩
        have o1 := (blk_cell HBO5.out 1).trans rfl
        have o2 := (blk_cell HBO5.out 2).trans rfl
        clear hK hL hO hS HBO HLW4 HLW
        by_cases hs : s = subject
        · subst hs
          go_wp2_with fail
          refine (limit_Try.calls g2 m2 n2 tr 4096 sp ck now s E w5 HFR.out.1 HFR.out.2.1 HJ.out.rck HNOW.out HTR.out (by decide) HJ.out.good2).mono ?_
          rintro x w6 ⟨E6, ck6, r6, e6, n6, rfl, hK, hL, hO, hS⟩
          obtain ⟨rfl, rfl, rfl, hj⟩ := HJ.out.both (by omega) HTR.out.1 HNOW.out HS5.out hS
          have HF6 := Aside0.mk (far2 HL5.out HO5.out HFR.out.1 HFR.out.2.1 HFR.out.2.2.1 HFR.out.2.2.2 HD.out hK)
          have HL6 := Aside0.mk hL
          have HO6 := Aside0.mk hO
          have HJ6 := Aside0.mk hj
          clear hK hL hO hS hj HFR HL5 HO5 HS5 HJ HBO5 o1 o2
          go_wp2_with fail
          go_roundw
          case rel => exact ⟨i + 1, ck5, D5, E6, n5, n6, by omega, by go_num, ⟨HF6.out.1, HF6.out.2.1, HL6.out, HO6.out, HF6.out.2.2.1, HF6.out.2.2.2⟩, ⟨HJ6.out⟩⟩
          case measure => simp [intOf]; omega
        · have n1 := str_ne hs
          rcases HJ.out.other hs HTR.out.1 HNOW.out HS5.out with ⟨h1, rfl, hj⟩ | ⟨h1, rfl, hj⟩
          · have t1 : decide ((s.size : Int) ≤ 256) = false := decide_eq_false (by omega)
            have HJ6 := Aside0.mk hj
            clear h1 hj hs HS5 HJ
            go_wp2_with fail
            go_roundw
            case rel => exact ⟨i + 1, ck5, D5, E, n5, n2, by omega, by go_num, ⟨HL5.out, HO5.out, HFR.out.1, HFR.out.2.1, HFR.out.2.2.1, HFR.out.2.2.2⟩, ⟨HJ6.out⟩⟩
            case measure => simp [intOf]; omega
          · have t1 : decide ((s.size : Int) ≤ 256) = true := decide_eq_true (by omega)
            have HJ6 := Aside0.mk hj
            clear h1 hj hs
            go_wp2_with fail
            refine (limit_Sweep.calls g2 m2 n2 tr 4096 sp ck now E w5 HFR.out.1 HFR.out.2.1).mono ?_
            rintro x w6 ⟨r6, E6, n6, rfl, hK, hL, hO, hP⟩
            have HF6 := Aside0.mk (far2 HL5.out HO5.out HFR.out.1 HFR.out.2.1 HFR.out.2.2.1 HFR.out.2.2.2 HD.out hK)
            have HL6 := Aside0.mk hL
            have HO6 := Aside0.mk hO
            have HJ7 := Aside0.mk (HJ6.out E6 hP)
            clear hK hL hO hP HFR HL5 HO5 HS5 HJ HBO5 o1 o2 HJ6
            go_wp2_with fail
            go_roundw
            case rel => exact ⟨i + 1, (max now ck), D5, E6, n5, n6, by omega, by go_num, ⟨HF6.out.1, HF6.out.2.1, HL6.out, HO6.out, HF6.out.2.2.1, HF6.out.2.2.2⟩, ⟨HJ7.out⟩⟩
            case measure => simp [intOf]; omega
      · obtain rfl : N = i := by omega
        go_wp2_with fail
        go_ret
        exact ⟨rfl, HLW.out.bel⟩
  · skip
    refine start_ (n := 6) (S := fun w' => w'.cell? ⟨B, 0, none⟩ = some (.int .i64 tr) ∧ w'.cell? ⟨B, 1, none⟩ = some (.int .u64 sp) ∧ w'.cell? ⟨B, 2, none⟩ = some (.int .i64 4096) ∧ w'.cell? ⟨B, 3, none⟩ = some (.slice A ops.length C)) (ds := []) #[false, false, false, false, false, false] (by kernel_rfl) rfl rfl ⟨d0, d1, d2, d3⟩ (fun hHeld => ?_)
    refine take_ (i := 0) (N := some 16) (v := ?_) (a' := ?_) #[true, false, false, false, false, false] rfl rfl (by kernel_rfl) (fun _ _ _ h => h) (Or.inl ⟨by rfl, ?_⟩) hHeld ?_ ?_
    rotate_left
    · rintro w' ⟨s0, s1, s2, s3⟩
      go_simp
      with_reducible rfl
    rotate_left
    · simp only [Act.put, List.setIfInBounds_toArray, List.set_cons_zero, List.set_cons_succ, i64_w, i32_w]
      rfl
    refine take_ (i := 2) (N := some 18) (v := ?_) (a' := ?_) #[true, false, true, false, false, false] rfl rfl (by kernel_rfl) (fun _ _ _ h => h) (Or.inl ⟨by rfl, ?_⟩) hHeld ?_ ?_
    rotate_left
    · rintro w' ⟨s0, s1, s2, s3⟩
      go_simp
      with_reducible rfl
    rotate_left
    · simp only [Act.put, List.setIfInBounds_toArray, List.set_cons_zero, List.set_cons_succ, i64_w, i32_w]
      rfl
    refine one_ (i := 1) (N := some 17) #[true, true, true, false, false, false] rfl rfl (by kernel_rfl) (by decide) (fun K hK => ?_)
    refine goes_ Try.func7 (by kernel_rfl) rfl #[.agg #[.int .i64 tr, .int .u64 sp, .int .i64 4096, .slice A ops.length C]] (by rfl) rfl rfl (by simp only [List.map_toArray, List.map_cons, List.map_nil]; rfl) ?_
    refine (lim_made.bad tr sp 4096 A ops.length C w1.drew hn).mono ?_
    rintro e w2 ⟨rfl, hb2⟩
    refine ⟨_, rfl, ?_⟩
    refine hK.out _ _ ⟨pw_cell_below hb2 hHeld.1, pw_cell_below hb2 hHeld.2.1, pw_cell_below hb2 hHeld.2.2.1, pw_cell_below hb2 hHeld.2.2.2⟩ (fun hHeld => ?_)
    clear hK K
    refine norm_ (a' := ?_) ?_ ?_
    rotate_left
    · show Act.put _ (some 17) _ = _
      simp only [Act.put, List.setIfInBounds_toArray, List.set_cons_zero, List.set_cons_succ, i64_w, i32_w]
      rfl
    refine one_ (i := 3) (N := some 19) #[true, true, true, true, false, false] rfl rfl (by kernel_rfl) (by decide) (fun K hK => ?_)
    refine goes_ Try.func7 (by kernel_rfl) rfl #[.agg #[.int .i64 tr, .int .u64 sp, .int .i64 4096, .slice A ops.length C]] (by rfl) rfl rfl (by simp only [List.map_toArray, List.map_cons, List.map_nil]; rfl) ?_
    refine (lim_made.bad tr sp 4096 A ops.length C w2 hn).mono ?_
    rintro e w3 ⟨rfl, hb3⟩
    refine ⟨_, rfl, ?_⟩
    refine hK.out _ _ ⟨pw_cell_below hb3 hHeld.1, pw_cell_below hb3 hHeld.2.1, pw_cell_below hb3 hHeld.2.2.1, pw_cell_below hb3 hHeld.2.2.2⟩ (fun hHeld => ?_)
    clear hK K
    refine norm_ (a' := ?_) ?_ ?_
    rotate_left
    · show Act.put _ (some 19) _ = _
      simp only [Act.put, List.setIfInBounds_toArray, List.set_cons_zero, List.set_cons_succ, i64_w, i32_w]
      rfl
    refine pure_ (i := 4) (N := some 5) (v := ?_) (a' := ?_) #[true, true, true, true, true, false] rfl rfl (by kernel_rfl) (fun _ _ _ h => h) (Or.inl ⟨by rfl, ?_⟩) ?_ ?_
    rotate_left
    · intro w'
      go_simp
      with_reducible rfl
    rotate_left
    · simp only [Act.put, List.setIfInBounds_toArray, List.set_cons_zero, List.set_cons_succ, i64_w, i32_w]
      rfl
    refine pure_ (i := 5) (N := some 6) (v := ?_) (a' := ?_) #[true, true, true, true, true, true] rfl rfl (by kernel_rfl) (fun _ _ _ h => h) (Or.inl ⟨by rfl, ?_⟩) ?_ ?_
    rotate_left
    · intro w'
      go_simp
      with_reducible rfl
    rotate_left
    · simp only [Act.put, List.setIfInBounds_toArray, List.set_cons_zero, List.set_cons_succ, i64_w, i32_w]
      rfl
    refine done_ (by kernel_rfl) ?_
    have hb2' := below_step (below_drew1 (Below.refl w1.heap.size w1)) hb2
    replace HX := Aside0.mk (blk_below (blk_below HX.out hb2') hb3)
    replace HB := Aside0.mk (below_step (below_step HB.out hb2') hb3)
    have HN := Aside0.mk hn
    clear hb2 hb3 hb2' hn d0 d1 d2 d3
    have d0 := (blk_cell HX.out 0).trans rfl
    have d1 := (blk_cell HX.out 1).trans rfl
    have d2 := (blk_cell HX.out 2).trans rfl
    go_wp2_with fail
    refine (wicketref08_New.calls tr sp 4096 0 0 0 0 [] 2 w3 (refNew_bad HN.out)).mono ?_
    rintro x w4 ⟨v4, rfl, ho, hb⟩
    obtain ⟨A4, c4, hv4⟩ := Kd.R_slice ho
    subst hv4
    replace HB := Aside0.mk (below_alloc (below_step HB.out hb) (.cells #[.int .i64 0, .int .u64 0, .int .i64 0, .int .u64 0, .slice A4 0 c4] 31))
    clear ho hb d0 d1 d2
    go_wp2_with fail
    refine (lim_live.calls _).mono ?_
    rintro x w5 ⟨rfl, hb⟩
    replace HB := Aside0.mk (below_step HB.out hb)
    clear hb
    go_wp2_with fail
    go_ret
    exact ⟨rfl, HB.out⟩
end Go.Proofs.Ytgdjoochbgeokaa.Hand
