/- Disk: the law DiskTails. -/
import Derived.Test.YthmkdmdfahhpmaaDskMC
namespace Go.Proofs.Ythmkdmdfahhpmaa.Hand
open Go.RowKit Go.Maps Go.Proofs.YthmkdmdfahhpmaaW.PrintWords Go.Proofs.YthmkdmdfahhpmaaW.PrintLast Go.Proofs.YthmkdmdfahhpmaaW.PrintMore Go.Proofs.Ythmkdmdfahhpmaa.Q
set_option linter.unusedVariables false
set_option linter.unusedSimpArgs false
theorem boxed (w : World) (o : Obj) : ∃ w1 B, w1 = w.alloc o ∧ B = w.heap.size ∧ w1.heap[B]? = some o ∧ Below w.heap.size w w1 ∧ w1.heap.size = w.heap.size + 1 := ⟨_, _, rfl, rfl, blk_new w o, below_alloc (Below.refl _ _) _, by simp⟩
theorem CrB.len8 {x : CrD} (h : CrB x) : x.2.length * 8 ≤ 140737488351232 := by have := h.l; omega
set_option maxHeartbeats 4000000 in
set_option maxRecDepth 100000 in
theorem diskTails.walk (x : StD) (hx : StB x) (y : CrD) (hy : CrB y) (A : Option Addr) (c : Nat) (A2 : Option Addr) (c2 : Nat) (A3 : Option Addr) (c3 : Nat) (w : World) (hC : Kd.C kF w A x.files.length x.files) (hc : x.files.length ≤ c) (hC2 : Kd.C kAct w A2 x.acts.length x.acts) (hC3 : Kd.C (Kd.int .i64) w A3 y.2.length y.2) (hc3 : y.2.length ≤ c3) :
    Calls Try.prog 8 #[.agg #[.slice A x.files.length c, .int .i64 x.room, .slice A2 x.acts.length c2], .agg #[.int .i64 y.1, .slice A3 y.2.length c3]] w fun e w' => e = .returned (.bool true) ∧ Below w.heap.size w w' := by
  have HX := Aside0.mk hx
  have HY := Aside0.mk hy
  have HC := Aside0.mk hC
  have HCc := Aside0.mk hc
  have HC2 := Aside0.mk hC2
  have HC3 := Aside0.mk hC3
  have HCc3 := Aside0.mk hc3
  clear hx hy hC hc hC2 hC3 hc3
  go_enter Try.func8, Try.ntmps8
  go_upto_region 1 with (fail)
  obtain ⟨wa, Bx, hwa, hBx, bx, hba, hsa⟩ := boxed w (.cells #[.slice A x.files.length c, .int .i64 x.room, .slice A2 x.acts.length c2] 25 (0, 0))
  obtain ⟨wb, By, hwb, hBy, by_, hbb, hsb⟩ := boxed wa (.cells #[.int .i64 y.1, .slice A3 y.2.length c3] 35 (0, 0))
  have hBy2 : w.heap.size + 1 = By := by rw [hBy, hsa]
  rw [← hwa, ← hwb, hBy2, ← hBx]
  have HBA := Aside0.mk (below_step hba hbb)
  have BX := Aside0.mk (hbb.block Bx (by omega) |>.trans bx)
  have BY := Aside0.mk by_
  have HBY : Aside0 (w.heap.size ≤ By ∧ By < wb.heap.size) := ⟨by omega, by omega⟩
  clear hwa hwb hBy2 bx by_ hba hbb hBx hBy hsa hsb
  have d0 := (blk_cell BX.out 0).trans rfl
  have d1 := (blk_cell BX.out 1).trans rfl
  have d2 := (blk_cell BX.out 2).trans rfl
  go_wp2_with fail
  refine (law_play.calls x HX.out A c A2 c2 _ (Kd.C_below HC.out HBA.out) HCc.out (Kd.C_below HC2.out HBA.out)).mono ?_
  rintro e w1 ⟨hb1, ⟨h0, rfl⟩ | ⟨h0, d, rfl, h1⟩⟩
  · have HB1 := Aside0.mk (below_step HBA.out hb1)
    clear hb1 d0 d1 d2 h0
    go_wp2_with fail
    refine (law_live.calls _).mono ?_
    rintro e w2 ⟨rfl, hb2⟩
    have HB2 := Aside0.mk (below_step HB1.out hb2)
    clear hb2
    go_wp2_with fail
    go_ret
    exact ⟨rfl, HB2.out⟩
  · obtain ⟨S, hS⟩ : ∃ S, S = playS x := ⟨_, rfl⟩
    have hfl := playS_files x
    rw [← hS] at h1 hfl
    have HFL := Aside0.mk hfl
    have HI := Aside0.mk h1.inv
    have H1 := Aside0.mk h1
    have HB1 := Aside0.mk hb1
    clear hb1 h0 h1 hS hfl d0 d1 d2
    go_wp2_with fail
    refine (law_live.calls _).mono ?_
    rintro e w2 ⟨rfl, hb2⟩
    have H2 := Aside0.mk (H1.out.tell hb2)
    have HB2 := Aside0.mk (below_step HB1.out hb2)
    clear hb2 H1 HB1
    go_wp2_with fail
    refine (disk_Dead.own H2.out).mono ?_
    rintro e w3 ⟨rfl, rfl⟩
    cases hdd : S.dead with
    | true =>
      go_wp2_with fail
      go_ret
      exact ⟨rfl, below_step HBA.out H2.out.below⟩
    | false =>
      have HD := Aside0.mk hdd
      clear hdd
      have d0 := (blk_cell ((HB2.out.block Bx (blk_lt BX.out)).trans BX.out) 0).trans rfl
      have d2 := (blk_cell ((HB2.out.block Bx (blk_lt BX.out)).trans BX.out) 2).trans rfl
      go_wp2_with fail
      obtain ⟨nt, hnt⟩ : ∃ nt, nt = x.files.length + x.acts.length := ⟨_, rfl⟩
      have hfl := HX.out.fl
      have hal := HX.out.al
      have hwn : wrap64 ((x.files.length : Int) + (x.acts.length : Int)) = (nt : Int) := by rw [w64L (by omega) (by omega)]; omega
      rw [hwn]
      obtain ⟨kf, hkf⟩ := (full_ev (n := nt) (by omega)).rounds
      obtain ⟨T, hT⟩ : ∃ T : List Int, T = List.replicate nt 1099511627776 := ⟨_, rfl⟩
      rw [← hT] at hkf
      have HT := Aside0.mk hT
      clear hT
      have HNT : Aside0 (S.files.length ≤ nt ∧ nt ≤ 2097152) := ⟨by rw [hnt]; exact HFL.out, by omega⟩
      clear hwn hfl hal hnt d0 d2 HFL
      refine (wicketlaw05_full.calls kf (nt : Int) _ w3 hkf).mono ?_
      rintro e w4 ⟨v4, rfl, hr4, hb4⟩
      have H4 := Aside0.mk (H2.out.tell hb4)
      have HB4 := Aside0.mk (below_step HB2.out hb4)
      obtain ⟨A4, c4, hv4⟩ := Kd.R_slice hr4
      subst hv4
      have HR4 := Aside0.mk hr4
      clear hr4 hb4 hkf H2 HB2
      go_wp2_with fail
      refine (disk_Left.own H4.out 1099511627776 (by omega) A4 c4 T (Kd.R_reads' HR4.out).2.2 (Kd.R_reads' HR4.out).2.1 (fun z hz => by rw [HT.out] at hz; have := (List.mem_replicate.1 hz).2; omega)).mono ?_
      rintro e w5 ⟨v5, rfl, hr5, hb5, h5⟩
      obtain ⟨W5, hW5⟩ : ∃ W5, W5 = (leftOf S 1099511627776 T).map mkF := ⟨_, rfl⟩
      rw [← hW5] at hr5
      obtain ⟨A5, c5, hv5⟩ := Kd.R_slice hr5
      obtain ⟨M, hM⟩ : ∃ M, M = S.dir.length := ⟨_, rfl⟩
      have hl5 : W5.length = M := by rw [hW5, List.length_map, leftOf_len, leftD_all HI.out, hM]
      rw [hl5] at hv5
      subst hv5
      have HM : Aside0 (M = S.dir.length ∧ M ≤ 64) := ⟨hM, by rw [hM]; exact HI.out.lenD⟩
      have HW5 := Aside0.mk hW5
      have HL5 := Aside0.mk hl5
      have HR5 := Aside0.mk hr5
      have H5 := Aside0.mk h5
      have HB4S := Aside0.mk HB4.out.size
      have HB5 := Aside0.mk (below_step HB4.out hb5)
      clear hr5 hb5 h5 hl5 hM hW5 H4 HB4 HR4
      go_wp2_with fail
      refine (disk_List.own H5.out).mono ?_
      rintro e w6 ⟨v6, rfl, hr6, hb6, h6⟩
      rw [lst_alive HD.out] at hr6
      obtain ⟨A6, c6, hv6⟩ := Kd.R_slice hr6
      rw [List.length_map, ← HM.out.1] at hv6
      subst hv6
      have HR6 := Aside0.mk hr6
      replace HR5 := Aside0.mk (Kd.R_below HR5.out hb6)
      have H6 := Aside0.mk h6
      have HSZ : Aside0 (wb.heap.size ≤ w4.heap.size ∧ wb.heap.size ≤ w5.heap.size) := ⟨HB4S.out, HB5.out.size⟩
      have HB6 := Aside0.mk (below_step HB5.out hb6)
      clear hr6 hb6 h6 H5 HB5
      go_wp2_with fail
      go_loopw [8] (fun v8 wr => ∃ i : Nat, i ≤ M ∧ v8 = .int .i64 i ∧ Aside0 (OwnD wb wr d S ∧ Below w6.heap.size w6 wr)) (fun v8 _ => M - (intOf v8).toNat)
      case atStart => exact ⟨0, Nat.zero_le _, rfl, ⟨H6.out, Below.refl _ _⟩⟩
      case round =>
        obtain ⟨i, hi, rfl, HJ⟩ := hrel
        have hM64 := HM.out.2
        by_cases hlt : i < M
        · obtain ⟨nmi, bs, hnm, hrd, hns, hbl, hlf⟩ := entry_all HI.out HD.out HNT.out.1 (i := i) (by rw [← HM.out.1]; exact hlt)
          rw [← HT.out, ← HW5.out] at hlf
          obtain ⟨ad6, rfl, q6⟩ := str_at (Kd.C_below (Kd.R_reads' HR6.out).2.2 HJ.out.2) i (by rw [List.length_map, ← HM.out.1]; exact hlt)
          rw [hnm] at q6
          have HRD := Aside0.mk hrd
          have HLF := Aside0.mk hlf
          have HQ6 := Aside0.mk q6
          have HBL := Aside0.mk hbl
          clear hnm hlf hrd hbl
          go_wp2_with fail
          refine (disk_Read.own HJ.out.1 nmi (by omega)).mono ?_
          rintro e w7 ⟨v7, rfl, hr7, hb7, h7⟩
          rw [HRD.out] at hr7 ⊢
          change Kd.R kB 5 w7 wr.heap.size (fun _ => True) v7 bs at hr7
          obtain ⟨A7, c7, hv7⟩ := Kd.R_slice hr7
          subst hv7
          obtain ⟨n1, hn1⟩ : ∃ n1, n1 = bs.length := ⟨_, rfl⟩
          have hg7 := (Kd.R_reads' hr7).2.2
          rw [← hn1] at hg7 ⊢
          have HG7 := Aside0.mk hg7
          have HJ7 : Aside0 (OwnD wb w7 d S ∧ Below w6.heap.size w6 w7) := ⟨h7, below_step HJ.out.2 hb7⟩
          obtain ⟨ad5, B1, e1, hA5, p0, p1, _, g5⟩ := file_at (Kd.C_below (Kd.R_reads' HR5.out).2.2 HJ7.out.2) i (by rw [HL5.out]; exact hlt) HLF.out
          have HRR := Aside0.mk HR5.out
          subst hA5
          change _ = some (Value.string nmi) at p0
          change _ = some (Value.slice B1 bs.length e1) at p1
          change Kd.C kB w7 B1 bs.length bs at g5
          rw [← hn1] at p1 g5
          have p2 := pw_cell_below hb7 q6
          have HG5 := Aside0.mk g5
          clear hr7 hb7 h7 hg7 hn1 g5 HJ q6 HQ6 HLF HRD HBL
          go_upto_region 14 with (fail)
          refine start_ (n := 26) (S := fun w' => w'.cell? (ad5.add (i * 2)) = some (.string nmi) ∧ w'.cell? ⟨(ad5.add (i * 2)).block, (ad5.add (i * 2)).off + 1, none⟩ = some (.slice B1 n1 e1) ∧ w'.cell? (ad6.add i) = some (.string nmi) ∧ (convert 53 9 (.slice B1 n1 e1)).run Try.prog w' = .ok (.string (strOfNums bs)) w' ∧ (convert 53 9 (.slice A7 n1 c7)).run Try.prog w' = .ok (.string (strOfNums bs)) w') (ds := []) #[false, false, false, false, false, false, false, false, false, false, false, false, false, false, false, false, false, false, false, false, false, false, false, false, false, false] (by kernel_rfl) rfl rfl ⟨p0, p1, p2, conv_str (Kd.C_below HG5.out (below_drew1 (Below.refl _ _))), conv_str (Kd.C_below HG7.out (below_drew1 (Below.refl _ _)))⟩ (fun hHeld => ?_)
          refine pure_ (i := 0) (N := some 57) (v := ?_) (a' := ?_) #[true, false, false, false, false, false, false, false, false, false, false, false, false, false, false, false, false, false, false, false, false, false, false, false, false, false] rfl rfl (by kernel_rfl) (fun _ _ _ h => h) (Or.inl ⟨by rfl, ?_⟩) ?_ ?_
          rotate_left
          · intro w'
            go_simp
            with_reducible rfl
          rotate_left
          · simp only [Act.put, List.setIfInBounds_toArray, List.set_cons_zero, List.set_cons_succ, i64_w, i32_w]
            rfl
          refine one_ (i := 1) (N := some 58) #[true, true, false, false, false, false, false, false, false, false, false, false, false, false, false, false, false, false, false, false, false, false, false, false, false, false] rfl rfl (by kernel_rfl) (by decide) (fun K hK => ?_)
          refine goes_ Try.func19 (by kernel_rfl) rfl #[.int .i64 0] (by rfl) rfl rfl (by simp only [List.map_toArray, List.map_cons, List.map_nil]; rfl) ?_
          with_reducible refine (wicketlaw05_num.calls 0 0 _ rfl).mono ?_
          rintro e w8 ⟨rfl, hd8⟩
          have HD8 := Aside0.mk (below_step (below_drew1 (Below.refl w7.heap.size w7)) hd8.below)
          clear hd8
          refine ⟨_, rfl, ?_⟩
          refine hK.out _ _ ⟨pw_cell_below HD8.out p0, pw_cell_below HD8.out p1, pw_cell_below HD8.out p2, conv_str (Kd.C_below HG5.out HD8.out), conv_str (Kd.C_below HG7.out HD8.out)⟩ (fun hHeld => ?_)
          clear hK K
          refine norm_ (a' := ?_) ?_ ?_
          rotate_left
          · show Act.put _ (some 58) _ = _
            simp only [Act.put, List.setIfInBounds_toArray, List.set_cons_zero, List.set_cons_succ, i64_w, i32_w]
            rfl
          refine pure_ (i := 2) (N := some 59) (v := ?_) (a' := ?_) #[true, true, true, false, false, false, false, false, false, false, false, false, false, false, false, false, false, false, false, false, false, false, false, false, false, false] rfl rfl (by kernel_rfl) (fun _ _ _ h => h) (Or.inl ⟨by rfl, ?_⟩) ?_ ?_
          rotate_left
          · intro w'
            go_simp
            with_reducible rfl
          rotate_left
          · simp only [Act.put, List.setIfInBounds_toArray, List.set_cons_zero, List.set_cons_succ, i64_w, i32_w]
            rfl
          refine pure_ (i := 3) (N := some 60) (v := ?_) (a' := ?_) #[true, true, true, true, false, false, false, false, false, false, false, false, false, false, false, false, false, false, false, false, false, false, false, false, false, false] rfl rfl (by kernel_rfl) (fun _ _ _ h => h) (Or.inl ⟨by rfl, ?_⟩) ?_ ?_
          rotate_left
          · intro w'
            go_simp
            with_reducible rfl
          rotate_left
          · simp only [Act.put, List.setIfInBounds_toArray, List.set_cons_zero, List.set_cons_succ, i64_w, i32_w]
            rfl
          refine pure_ (i := 4) (N := some 61) (v := ?_) (a' := ?_) #[true, true, true, true, true, false, false, false, false, false, false, false, false, false, false, false, false, false, false, false, false, false, false, false, false, false] rfl rfl (by kernel_rfl) (fun _ _ _ h => h) (Or.inl ⟨by rfl, ?_⟩) ?_ ?_
          rotate_left
          · intro w'
            go_simp
            with_reducible rfl
          rotate_left
          · simp only [Act.put, List.setIfInBounds_toArray, List.set_cons_zero, List.set_cons_succ, i64_w, i32_w]
            rfl
          refine pure_ (i := 5) (N := some 62) (v := ?_) (a' := ?_) #[true, true, true, true, true, true, false, false, false, false, false, false, false, false, false, false, false, false, false, false, false, false, false, false, false, false] rfl rfl (by kernel_rfl) (fun _ _ _ h => h) (Or.inl ⟨by rfl, ?_⟩) ?_ ?_
          rotate_left
          · intro w'
            go_simp
            with_reducible rfl
          rotate_left
          · simp only [Act.put, List.setIfInBounds_toArray, List.set_cons_zero, List.set_cons_succ, i64_w, i32_w]
            rfl
          refine pure_ (i := 6) (N := some 63) (v := ?_) (a' := ?_) #[true, true, true, true, true, true, true, false, false, false, false, false, false, false, false, false, false, false, false, false, false, false, false, false, false, false] rfl rfl (by kernel_rfl) (fun _ _ _ h => h) (Or.inl ⟨by rfl, ?_⟩) ?_ ?_
          rotate_left
          · intro w'
            go_simp
            with_reducible rfl
          rotate_left
          · simp only [Act.put, List.setIfInBounds_toArray, List.set_cons_zero, List.set_cons_succ, i64_w, i32_w]
            rfl
          refine pure_ (i := 7) (N := some 64) (v := ?_) (a' := ?_) #[true, true, true, true, true, true, true, true, false, false, false, false, false, false, false, false, false, false, false, false, false, false, false, false, false, false] rfl rfl (by kernel_rfl) (fun _ _ _ h => h) (Or.inl ⟨by rfl, ?_⟩) ?_ ?_
          rotate_left
          · intro w'
            go_simp
            with_reducible rfl
          rotate_left
          · simp only [Act.put, List.setIfInBounds_toArray, List.set_cons_zero, List.set_cons_succ, i64_w, i32_w]
            rfl
          refine pure_ (i := 9) (N := some 66) (v := ?_) (a' := ?_) #[true, true, true, true, true, true, true, true, false, true, false, false, false, false, false, false, false, false, false, false, false, false, false, false, false, false] rfl rfl (by kernel_rfl) (fun _ _ _ h => h) (Or.inl ⟨by rfl, ?_⟩) ?_ ?_
          rotate_left
          · intro w'
            go_simp
            with_reducible rfl
          rotate_left
          · simp only [Act.put, List.setIfInBounds_toArray, List.set_cons_zero, List.set_cons_succ, i64_w, i32_w]
            rfl
          refine pure_ (i := 10) (N := some 67) (v := ?_) (a' := ?_) #[true, true, true, true, true, true, true, true, false, true, true, false, false, false, false, false, false, false, false, false, false, false, false, false, false, false] rfl rfl (by kernel_rfl) (fun _ _ _ h => h) (Or.inl ⟨by rfl, ?_⟩) ?_ ?_
          rotate_left
          · intro w'
            go_simp
            with_reducible rfl
          rotate_left
          · simp only [Act.put, List.setIfInBounds_toArray, List.set_cons_zero, List.set_cons_succ, i64_w, i32_w]
            rfl
          refine pure_ (i := 11) (N := some 68) (v := ?_) (a' := ?_) #[true, true, true, true, true, true, true, true, false, true, true, true, false, false, false, false, false, false, false, false, false, false, false, false, false, false] rfl rfl (by kernel_rfl) (fun _ _ _ h => h) (Or.inl ⟨by rfl, ?_⟩) ?_ ?_
          rotate_left
          · intro w'
            go_simp
            with_reducible rfl
          rotate_left
          · simp only [Act.put, List.setIfInBounds_toArray, List.set_cons_zero, List.set_cons_succ, i64_w, i32_w]
            rfl
          refine take_ (i := 8) (N := some 65) (v := ?_) (a' := ?_) #[true, true, true, true, true, true, true, true, true, true, true, true, false, false, false, false, false, false, false, false, false, false, false, false, false, false] rfl rfl (by kernel_rfl) (fun _ _ _ h => h) (Or.inl ⟨by rfl, ?_⟩) hHeld ?_ ?_
          rotate_left
          · rintro w' ⟨s0, s1, s2, s3, s4⟩
            go_simp
            with_reducible rfl
          rotate_left
          · simp only [Act.put, List.setIfInBounds_toArray, List.set_cons_zero, List.set_cons_succ, i64_w, i32_w]
            rfl
          refine take_ (i := 12) (N := some 69) (v := ?_) (a' := ?_) #[true, true, true, true, true, true, true, true, true, true, true, true, true, false, false, false, false, false, false, false, false, false, false, false, false, false] rfl rfl (by kernel_rfl) (fun _ _ _ h => h) (Or.inl ⟨by rfl, ?_⟩) hHeld ?_ ?_
          rotate_left
          · rintro w' ⟨s0, s1, s2, s3, s4⟩
            go_simp
            with_reducible rfl
          rotate_left
          · simp only [Act.put, List.setIfInBounds_toArray, List.set_cons_zero, List.set_cons_succ, i64_w, i32_w]
            rfl
          refine pure_ (i := 13) (N := some 70) (v := ?_) (a' := ?_) #[true, true, true, true, true, true, true, true, true, true, true, true, true, true, false, false, false, false, false, false, false, false, false, false, false, false] rfl rfl (by kernel_rfl) (fun _ _ _ h => h) (Or.inl ⟨by rfl, ?_⟩) ?_ ?_
          rotate_left
          · intro w'
            go_simp
            with_reducible rfl
          rotate_left
          · simp only [Act.put, List.setIfInBounds_toArray, List.set_cons_zero, List.set_cons_succ, i64_w, i32_w]
            rfl
          refine pure_ (i := 14) (N := some 71) (v := ?_) (a' := ?_) #[true, true, true, true, true, true, true, true, true, true, true, true, true, true, true, false, false, false, false, false, false, false, false, false, false, false] rfl rfl (by kernel_rfl) (fun _ _ _ h => h) (Or.inl ⟨by rfl, ?_⟩) ?_ ?_
          rotate_left
          · intro w'
            go_simp
            with_reducible rfl
          rotate_left
          · simp only [Act.put, List.setIfInBounds_toArray, List.set_cons_zero, List.set_cons_succ, i64_w, i32_w]
            rfl
          refine pure_ (i := 15) (N := some 72) (v := ?_) (a' := ?_) #[true, true, true, true, true, true, true, true, true, true, true, true, true, true, true, true, false, false, false, false, false, false, false, false, false, false] rfl rfl (by kernel_rfl) (fun _ _ _ h => h) (Or.inl ⟨by rfl, ?_⟩) ?_ ?_
          rotate_left
          · intro w'
            go_simp
            with_reducible rfl
          rotate_left
          · simp only [Act.put, List.setIfInBounds_toArray, List.set_cons_zero, List.set_cons_succ, i64_w, i32_w]
            rfl
          refine pure_ (i := 16) (N := some 73) (v := ?_) (a' := ?_) #[true, true, true, true, true, true, true, true, true, true, true, true, true, true, true, true, true, false, false, false, false, false, false, false, false, false] rfl rfl (by kernel_rfl) (fun _ _ _ h => h) (Or.inl ⟨by rfl, ?_⟩) ?_ ?_
          rotate_left
          · intro w'
            go_simp
            with_reducible rfl
          rotate_left
          · simp only [Act.put, List.setIfInBounds_toArray, List.set_cons_zero, List.set_cons_succ, i64_w, i32_w]
            rfl
          refine pure_ (i := 17) (N := some 74) (v := ?_) (a' := ?_) #[true, true, true, true, true, true, true, true, true, true, true, true, true, true, true, true, true, true, false, false, false, false, false, false, false, false] rfl rfl (by kernel_rfl) (fun _ _ _ h => h) (Or.inl ⟨by rfl, ?_⟩) ?_ ?_
          rotate_left
          · intro w'
            go_simp
            with_reducible rfl
          rotate_left
          · simp only [Act.put, List.setIfInBounds_toArray, List.set_cons_zero, List.set_cons_succ, i64_w, i32_w]
            rfl
          refine pure_ (i := 18) (N := some 75) (v := ?_) (a' := ?_) #[true, true, true, true, true, true, true, true, true, true, true, true, true, true, true, true, true, true, true, false, false, false, false, false, false, false] rfl rfl (by kernel_rfl) (fun _ _ _ h => h) (Or.inl ⟨by rfl, ?_⟩) ?_ ?_
          rotate_left
          · intro w'
            go_simp
            with_reducible rfl
          rotate_left
          · simp only [Act.put, List.setIfInBounds_toArray, List.set_cons_zero, List.set_cons_succ, i64_w, i32_w]
            rfl
          refine pure_ (i := 19) (N := some 76) (v := ?_) (a' := ?_) #[true, true, true, true, true, true, true, true, true, true, true, true, true, true, true, true, true, true, true, true, false, false, false, false, false, false] rfl rfl (by kernel_rfl) (fun _ _ _ h => h) (Or.inl ⟨by rfl, ?_⟩) ?_ ?_
          rotate_left
          · intro w'
            go_simp
            with_reducible rfl
          rotate_left
          · simp only [Act.put, List.setIfInBounds_toArray, List.set_cons_zero, List.set_cons_succ, i64_w, i32_w]
            rfl
          refine pure_ (i := 22) (N := some 79) (v := ?_) (a' := ?_) #[true, true, true, true, true, true, true, true, true, true, true, true, true, true, true, true, true, true, true, true, false, false, true, false, false, false] rfl rfl (by kernel_rfl) (fun _ _ _ h => h) (Or.inl ⟨by rfl, ?_⟩) ?_ ?_
          rotate_left
          · intro w'
            go_simp
            with_reducible rfl
          rotate_left
          · simp only [Act.put, List.setIfInBounds_toArray, List.set_cons_zero, List.set_cons_succ, i64_w, i32_w]
            rfl
          refine take_ (i := 20) (N := some 77) (v := ?_) (a' := ?_) #[true, true, true, true, true, true, true, true, true, true, true, true, true, true, true, true, true, true, true, true, true, false, true, false, false, false] rfl rfl (by kernel_rfl) (fun _ _ _ h => h) (Or.inl ⟨by rfl, ?_⟩) hHeld ?_ ?_
          rotate_left
          · rintro w' ⟨s0, s1, s2, s3, s4⟩
            go_simp
            with_reducible rfl
          rotate_left
          · simp only [Act.put, List.setIfInBounds_toArray, List.set_cons_zero, List.set_cons_succ, i64_w, i32_w]
            rfl
          refine take_ (i := 21) (N := some 78) (v := ?_) (a' := ?_) #[true, true, true, true, true, true, true, true, true, true, true, true, true, true, true, true, true, true, true, true, true, true, true, false, false, false] rfl rfl (by kernel_rfl) (fun _ _ _ h => h) (Or.inl ⟨by rfl, ?_⟩) hHeld ?_ ?_
          rotate_left
          · rintro w' ⟨s0, s1, s2, s3, s4⟩
            go_simp
            with_reducible rfl
          rotate_left
          · simp only [Act.put, List.setIfInBounds_toArray, List.set_cons_zero, List.set_cons_succ, i64_w, i32_w]
            rfl
          refine take_ (i := 23) (N := some 80) (v := ?_) (a' := ?_) #[true, true, true, true, true, true, true, true, true, true, true, true, true, true, true, true, true, true, true, true, true, true, true, true, false, false] rfl rfl (by kernel_rfl) (fun _ _ _ h => h) (Or.inl ⟨by rfl, ?_⟩) hHeld ?_ ?_
          rotate_left
          · rintro w' ⟨s0, s1, s2, s3, s4⟩
            go_simp
            with_reducible rfl
          rotate_left
          · simp only [Act.put, List.setIfInBounds_toArray, List.set_cons_zero, List.set_cons_succ, i64_w, i32_w]
            rfl
          refine pure_ (i := 24) (N := some 81) (v := ?_) (a' := ?_) #[true, true, true, true, true, true, true, true, true, true, true, true, true, true, true, true, true, true, true, true, true, true, true, true, true, false] rfl rfl (by kernel_rfl) (fun _ _ _ h => h) (Or.inl ⟨by rfl, ?_⟩) ?_ ?_
          rotate_left
          · intro w'
            go_simp
            with_reducible rfl
          rotate_left
          · simp only [Act.put, List.setIfInBounds_toArray, List.set_cons_zero, List.set_cons_succ, i64_w, i32_w]
            rfl
          refine pure_ (i := 25) (N := some 82) (v := ?_) (a' := ?_) #[true, true, true, true, true, true, true, true, true, true, true, true, true, true, true, true, true, true, true, true, true, true, true, true, true, true] rfl rfl (by kernel_rfl) (fun _ _ _ h => h) (Or.inl ⟨by rfl, ?_⟩) ?_ ?_
          rotate_left
          · intro w'
            go_simp
            with_reducible rfl
          rotate_left
          · simp only [Act.put, List.setIfInBounds_toArray, List.set_cons_zero, List.set_cons_succ, i64_w, i32_w]
            rfl
          refine done_ (by kernel_rfl) ?_
          have HJ8 : Aside0 (OwnD wb w8 d S ∧ Below w6.heap.size w6 w8) := ⟨HJ7.out.1.tell HD8.out, below_step HJ7.out.2 HD8.out⟩
          clear p0 p1 p2 HJ7 HD8 HG5 HG7
          go_wp2_with fail
          go_roundw
          case rel => exact ⟨i + 1, by omega, by go_num, HJ8⟩
          case measure => simp [intOf]; omega
        · obtain rfl : i = M := by omega
          have y0 := (blk_cell ((HJ.out.1.below.block By HBY.out.2).trans BY.out) 0).trans rfl
          have yz := blk_frozen ((HJ.out.1.below.block By HBY.out.2).trans BY.out) 0
          go_upto_region 17 with (fail)
          obtain ⟨w9, hw9⟩ : ∃ w9, w9 = wr.setCell ⟨By, 0, none⟩ (.int .i64 1099511627776) := ⟨_, rfl⟩
          have BY9 : Aside0 (w9.heap[By]? = some (.cells #[.int .i64 1099511627776, .slice A3 y.2.length c3] 35 (0, 0))) := ⟨by rw [hw9]; exact blk_put ((HJ.out.1.below.block By HBY.out.2).trans BY.out) 0 _ rfl⟩
          have H9 : Aside0 (OwnD w w9 d S) := ⟨by rw [hw9]; exact HJ.out.1.put HBA.out _ _ HBY.out.1 HBY.out.2⟩
          have HS6 : Aside0 (wb.heap.size ≤ w4.heap.size ∧ wb.heap.size ≤ w5.heap.size) := HSZ
          have HR59 : Aside0 (Kd.R kF 65 w9 w4.heap.size (fun _ => True) (.slice A5 i c5) W5) := ⟨by rw [hw9]; exact R_put (Kd.R_below HR5.out HJ.out.2) _ _ (by have := HBY.out.2; have := HS6.out; show By < _; omega)⟩
          have HR69 : Aside0 (Kd.R Kd.string 9 w9 w5.heap.size (fun _ => True) (.slice A6 i c6) (S.dir.map (·.1))) := ⟨by rw [hw9]; exact R_put (Kd.R_below HR6.out HJ.out.2) _ _ (by have := HBY.out.2; have := HS6.out; show By < _; omega)⟩
          rw [← hw9]
          clear hw9 HJ H6 HB6 HR5 HR6 y0 yz HS6
          have y0 := (blk_cell BY9.out 0).trans rfl
          have y1 := (blk_cell BY9.out 1).trans rfl
          go_wp2_with fail
          refine (wicketlaw05_crash.calls 1099511627776 A3 c3 y.2 1099511627776 y.2 w9 (Kd.C_below HC3.out H9.out.below) HCc3.out (crash_f HY.out.len8)).mono ?_
          rintro e w10 ⟨v10, rfl, hr10, hb10⟩
          obtain ⟨A10, c10, hv10⟩ := Kd.R_slice hr10
          subst hv10
          have HR10 := Aside0.mk hr10
          have H10 := Aside0.mk (H9.out.tell hb10)
          have HB10 := Aside0.mk hb10
          clear hr10 hb10 y0 y1 H9
          go_wp2_with fail
          refine (disk_Left.own H10.out 1099511627776 (by omega) A10 c10 y.2 (Kd.R_reads' HR10.out).2.2 (Kd.R_reads' HR10.out).2.1 HY.out.t).mono ?_
          rintro e w11 ⟨v11, rfl, hr11, hb11, h11⟩
          obtain ⟨W11, hW11⟩ : ∃ W11, W11 = (leftOf S 1099511627776 y.2).map mkF := ⟨_, rfl⟩
          rw [← hW11] at hr11
          have hl11 : W11.length = i := by rw [hW11, List.length_map, leftOf_len, leftD_all HI.out, HM.out.1]
          obtain ⟨A11, c11, hv11⟩ := Kd.R_slice hr11
          rw [hl11] at hv11
          subst hv11
          have HW11 := Aside0.mk hW11
          have HL11 := Aside0.mk hl11
          have HR11 := Aside0.mk hr11
          have H11 := Aside0.mk h11
          have HB11 := Aside0.mk (below_step HB10.out hb11)
          clear hr11 hb11 h11 hl11 hW11 H10 HB10 HR10
          go_wp2_with fail
          refine (disk_Left.own H11.out 1099511627776 (by omega) none 0 [] (Kd.C_nil _ _) (Nat.le_refl _) (fun z hz => by cases hz)).mono ?_
          rintro e w12 ⟨v12, rfl, hr12, hb12, h12⟩
          obtain ⟨W12, hW12⟩ : ∃ W12, W12 = (leftOf S 1099511627776 []).map mkF := ⟨_, rfl⟩
          rw [← hW12] at hr12
          have hl12 : W12.length = i := by rw [hW12, List.length_map, leftOf_len, leftD_all HI.out, HM.out.1]
          obtain ⟨A12, c12, hv12⟩ := Kd.R_slice hr12
          rw [hl12] at hv12
          subst hv12
          have HW12 := Aside0.mk hW12
          have HL12 := Aside0.mk hl12
          have HRW : Aside0 (Kd.C kF w12 A12 W12.length W12 ∧ Kd.C kF w12 A11 W11.length W11 ∧ Kd.C kF w12 A5 W5.length W5 ∧ Kd.C Kd.string w12 A6 (S.dir.map (·.1)).length (S.dir.map (·.1))) := ⟨(Kd.R_reads' hr12).2.2, Kd.C_below (Kd.R_reads' HR11.out).2.2 hb12, Kd.C_below (Kd.R_reads' HR59.out).2.2 (below_step HB11.out hb12), Kd.C_below (Kd.R_reads' HR69.out).2.2 (below_step HB11.out hb12)⟩
          have HBW := Aside0.mk h12.below
          clear hr12 hb12 h12 hl12 hW12 H11 HB11 HR11 HR59 HR69
          obtain ⟨M, rfl⟩ : ∃ M, M = i := ⟨_, rfl⟩
          go_wp2_with fail
          go_loopw [13] (fun v13 wr => ∃ j : Nat, j ≤ M ∧ v13 = .int .i64 j ∧ Aside0 (Below w12.heap.size w12 wr)) (fun v13 _ => M - (intOf v13).toNat)
          case atStart => exact ⟨0, Nat.zero_le _, rfl, ⟨Below.refl _ _⟩⟩
          case round =>
            obtain ⟨j, hj, rfl, HJ⟩ := hrel
            by_cases hlt : j < M
            · obtain ⟨nmi, b0, b1, b2, hnm, hz0, hz1, hz2, hf0, hf1⟩ := entry_tail HI.out y.2 HNT.out.1 (i := j) (by rw [← HM.out.1]; exact hlt)
              rw [← HW12.out] at hz0
              rw [← HW11.out] at hz1
              rw [← HT.out, ← HW5.out] at hz2
              obtain ⟨ad12, B0, e0, rfl, p3, p4, g0, g00⟩ := file_at (Kd.C_below HRW.out.1 HJ.out) j (by rw [HL12.out]; exact hlt) hz0
              obtain ⟨ad11, B1, e1, rfl, p0, p1, g1, g11⟩ := file_at (Kd.C_below HRW.out.2.1 HJ.out) j (by rw [HL11.out]; exact hlt) hz1
              obtain ⟨ad5, B2, e2, rfl, _, p5, g2, g22⟩ := file_at (Kd.C_below HRW.out.2.2.1 HJ.out) j (by rw [HL5.out]; exact hlt) hz2
              obtain ⟨ad6, rfl, p2⟩ := str_at (Kd.C_below HRW.out.2.2.2 HJ.out) j (by rw [List.length_map, ← HM.out.1]; exact hlt)
              rw [hnm] at p2
              have HF0 := Aside0.mk hf0
              have HF1 := Aside0.mk hf1
              obtain ⟨w15, hw15⟩ : ∃ w15, w15 = wr := ⟨_, rfl⟩
              subst hw15
              have HG0 : Aside0 (b0.length ≤ e0 ∧ Kd.C kB w15 B0 b0.length b0) := ⟨g0, g00⟩
              have HG1 : Aside0 (b1.length ≤ e1 ∧ Kd.C kB w15 B1 b1.length b1) := ⟨g1, g11⟩
              have HG2 : Aside0 (b2.length ≤ e2 ∧ Kd.C kB w15 B2 b2.length b2) := ⟨g2, g22⟩
              change _ = some (Value.string nmi) at p0
              change _ = some (Value.string nmi) at p3
              change _ = some (Value.slice B0 b0.length e0) at p4
              change _ = some (Value.slice B1 b1.length e1) at p1
              change _ = some (Value.slice B2 b2.length e2) at p5
              clear hnm hz0 hz1 hz2 hf0 hf1 g0 g00 g1 g11 g2 g22
              go_upto_region 24 with (fail)
              refine start_ (n := 50) (S := fun w' => w'.cell? (ad11.add (j * 2)) = some (.string nmi) ∧ w'.cell? ⟨(ad11.add (j * 2)).block, (ad11.add (j * 2)).off + 1, none⟩ = some (.slice B1 b1.length e1) ∧ w'.cell? (ad6.add j) = some (.string nmi) ∧ w'.cell? (ad12.add (j * 2)) = some (.string nmi) ∧ w'.cell? ⟨(ad12.add (j * 2)).block, (ad12.add (j * 2)).off + 1, none⟩ = some (.slice B0 b0.length e0) ∧ w'.cell? ⟨(ad5.add (j * 2)).block, (ad5.add (j * 2)).off + 1, none⟩ = some (.slice B2 b2.length e2)) (ds := []) #[false, false, false, false, false, false, false, false, false, false, false, false, false, false, false, false, false, false, false, false, false, false, false, false, false, false, false, false, false, false, false, false, false, false, false, false, false, false, false, false, false, false, false, false, false, false, false, false, false, false] (by kernel_rfl) rfl rfl ⟨p0, p1, p2, p3, p4, p5⟩ (fun hHeld => ?_)
              refine pure_ (i := 0) (N := some 109) (v := ?_) (a' := ?_) #[true, false, false, false, false, false, false, false, false, false, false, false, false, false, false, false, false, false, false, false, false, false, false, false, false, false, false, false, false, false, false, false, false, false, false, false, false, false, false, false, false, false, false, false, false, false, false, false, false, false] rfl rfl (by kernel_rfl) (fun _ _ _ h => h) (Or.inl ⟨by rfl, ?_⟩) ?_ ?_
              rotate_left
              · intro w'
                go_simp
                with_reducible rfl
              rotate_left
              · simp only [Act.put, List.setIfInBounds_toArray, List.set_cons_zero, List.set_cons_succ, i64_w, i32_w]
                rfl
              refine pure_ (i := 1) (N := some 110) (v := ?_) (a' := ?_) #[true, true, false, false, false, false, false, false, false, false, false, false, false, false, false, false, false, false, false, false, false, false, false, false, false, false, false, false, false, false, false, false, false, false, false, false, false, false, false, false, false, false, false, false, false, false, false, false, false, false] rfl rfl (by kernel_rfl) (fun _ _ _ h => h) (Or.inl ⟨by rfl, ?_⟩) ?_ ?_
              rotate_left
              · intro w'
                go_simp
                with_reducible rfl
              rotate_left
              · simp only [Act.put, List.setIfInBounds_toArray, List.set_cons_zero, List.set_cons_succ, i64_w, i32_w]
                rfl
              refine pure_ (i := 2) (N := some 111) (v := ?_) (a' := ?_) #[true, true, true, false, false, false, false, false, false, false, false, false, false, false, false, false, false, false, false, false, false, false, false, false, false, false, false, false, false, false, false, false, false, false, false, false, false, false, false, false, false, false, false, false, false, false, false, false, false, false] rfl rfl (by kernel_rfl) (fun _ _ _ h => h) (Or.inl ⟨by rfl, ?_⟩) ?_ ?_
              rotate_left
              · intro w'
                go_simp
                with_reducible rfl
              rotate_left
              · simp only [Act.put, List.setIfInBounds_toArray, List.set_cons_zero, List.set_cons_succ, i64_w, i32_w]
                rfl
              refine pure_ (i := 3) (N := some 112) (v := ?_) (a' := ?_) #[true, true, true, true, false, false, false, false, false, false, false, false, false, false, false, false, false, false, false, false, false, false, false, false, false, false, false, false, false, false, false, false, false, false, false, false, false, false, false, false, false, false, false, false, false, false, false, false, false, false] rfl rfl (by kernel_rfl) (fun _ _ _ h => h) (Or.inl ⟨by rfl, ?_⟩) ?_ ?_
              rotate_left
              · intro w'
                go_simp
                with_reducible rfl
              rotate_left
              · simp only [Act.put, List.setIfInBounds_toArray, List.set_cons_zero, List.set_cons_succ, i64_w, i32_w]
                rfl
              refine pure_ (i := 5) (N := some 114) (v := ?_) (a' := ?_) #[true, true, true, true, false, true, false, false, false, false, false, false, false, false, false, false, false, false, false, false, false, false, false, false, false, false, false, false, false, false, false, false, false, false, false, false, false, false, false, false, false, false, false, false, false, false, false, false, false, false] rfl rfl (by kernel_rfl) (fun _ _ _ h => h) (Or.inl ⟨by rfl, ?_⟩) ?_ ?_
              rotate_left
              · intro w'
                go_simp
                with_reducible rfl
              rotate_left
              · simp only [Act.put, List.setIfInBounds_toArray, List.set_cons_zero, List.set_cons_succ, i64_w, i32_w]
                rfl
              refine pure_ (i := 6) (N := some 115) (v := ?_) (a' := ?_) #[true, true, true, true, false, true, true, false, false, false, false, false, false, false, false, false, false, false, false, false, false, false, false, false, false, false, false, false, false, false, false, false, false, false, false, false, false, false, false, false, false, false, false, false, false, false, false, false, false, false] rfl rfl (by kernel_rfl) (fun _ _ _ h => h) (Or.inl ⟨by rfl, ?_⟩) ?_ ?_
              rotate_left
              · intro w'
                go_simp
                with_reducible rfl
              rotate_left
              · simp only [Act.put, List.setIfInBounds_toArray, List.set_cons_zero, List.set_cons_succ, i64_w, i32_w]
                rfl
              refine pure_ (i := 7) (N := some 116) (v := ?_) (a' := ?_) #[true, true, true, true, false, true, true, true, false, false, false, false, false, false, false, false, false, false, false, false, false, false, false, false, false, false, false, false, false, false, false, false, false, false, false, false, false, false, false, false, false, false, false, false, false, false, false, false, false, false] rfl rfl (by kernel_rfl) (fun _ _ _ h => h) (Or.inl ⟨by rfl, ?_⟩) ?_ ?_
              rotate_left
              · intro w'
                go_simp
                with_reducible rfl
              rotate_left
              · simp only [Act.put, List.setIfInBounds_toArray, List.set_cons_zero, List.set_cons_succ, i64_w, i32_w]
                rfl
              refine take_ (i := 4) (N := some 113) (v := ?_) (a' := ?_) #[true, true, true, true, true, true, true, true, false, false, false, false, false, false, false, false, false, false, false, false, false, false, false, false, false, false, false, false, false, false, false, false, false, false, false, false, false, false, false, false, false, false, false, false, false, false, false, false, false, false] rfl rfl (by kernel_rfl) (fun _ _ _ h => h) (Or.inl ⟨by rfl, ?_⟩) hHeld ?_ ?_
              rotate_left
              · rintro w' ⟨s0, s1, s2, s3, s4, s5⟩
                go_simp
                with_reducible rfl
              rotate_left
              · simp only [Act.put, List.setIfInBounds_toArray, List.set_cons_zero, List.set_cons_succ, i64_w, i32_w]
                rfl
              refine take_ (i := 8) (N := some 117) (v := ?_) (a' := ?_) #[true, true, true, true, true, true, true, true, true, false, false, false, false, false, false, false, false, false, false, false, false, false, false, false, false, false, false, false, false, false, false, false, false, false, false, false, false, false, false, false, false, false, false, false, false, false, false, false, false, false] rfl rfl (by kernel_rfl) (fun _ _ _ h => h) (Or.inl ⟨by rfl, ?_⟩) hHeld ?_ ?_
              rotate_left
              · rintro w' ⟨s0, s1, s2, s3, s4, s5⟩
                go_simp
                with_reducible rfl
              rotate_left
              · simp only [Act.put, List.setIfInBounds_toArray, List.set_cons_zero, List.set_cons_succ, i64_w, i32_w]
                rfl
              refine pure_ (i := 9) (N := some 118) (v := ?_) (a' := ?_) #[true, true, true, true, true, true, true, true, true, true, false, false, false, false, false, false, false, false, false, false, false, false, false, false, false, false, false, false, false, false, false, false, false, false, false, false, false, false, false, false, false, false, false, false, false, false, false, false, false, false] rfl rfl (by kernel_rfl) (fun _ _ _ h => h) (Or.inl ⟨by rfl, ?_⟩) ?_ ?_
              rotate_left
              · intro w'
                go_simp
                with_reducible rfl
              rotate_left
              · simp only [Act.put, List.setIfInBounds_toArray, List.set_cons_zero, List.set_cons_succ, i64_w, i32_w]
                rfl
              refine pure_ (i := 10) (N := some 119) (v := ?_) (a' := ?_) #[true, true, true, true, true, true, true, true, true, true, true, false, false, false, false, false, false, false, false, false, false, false, false, false, false, false, false, false, false, false, false, false, false, false, false, false, false, false, false, false, false, false, false, false, false, false, false, false, false, false] rfl rfl (by kernel_rfl) (fun _ _ _ h => h) (Or.inl ⟨by rfl, ?_⟩) ?_ ?_
              rotate_left
              · intro w'
                go_simp
                with_reducible rfl
              rotate_left
              · simp only [Act.put, List.setIfInBounds_toArray, List.set_cons_zero, List.set_cons_succ, i64_w, i32_w]
                rfl
              refine pure_ (i := 11) (N := some 120) (v := ?_) (a' := ?_) #[true, true, true, true, true, true, true, true, true, true, true, true, false, false, false, false, false, false, false, false, false, false, false, false, false, false, false, false, false, false, false, false, false, false, false, false, false, false, false, false, false, false, false, false, false, false, false, false, false, false] rfl rfl (by kernel_rfl) (fun _ _ _ h => h) (Or.inl ⟨by rfl, ?_⟩) ?_ ?_
              rotate_left
              · intro w'
                go_simp
                with_reducible rfl
              rotate_left
              · simp only [Act.put, List.setIfInBounds_toArray, List.set_cons_zero, List.set_cons_succ, i64_w, i32_w]
                rfl
              refine pure_ (i := 12) (N := some 121) (v := ?_) (a' := ?_) #[true, true, true, true, true, true, true, true, true, true, true, true, true, false, false, false, false, false, false, false, false, false, false, false, false, false, false, false, false, false, false, false, false, false, false, false, false, false, false, false, false, false, false, false, false, false, false, false, false, false] rfl rfl (by kernel_rfl) (fun _ _ _ h => h) (Or.inl ⟨by rfl, ?_⟩) ?_ ?_
              rotate_left
              · intro w'
                go_simp
                with_reducible rfl
              rotate_left
              · simp only [Act.put, List.setIfInBounds_toArray, List.set_cons_zero, List.set_cons_succ, i64_w, i32_w]
                rfl
              refine pure_ (i := 13) (N := some 122) (v := ?_) (a' := ?_) #[true, true, true, true, true, true, true, true, true, true, true, true, true, true, false, false, false, false, false, false, false, false, false, false, false, false, false, false, false, false, false, false, false, false, false, false, false, false, false, false, false, false, false, false, false, false, false, false, false, false] rfl rfl (by kernel_rfl) (fun _ _ _ h => h) (Or.inl ⟨by rfl, ?_⟩) ?_ ?_
              rotate_left
              · intro w'
                go_simp
                with_reducible rfl
              rotate_left
              · simp only [Act.put, List.setIfInBounds_toArray, List.set_cons_zero, List.set_cons_succ, i64_w, i32_w]
                rfl
              refine pure_ (i := 14) (N := some 123) (v := ?_) (a' := ?_) #[true, true, true, true, true, true, true, true, true, true, true, true, true, true, true, false, false, false, false, false, false, false, false, false, false, false, false, false, false, false, false, false, false, false, false, false, false, false, false, false, false, false, false, false, false, false, false, false, false, false] rfl rfl (by kernel_rfl) (fun _ _ _ h => h) (Or.inl ⟨by rfl, ?_⟩) ?_ ?_
              rotate_left
              · intro w'
                go_simp
                with_reducible rfl
              rotate_left
              · simp only [Act.put, List.setIfInBounds_toArray, List.set_cons_zero, List.set_cons_succ, i64_w, i32_w]
                rfl
              refine pure_ (i := 16) (N := some 125) (v := ?_) (a' := ?_) #[true, true, true, true, true, true, true, true, true, true, true, true, true, true, true, false, true, false, false, false, false, false, false, false, false, false, false, false, false, false, false, false, false, false, false, false, false, false, false, false, false, false, false, false, false, false, false, false, false, false] rfl rfl (by kernel_rfl) (fun _ _ _ h => h) (Or.inl ⟨by rfl, ?_⟩) ?_ ?_
              rotate_left
              · intro w'
                go_simp
                with_reducible rfl
              rotate_left
              · simp only [Act.put, List.setIfInBounds_toArray, List.set_cons_zero, List.set_cons_succ, i64_w, i32_w]
                rfl
              refine pure_ (i := 17) (N := some 126) (v := ?_) (a' := ?_) #[true, true, true, true, true, true, true, true, true, true, true, true, true, true, true, false, true, true, false, false, false, false, false, false, false, false, false, false, false, false, false, false, false, false, false, false, false, false, false, false, false, false, false, false, false, false, false, false, false, false] rfl rfl (by kernel_rfl) (fun _ _ _ h => h) (Or.inl ⟨by rfl, ?_⟩) ?_ ?_
              rotate_left
              · intro w'
                go_simp
                with_reducible rfl
              rotate_left
              · simp only [Act.put, List.setIfInBounds_toArray, List.set_cons_zero, List.set_cons_succ, i64_w, i32_w]
                rfl
              refine pure_ (i := 18) (N := some 127) (v := ?_) (a' := ?_) #[true, true, true, true, true, true, true, true, true, true, true, true, true, true, true, false, true, true, true, false, false, false, false, false, false, false, false, false, false, false, false, false, false, false, false, false, false, false, false, false, false, false, false, false, false, false, false, false, false, false] rfl rfl (by kernel_rfl) (fun _ _ _ h => h) (Or.inl ⟨by rfl, ?_⟩) ?_ ?_
              rotate_left
              · intro w'
                go_simp
                with_reducible rfl
              rotate_left
              · simp only [Act.put, List.setIfInBounds_toArray, List.set_cons_zero, List.set_cons_succ, i64_w, i32_w]
                rfl
              refine take_ (i := 15) (N := some 124) (v := ?_) (a' := ?_) #[true, true, true, true, true, true, true, true, true, true, true, true, true, true, true, true, true, true, true, false, false, false, false, false, false, false, false, false, false, false, false, false, false, false, false, false, false, false, false, false, false, false, false, false, false, false, false, false, false, false] rfl rfl (by kernel_rfl) (fun _ _ _ h => h) (Or.inl ⟨by rfl, ?_⟩) hHeld ?_ ?_
              rotate_left
              · rintro w' ⟨s0, s1, s2, s3, s4, s5⟩
                go_simp
                with_reducible rfl
              rotate_left
              · simp only [Act.put, List.setIfInBounds_toArray, List.set_cons_zero, List.set_cons_succ, i64_w, i32_w]
                rfl
              refine take_ (i := 19) (N := some 128) (v := ?_) (a' := ?_) #[true, true, true, true, true, true, true, true, true, true, true, true, true, true, true, true, true, true, true, true, false, false, false, false, false, false, false, false, false, false, false, false, false, false, false, false, false, false, false, false, false, false, false, false, false, false, false, false, false, false] rfl rfl (by kernel_rfl) (fun _ _ _ h => h) (Or.inl ⟨by rfl, ?_⟩) hHeld ?_ ?_
              rotate_left
              · rintro w' ⟨s0, s1, s2, s3, s4, s5⟩
                go_simp
                with_reducible rfl
              rotate_left
              · simp only [Act.put, List.setIfInBounds_toArray, List.set_cons_zero, List.set_cons_succ, i64_w, i32_w]
                rfl
              refine pure_ (i := 20) (N := some 129) (v := ?_) (a' := ?_) #[true, true, true, true, true, true, true, true, true, true, true, true, true, true, true, true, true, true, true, true, true, false, false, false, false, false, false, false, false, false, false, false, false, false, false, false, false, false, false, false, false, false, false, false, false, false, false, false, false, false] rfl rfl (by kernel_rfl) (fun _ _ _ h => h) (Or.inl ⟨by rfl, ?_⟩) ?_ ?_
              rotate_left
              · intro w'
                go_simp
                with_reducible rfl
              rotate_left
              · simp only [Act.put, List.setIfInBounds_toArray, List.set_cons_zero, List.set_cons_succ, i64_w, i32_w]
                rfl
              refine pure_ (i := 21) (N := some 130) (v := ?_) (a' := ?_) #[true, true, true, true, true, true, true, true, true, true, true, true, true, true, true, true, true, true, true, true, true, true, false, false, false, false, false, false, false, false, false, false, false, false, false, false, false, false, false, false, false, false, false, false, false, false, false, false, false, false] rfl rfl (by kernel_rfl) (fun _ _ _ h => h) (Or.inl ⟨by rfl, ?_⟩) ?_ ?_
              rotate_left
              · intro w'
                go_simp
                with_reducible rfl
              rotate_left
              · simp only [Act.put, List.setIfInBounds_toArray, List.set_cons_zero, List.set_cons_succ, i64_w, i32_w]
                rfl
              refine pure_ (i := 22) (N := some 131) (v := ?_) (a' := ?_) #[true, true, true, true, true, true, true, true, true, true, true, true, true, true, true, true, true, true, true, true, true, true, true, false, false, false, false, false, false, false, false, false, false, false, false, false, false, false, false, false, false, false, false, false, false, false, false, false, false, false] rfl rfl (by kernel_rfl) (fun _ _ _ h => h) (Or.inl ⟨by rfl, ?_⟩) ?_ ?_
              rotate_left
              · intro w'
                go_simp
                with_reducible rfl
              rotate_left
              · simp only [Act.put, List.setIfInBounds_toArray, List.set_cons_zero, List.set_cons_succ, i64_w, i32_w]
                rfl
              refine pure_ (i := 23) (N := some 132) (v := ?_) (a' := ?_) #[true, true, true, true, true, true, true, true, true, true, true, true, true, true, true, true, true, true, true, true, true, true, true, true, false, false, false, false, false, false, false, false, false, false, false, false, false, false, false, false, false, false, false, false, false, false, false, false, false, false] rfl rfl (by kernel_rfl) (fun _ _ _ h => h) (Or.inl ⟨by rfl, ?_⟩) ?_ ?_
              rotate_left
              · intro w'
                go_simp
                with_reducible rfl
              rotate_left
              · simp only [Act.put, List.setIfInBounds_toArray, List.set_cons_zero, List.set_cons_succ, i64_w, i32_w]
                rfl
              refine pure_ (i := 24) (N := some 133) (v := ?_) (a' := ?_) #[true, true, true, true, true, true, true, true, true, true, true, true, true, true, true, true, true, true, true, true, true, true, true, true, true, false, false, false, false, false, false, false, false, false, false, false, false, false, false, false, false, false, false, false, false, false, false, false, false, false] rfl rfl (by kernel_rfl) (fun _ _ _ h => h) (Or.inl ⟨by rfl, ?_⟩) ?_ ?_
              rotate_left
              · intro w'
                go_simp
                with_reducible rfl
              rotate_left
              · simp only [Act.put, List.setIfInBounds_toArray, List.set_cons_zero, List.set_cons_succ, i64_w, i32_w]
                rfl
              refine pure_ (i := 25) (N := some 134) (v := ?_) (a' := ?_) #[true, true, true, true, true, true, true, true, true, true, true, true, true, true, true, true, true, true, true, true, true, true, true, true, true, true, false, false, false, false, false, false, false, false, false, false, false, false, false, false, false, false, false, false, false, false, false, false, false, false] rfl rfl (by kernel_rfl) (fun _ _ _ h => h) (Or.inl ⟨by rfl, ?_⟩) ?_ ?_
              rotate_left
              · intro w'
                go_simp
                with_reducible rfl
              rotate_left
              · simp only [Act.put, List.setIfInBounds_toArray, List.set_cons_zero, List.set_cons_succ, i64_w, i32_w]
                rfl
              refine pure_ (i := 26) (N := some 135) (v := ?_) (a' := ?_) #[true, true, true, true, true, true, true, true, true, true, true, true, true, true, true, true, true, true, true, true, true, true, true, true, true, true, true, false, false, false, false, false, false, false, false, false, false, false, false, false, false, false, false, false, false, false, false, false, false, false] rfl rfl (by kernel_rfl) (fun _ _ _ h => h) (Or.inl ⟨by rfl, ?_⟩) ?_ ?_
              rotate_left
              · intro w'
                go_simp
                with_reducible rfl
              rotate_left
              · simp only [Act.put, List.setIfInBounds_toArray, List.set_cons_zero, List.set_cons_succ, i64_w, i32_w]
                rfl
              refine pure_ (i := 28) (N := some 137) (v := ?_) (a' := ?_) #[true, true, true, true, true, true, true, true, true, true, true, true, true, true, true, true, true, true, true, true, true, true, true, true, true, true, true, false, true, false, false, false, false, false, false, false, false, false, false, false, false, false, false, false, false, false, false, false, false, false] rfl rfl (by kernel_rfl) (fun _ _ _ h => h) (Or.inl ⟨by rfl, ?_⟩) ?_ ?_
              rotate_left
              · intro w'
                go_simp
                with_reducible rfl
              rotate_left
              · simp only [Act.put, List.setIfInBounds_toArray, List.set_cons_zero, List.set_cons_succ, i64_w, i32_w]
                rfl
              refine pure_ (i := 29) (N := some 138) (v := ?_) (a' := ?_) #[true, true, true, true, true, true, true, true, true, true, true, true, true, true, true, true, true, true, true, true, true, true, true, true, true, true, true, false, true, true, false, false, false, false, false, false, false, false, false, false, false, false, false, false, false, false, false, false, false, false] rfl rfl (by kernel_rfl) (fun _ _ _ h => h) (Or.inl ⟨by rfl, ?_⟩) ?_ ?_
              rotate_left
              · intro w'
                go_simp
                with_reducible rfl
              rotate_left
              · simp only [Act.put, List.setIfInBounds_toArray, List.set_cons_zero, List.set_cons_succ, i64_w, i32_w]
                rfl
              refine pure_ (i := 30) (N := some 139) (v := ?_) (a' := ?_) #[true, true, true, true, true, true, true, true, true, true, true, true, true, true, true, true, true, true, true, true, true, true, true, true, true, true, true, false, true, true, true, false, false, false, false, false, false, false, false, false, false, false, false, false, false, false, false, false, false, false] rfl rfl (by kernel_rfl) (fun _ _ _ h => h) (Or.inl ⟨by rfl, ?_⟩) ?_ ?_
              rotate_left
              · intro w'
                go_simp
                with_reducible rfl
              rotate_left
              · simp only [Act.put, List.setIfInBounds_toArray, List.set_cons_zero, List.set_cons_succ, i64_w, i32_w]
                rfl
              refine pure_ (i := 31) (N := some 140) (v := ?_) (a' := ?_) #[true, true, true, true, true, true, true, true, true, true, true, true, true, true, true, true, true, true, true, true, true, true, true, true, true, true, true, false, true, true, true, true, false, false, false, false, false, false, false, false, false, false, false, false, false, false, false, false, false, false] rfl rfl (by kernel_rfl) (fun _ _ _ h => h) (Or.inl ⟨by rfl, ?_⟩) ?_ ?_
              rotate_left
              · intro w'
                go_simp
                with_reducible rfl
              rotate_left
              · simp only [Act.put, List.setIfInBounds_toArray, List.set_cons_zero, List.set_cons_succ, i64_w, i32_w]
                rfl
              refine take_ (i := 27) (N := some 136) (v := ?_) (a' := ?_) #[true, true, true, true, true, true, true, true, true, true, true, true, true, true, true, true, true, true, true, true, true, true, true, true, true, true, true, true, true, true, true, true, false, false, false, false, false, false, false, false, false, false, false, false, false, false, false, false, false, false] rfl rfl (by kernel_rfl) (fun _ _ _ h => h) (Or.inl ⟨by rfl, ?_⟩) hHeld ?_ ?_
              rotate_left
              · rintro w' ⟨s0, s1, s2, s3, s4, s5⟩
                go_simp
                with_reducible rfl
              rotate_left
              · simp only [Act.put, List.setIfInBounds_toArray, List.set_cons_zero, List.set_cons_succ, i64_w, i32_w]
                rfl
              refine take_ (i := 32) (N := some 141) (v := ?_) (a' := ?_) #[true, true, true, true, true, true, true, true, true, true, true, true, true, true, true, true, true, true, true, true, true, true, true, true, true, true, true, true, true, true, true, true, true, false, false, false, false, false, false, false, false, false, false, false, false, false, false, false, false, false] rfl rfl (by kernel_rfl) (fun _ _ _ h => h) (Or.inl ⟨by rfl, ?_⟩) hHeld ?_ ?_
              rotate_left
              · rintro w' ⟨s0, s1, s2, s3, s4, s5⟩
                go_simp
                with_reducible rfl
              rotate_left
              · simp only [Act.put, List.setIfInBounds_toArray, List.set_cons_zero, List.set_cons_succ, i64_w, i32_w]
                rfl
              refine one_ (i := 33) (N := some 142) #[true, true, true, true, true, true, true, true, true, true, true, true, true, true, true, true, true, true, true, true, true, true, true, true, true, true, true, true, true, true, true, true, true, true, false, false, false, false, false, false, false, false, false, false, false, false, false, false, false, false] rfl rfl (by kernel_rfl) (by decide) (fun K hK => ?_)
              refine goes_ Try.func34 (by kernel_rfl) rfl #[.slice B0 b0.length e0, .slice B1 b1.length e1] (by rfl) rfl rfl (by simp only [List.map_toArray, List.map_cons, List.map_nil]; rfl) ?_
              with_reducible refine (wicketlaw05_begins.calls B0 e0 b0 B1 e1 b1 true _ (Kd.C_below HG0.out.2 (below_drew1 (Below.refl w15.heap.size w15))) HG0.out.1 (Kd.C_below HG1.out.2 (below_drew1 (Below.refl w15.heap.size w15))) HG1.out.1 HF0.out).mono ?_
              rintro e w16 ⟨rfl, hd8⟩
              have Hw16 := Aside0.mk (below_step (below_drew1 (Below.refl w15.heap.size w15)) hd8.below)
              clear hd8
              refine ⟨_, rfl, ?_⟩
              refine hK.out _ _ ⟨pw_cell_below Hw16.out p0, pw_cell_below Hw16.out p1, pw_cell_below Hw16.out p2, pw_cell_below Hw16.out p3, pw_cell_below Hw16.out p4, pw_cell_below Hw16.out p5⟩ (fun hHeld => ?_)
              clear hK K
              refine norm_ (a' := ?_) ?_ ?_
              rotate_left
              · show Act.put _ (some 142) _ = _
                simp only [Act.put, List.setIfInBounds_toArray, List.set_cons_zero, List.set_cons_succ, i64_w, i32_w]
                rfl
              refine pure_ (i := 34) (N := some 143) (v := ?_) (a' := ?_) #[true, true, true, true, true, true, true, true, true, true, true, true, true, true, true, true, true, true, true, true, true, true, true, true, true, true, true, true, true, true, true, true, true, true, true, false, false, false, false, false, false, false, false, false, false, false, false, false, false, false] rfl rfl (by kernel_rfl) (fun _ _ _ h => h) (Or.inl ⟨by rfl, ?_⟩) ?_ ?_
              rotate_left
              · intro w'
                go_simp
                with_reducible rfl
              rotate_left
              · simp only [Act.put, List.setIfInBounds_toArray, List.set_cons_zero, List.set_cons_succ, i64_w, i32_w]
                rfl
              refine pure_ (i := 35) (N := some 144) (v := ?_) (a' := ?_) #[true, true, true, true, true, true, true, true, true, true, true, true, true, true, true, true, true, true, true, true, true, true, true, true, true, true, true, true, true, true, true, true, true, true, true, true, false, false, false, false, false, false, false, false, false, false, false, false, false, false] rfl rfl (by kernel_rfl) (fun _ _ _ h => h) (Or.inl ⟨by rfl, ?_⟩) ?_ ?_
              rotate_left
              · intro w'
                go_simp
                with_reducible rfl
              rotate_left
              · simp only [Act.put, List.setIfInBounds_toArray, List.set_cons_zero, List.set_cons_succ, i64_w, i32_w]
                rfl
              refine pure_ (i := 36) (N := some 145) (v := ?_) (a' := ?_) #[true, true, true, true, true, true, true, true, true, true, true, true, true, true, true, true, true, true, true, true, true, true, true, true, true, true, true, true, true, true, true, true, true, true, true, true, true, false, false, false, false, false, false, false, false, false, false, false, false, false] rfl rfl (by kernel_rfl) (fun _ _ _ h => h) (Or.inl ⟨by rfl, ?_⟩) ?_ ?_
              rotate_left
              · intro w'
                go_simp
                with_reducible rfl
              rotate_left
              · simp only [Act.put, List.setIfInBounds_toArray, List.set_cons_zero, List.set_cons_succ, i64_w, i32_w]
                rfl
              refine pure_ (i := 37) (N := some 146) (v := ?_) (a' := ?_) #[true, true, true, true, true, true, true, true, true, true, true, true, true, true, true, true, true, true, true, true, true, true, true, true, true, true, true, true, true, true, true, true, true, true, true, true, true, true, false, false, false, false, false, false, false, false, false, false, false, false] rfl rfl (by kernel_rfl) (fun _ _ _ h => h) (Or.inl ⟨by rfl, ?_⟩) ?_ ?_
              rotate_left
              · intro w'
                go_simp
                with_reducible rfl
              rotate_left
              · simp only [Act.put, List.setIfInBounds_toArray, List.set_cons_zero, List.set_cons_succ, i64_w, i32_w]
                rfl
              refine pure_ (i := 38) (N := some 147) (v := ?_) (a' := ?_) #[true, true, true, true, true, true, true, true, true, true, true, true, true, true, true, true, true, true, true, true, true, true, true, true, true, true, true, true, true, true, true, true, true, true, true, true, true, true, true, false, false, false, false, false, false, false, false, false, false, false] rfl rfl (by kernel_rfl) (fun _ _ _ h => h) (Or.inl ⟨by rfl, ?_⟩) ?_ ?_
              rotate_left
              · intro w'
                go_simp
                with_reducible rfl
              rotate_left
              · simp only [Act.put, List.setIfInBounds_toArray, List.set_cons_zero, List.set_cons_succ, i64_w, i32_w]
                rfl
              refine pure_ (i := 39) (N := some 148) (v := ?_) (a' := ?_) #[true, true, true, true, true, true, true, true, true, true, true, true, true, true, true, true, true, true, true, true, true, true, true, true, true, true, true, true, true, true, true, true, true, true, true, true, true, true, true, true, false, false, false, false, false, false, false, false, false, false] rfl rfl (by kernel_rfl) (fun _ _ _ h => h) (Or.inl ⟨by rfl, ?_⟩) ?_ ?_
              rotate_left
              · intro w'
                go_simp
                with_reducible rfl
              rotate_left
              · simp only [Act.put, List.setIfInBounds_toArray, List.set_cons_zero, List.set_cons_succ, i64_w, i32_w]
                rfl
              refine pure_ (i := 40) (N := some 149) (v := ?_) (a' := ?_) #[true, true, true, true, true, true, true, true, true, true, true, true, true, true, true, true, true, true, true, true, true, true, true, true, true, true, true, true, true, true, true, true, true, true, true, true, true, true, true, true, true, false, false, false, false, false, false, false, false, false] rfl rfl (by kernel_rfl) (fun _ _ _ h => h) (Or.inl ⟨by rfl, ?_⟩) ?_ ?_
              rotate_left
              · intro w'
                go_simp
                with_reducible rfl
              rotate_left
              · simp only [Act.put, List.setIfInBounds_toArray, List.set_cons_zero, List.set_cons_succ, i64_w, i32_w]
                rfl
              refine pure_ (i := 42) (N := some 151) (v := ?_) (a' := ?_) #[true, true, true, true, true, true, true, true, true, true, true, true, true, true, true, true, true, true, true, true, true, true, true, true, true, true, true, true, true, true, true, true, true, true, true, true, true, true, true, true, true, false, true, false, false, false, false, false, false, false] rfl rfl (by kernel_rfl) (fun _ _ _ h => h) (Or.inl ⟨by rfl, ?_⟩) ?_ ?_
              rotate_left
              · intro w'
                go_simp
                with_reducible rfl
              rotate_left
              · simp only [Act.put, List.setIfInBounds_toArray, List.set_cons_zero, List.set_cons_succ, i64_w, i32_w]
                rfl
              refine pure_ (i := 43) (N := some 152) (v := ?_) (a' := ?_) #[true, true, true, true, true, true, true, true, true, true, true, true, true, true, true, true, true, true, true, true, true, true, true, true, true, true, true, true, true, true, true, true, true, true, true, true, true, true, true, true, true, false, true, true, false, false, false, false, false, false] rfl rfl (by kernel_rfl) (fun _ _ _ h => h) (Or.inl ⟨by rfl, ?_⟩) ?_ ?_
              rotate_left
              · intro w'
                go_simp
                with_reducible rfl
              rotate_left
              · simp only [Act.put, List.setIfInBounds_toArray, List.set_cons_zero, List.set_cons_succ, i64_w, i32_w]
                rfl
              refine pure_ (i := 44) (N := some 153) (v := ?_) (a' := ?_) #[true, true, true, true, true, true, true, true, true, true, true, true, true, true, true, true, true, true, true, true, true, true, true, true, true, true, true, true, true, true, true, true, true, true, true, true, true, true, true, true, true, false, true, true, true, false, false, false, false, false] rfl rfl (by kernel_rfl) (fun _ _ _ h => h) (Or.inl ⟨by rfl, ?_⟩) ?_ ?_
              rotate_left
              · intro w'
                go_simp
                with_reducible rfl
              rotate_left
              · simp only [Act.put, List.setIfInBounds_toArray, List.set_cons_zero, List.set_cons_succ, i64_w, i32_w]
                rfl
              refine pure_ (i := 45) (N := some 154) (v := ?_) (a' := ?_) #[true, true, true, true, true, true, true, true, true, true, true, true, true, true, true, true, true, true, true, true, true, true, true, true, true, true, true, true, true, true, true, true, true, true, true, true, true, true, true, true, true, false, true, true, true, true, false, false, false, false] rfl rfl (by kernel_rfl) (fun _ _ _ h => h) (Or.inl ⟨by rfl, ?_⟩) ?_ ?_
              rotate_left
              · intro w'
                go_simp
                with_reducible rfl
              rotate_left
              · simp only [Act.put, List.setIfInBounds_toArray, List.set_cons_zero, List.set_cons_succ, i64_w, i32_w]
                rfl
              refine take_ (i := 41) (N := some 150) (v := ?_) (a' := ?_) #[true, true, true, true, true, true, true, true, true, true, true, true, true, true, true, true, true, true, true, true, true, true, true, true, true, true, true, true, true, true, true, true, true, true, true, true, true, true, true, true, true, true, true, true, true, true, false, false, false, false] rfl rfl (by kernel_rfl) (fun _ _ _ h => h) (Or.inl ⟨by rfl, ?_⟩) hHeld ?_ ?_
              rotate_left
              · rintro w' ⟨s0, s1, s2, s3, s4, s5⟩
                go_simp
                with_reducible rfl
              rotate_left
              · simp only [Act.put, List.setIfInBounds_toArray, List.set_cons_zero, List.set_cons_succ, i64_w, i32_w]
                rfl
              refine take_ (i := 46) (N := some 155) (v := ?_) (a' := ?_) #[true, true, true, true, true, true, true, true, true, true, true, true, true, true, true, true, true, true, true, true, true, true, true, true, true, true, true, true, true, true, true, true, true, true, true, true, true, true, true, true, true, true, true, true, true, true, true, false, false, false] rfl rfl (by kernel_rfl) (fun _ _ _ h => h) (Or.inl ⟨by rfl, ?_⟩) hHeld ?_ ?_
              rotate_left
              · rintro w' ⟨s0, s1, s2, s3, s4, s5⟩
                go_simp
                with_reducible rfl
              rotate_left
              · simp only [Act.put, List.setIfInBounds_toArray, List.set_cons_zero, List.set_cons_succ, i64_w, i32_w]
                rfl
              refine one_ (i := 47) (N := some 156) #[true, true, true, true, true, true, true, true, true, true, true, true, true, true, true, true, true, true, true, true, true, true, true, true, true, true, true, true, true, true, true, true, true, true, true, true, true, true, true, true, true, true, true, true, true, true, true, true, false, false] rfl rfl (by kernel_rfl) (by decide) (fun K hK => ?_)
              refine goes_ Try.func34 (by kernel_rfl) rfl #[.slice B1 b1.length e1, .slice B2 b2.length e2] (by rfl) rfl rfl (by simp only [List.map_toArray, List.map_cons, List.map_nil]; rfl) ?_
              with_reducible refine (wicketlaw05_begins.calls B1 e1 b1 B2 e2 b2 true _ (Kd.C_below HG1.out.2 Hw16.out) HG1.out.1 (Kd.C_below HG2.out.2 Hw16.out) HG2.out.1 HF1.out).mono ?_
              rintro e w17 ⟨rfl, hd8⟩
              have Hw17 := Aside0.mk (below_step (Hw16.out) hd8.below)
              clear hd8
              refine ⟨_, rfl, ?_⟩
              refine hK.out _ _ ⟨pw_cell_below Hw17.out p0, pw_cell_below Hw17.out p1, pw_cell_below Hw17.out p2, pw_cell_below Hw17.out p3, pw_cell_below Hw17.out p4, pw_cell_below Hw17.out p5⟩ (fun hHeld => ?_)
              clear hK K
              refine norm_ (a' := ?_) ?_ ?_
              rotate_left
              · show Act.put _ (some 156) _ = _
                simp only [Act.put, List.setIfInBounds_toArray, List.set_cons_zero, List.set_cons_succ, i64_w, i32_w]
                rfl
              refine pure_ (i := 48) (N := some 157) (v := ?_) (a' := ?_) #[true, true, true, true, true, true, true, true, true, true, true, true, true, true, true, true, true, true, true, true, true, true, true, true, true, true, true, true, true, true, true, true, true, true, true, true, true, true, true, true, true, true, true, true, true, true, true, true, true, false] rfl rfl (by kernel_rfl) (fun _ _ _ h => h) (Or.inl ⟨by rfl, ?_⟩) ?_ ?_
              rotate_left
              · intro w'
                go_simp
                with_reducible rfl
              rotate_left
              · simp only [Act.put, List.setIfInBounds_toArray, List.set_cons_zero, List.set_cons_succ, i64_w, i32_w]
                rfl
              refine pure_ (i := 49) (N := some 158) (v := ?_) (a' := ?_) #[true, true, true, true, true, true, true, true, true, true, true, true, true, true, true, true, true, true, true, true, true, true, true, true, true, true, true, true, true, true, true, true, true, true, true, true, true, true, true, true, true, true, true, true, true, true, true, true, true, true] rfl rfl (by kernel_rfl) (fun _ _ _ h => h) (Or.inl ⟨by rfl, ?_⟩) ?_ ?_
              rotate_left
              · intro w'
                go_simp
                with_reducible rfl
              rotate_left
              · simp only [Act.put, List.setIfInBounds_toArray, List.set_cons_zero, List.set_cons_succ, i64_w, i32_w]
                rfl
              refine done_ (by kernel_rfl) ?_
              have HJ8 : Aside0 (Below w12.heap.size w12 w17) := ⟨below_step HJ.out Hw17.out⟩
              clear p0 p1 p2 p3 p4 p5 HJ Hw16 Hw17 HG0 HG1 HG2
              go_wp2_with fail
              go_roundw
              case rel => exact ⟨j + 1, by omega, by go_num, HJ8⟩
              case measure => simp [intOf]; omega
            · go_wp2_with fail
              go_ret
              exact ⟨rfl, below_step HBW.out HJ.out⟩
theorem diskTails_machine (w : World) (cs : Array Value) (x : StD) (hk : kStory.K w x cs.toList) (hw : StW x) (hb : bSt x ≤ 1048576) (cs2 : Array Value) (y : CrD) (hk2 : kCr.K w y cs2.toList) (hw2 : CrW y) (hb2 : bCr y ≤ 1048576) :
    Calls Try.prog 8 #[.agg cs, .agg cs2] w fun e w' => e = .returned (.bool true) ∧ Below w.heap.size w w' := by
  obtain ⟨A, c, A2, c2, hcs, hc, hC, hc2, hC2⟩ := kStory_open hk
  obtain rfl : cs = #[.slice A x.files.length c, .int .i64 x.room, .slice A2 x.acts.length c2] := Array.ext' hcs
  obtain ⟨A3, c3, hcs3, hc3, hC3⟩ := kCr_open hk2
  obtain rfl : cs2 = #[.int .i64 y.1, .slice A3 y.2.length c3] := Array.ext' hcs3
  exact diskTails.walk x (StB.of hw hb) y (CrB.of hw2 hb2) A c A2 c2 A3 c3 w hC hc hC2 hC3 hc3
end Go.Proofs.Ythmkdmdfahhpmaa.Hand
