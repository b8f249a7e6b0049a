/- Disk: the law DiskSafe. -/
import Derived.Test.YthmkdmdfahhpmaaDskAC
import Derived.Test.YthmkdmdfahhpmaaDskAB
namespace Go.Proofs.Ythmkdmdfahhpmaa.Hand
open Go.RowKit Go.Maps Go.Proofs.YthmkdmdfahhpmaaW.PrintWords Go.Proofs.YthmkdmdfahhpmaaW.PrintLast Go.Proofs.YthmkdmdfahhpmaaW.PrintMore Go.Proofs.Ythmkdmdfahhpmaa.Q
set_option linter.unusedVariables false
set_option linter.unusedSimpArgs false
set_option maxHeartbeats 4000000 in
set_option maxRecDepth 100000 in
theorem diskSafe.walk (x : StD) (hx : StB x) (y : CrD) (hy : CrB y) (A : Option Addr) (c : Nat) (A2 : Option Addr) (c2 : Nat) (A3 : Option Addr) (c3 : Nat) (w : World) (hC : Kd.C kF w A x.files.length x.files) (hc : x.files.length ≤ c) (hC2 : Kd.C kAct w A2 x.acts.length x.acts) (hC3 : Kd.C (Kd.int .i64) w A3 y.2.length y.2) (hc3 : y.2.length ≤ c3) :
    Calls Try.prog 7 #[.agg #[.slice A x.files.length c, .int .i64 x.room, .slice A2 x.acts.length c2], .agg #[.int .i64 y.1, .slice A3 y.2.length c3]] w fun e w' => e = .returned (.bool true) ∧ Below w.heap.size w w' := by
  have HX := Aside0.mk hx
  have HY := Aside0.mk hy
  have HC := Aside0.mk hC
  have HCc := Aside0.mk hc
  have HC2 := Aside0.mk hC2
  have HC3 := Aside0.mk hC3
  have HCc3 := Aside0.mk hc3
  clear hx hy hC hc hC2 hC3 hc3
  go_enter Try.func7, Try.ntmps7
  go_upto_region 1 with (fail)
  obtain ⟨wa, Bx, hwa, hBx, bx, hba, hsa⟩ := boxed w (.cells #[.slice A x.files.length c, .int .i64 x.room, .slice A2 x.acts.length c2] 25 (0, 0))
  obtain ⟨wb, By, hwb, hBy, by_, hbb, hsb⟩ := boxed wa (.cells #[.int .i64 y.1, .slice A3 y.2.length c3] 35 (0, 0))
  have hBy2 : w.heap.size + 1 = By := by rw [hBy, hsa]
  rw [← hwa, ← hwb, hBy2, ← hBx]
  have HBA := Aside0.mk (below_step hba hbb)
  have BX := Aside0.mk (hbb.block Bx (by omega) |>.trans bx)
  have BY := Aside0.mk by_
  have HBY : Aside0 (w.heap.size ≤ By ∧ By < wb.heap.size) := ⟨by omega, by omega⟩
  clear hwa hwb hBy2 bx by_ hba hbb hBx hBy hsa hsb
  have d0 := (blk_cell BX.out 0).trans rfl
  have d1 := (blk_cell BX.out 1).trans rfl
  have d2 := (blk_cell BX.out 2).trans rfl
  go_wp2_with fail
  refine (law_play.calls x HX.out A c A2 c2 _ (Kd.C_below HC.out HBA.out) HCc.out (Kd.C_below HC2.out HBA.out)).mono ?_
  rintro e w1 ⟨hb1, ⟨h0, rfl⟩ | ⟨h0, d, rfl, h1⟩⟩
  · have HB1 := Aside0.mk (below_step HBA.out hb1)
    clear hb1 d0 d1 d2 h0
    go_wp2_with fail
    refine (law_live.calls _).mono ?_
    rintro e w2 ⟨rfl, hb2⟩
    have HB2 := Aside0.mk (below_step HB1.out hb2)
    clear hb2
    go_wp2_with fail
    go_ret
    exact ⟨rfl, HB2.out⟩
  · obtain ⟨S, hS⟩ : ∃ S, S = playS x := ⟨_, rfl⟩
    have hfl := playS_files x
    rw [← hS] at h1 hfl
    have HFL := Aside0.mk hfl
    have HI := Aside0.mk h1.inv
    have H1 := Aside0.mk h1
    have HB1 := Aside0.mk hb1
    clear hb1 h0 h1 hS hfl d0 d1 d2
    go_wp2_with fail
    refine (law_live.calls _).mono ?_
    rintro e w2 ⟨rfl, hb2⟩
    have H2 := Aside0.mk (H1.out.tell hb2)
    have HB2 := Aside0.mk (below_step HB1.out hb2)
    clear hb2 H1 HB1
    go_wp2_with fail
    refine (disk_Dead.own H2.out).mono ?_
    rintro e w3 ⟨rfl, rfl⟩
    cases hdd : S.dead with
    | true =>
      go_wp2_with fail
      go_ret
      exact ⟨rfl, below_step HBA.out H2.out.below⟩
    | false =>
      have HD := Aside0.mk hdd
      clear hdd
      go_wp2_with fail
      refine (disk_Arm.own H2.out 0 (by omega)).mono ?_
      rintro e w3 ⟨⟨v3, rfl⟩, h3⟩
      obtain ⟨S1, hS1⟩ : ∃ S1, S1 = opArm S 0 := ⟨_, rfl⟩
      have hst := SyncI.start HD.out
      rw [← hS1] at h3 hst
      have HST := Aside0.mk hst
      have H3 := Aside0.mk h3
      have HI1 := Aside0.mk h3.inv
      clear h3 hS1 hst HI HD H2 HB2
      go_wp2_with fail
      refine (disk_List.own H3.out).mono ?_
      rintro e w4 ⟨v4, rfl, hr4, hb4, h4⟩
      rw [lst_alive HST.out.alive] at hr4
      obtain ⟨A6, c6, hv4⟩ := Kd.R_slice hr4
      obtain ⟨M, hM⟩ : ∃ M, M = S1.dir.length := ⟨_, rfl⟩
      rw [List.length_map, ← hM] at hv4
      subst hv4
      have HM : Aside0 (M = S1.dir.length ∧ M ≤ 64) := ⟨hM, by rw [hM]; exact HI1.out.lenD⟩
      obtain ⟨n0, hn0⟩ : ∃ n0, n0 = w3.heap.size := ⟨_, rfl⟩
      obtain ⟨n1, hn1⟩ : ∃ n1, n1 = w4.heap.size := ⟨_, rfl⟩
      have H5 : Aside0 (OwnA wb w4 n0 n1 d S1) := ⟨by rw [hn0, hn1]; exact OwnA.of H3.out hb4⟩
      have HR4 : Aside0 (Kd.R Kd.string 9 w4 n0 (fun k => n0 ≤ k ∧ k < n1) (.slice A6 M c6) (S1.dir.map (·.1))) := ⟨by rw [hn0, hn1]; exact Kd.R_mono (Kd.R_bound hr4) (fun k hk => ⟨hk.2.1, hk.2.2.1⟩)⟩
      have H4 := Aside0.mk h4
      clear hr4 hb4 h4 hM hn0 hn1
      go_wp2_with fail
      refine (disk_Count.own H4.out).mono ?_
      rintro e w5 ⟨rfl, rfl⟩
      have hob := HI1.out.opsB
      have hM64 := HM.out.2
      by_cases hbig : 1048576 < S1.ops + (M : Int) + 1
      · have hb1 : decide (1048576 < S1.ops + (M : Int) + 1) = true := decide_eq_true hbig
        clear hbig
        go_wp2_with fail
        go_ret
        exact ⟨rfl, below_step HBA.out H4.out.below⟩
      · have hb1 : decide (1048576 < S1.ops + (M : Int) + 1) = false := decide_eq_false hbig
        have HBG : Aside0 (S1.ops + (S1.dir.length : Int) + 1 ≤ 1048576) := ⟨by rw [← HM.out.1]; omega⟩
        clear hbig
        go_wp2_with fail
        clear hb1 hob
        go_loopw [7] (fun v7 wr => ∃ i : Nat, i ≤ M ∧ v7 = .int .i64 i ∧ Aside0 (∃ T, OwnA wb wr n0 n1 d T ∧ SyncI S1 T i ∧ Kd.R Kd.string 9 wr n0 (fun k => n0 ≤ k ∧ k < n1) (.slice A6 M c6) (S1.dir.map (·.1)))) (fun v7 _ => M - (intOf v7).toNat)
        case atStart => exact ⟨0, Nat.zero_le _, rfl, ⟨S1, H5.out, HST.out, HR4.out⟩⟩
        case round =>
          obtain ⟨i, hi, rfl, HJ⟩ := hrel
          obtain ⟨T, hT, hsy, hrr⟩ := HJ.out
          by_cases hlt : i < M
          · obtain ⟨ad6, rfl, q6⟩ := str_at (Kd.R_reads' hrr).2.2 i (by rw [List.length_map, ← HM.out.1]; exact hlt)
            have hid : i < S1.dir.length := by rw [← HM.out.1]; exact hlt
            rw [names_at hid] at q6
            obtain ⟨nmi, hnm⟩ : ∃ nmi, nmi = S1.dir[i].1 := ⟨_, rfl⟩
            have hnx := hsy.next HI1.out hid HBG.out
            have hns := (HI1.out.okD _ (List.getElem_mem hid)).2.2.2
            rw [← hnm] at q6 hnx hns
            have HNX := Aside0.mk hnx
            have HT := Aside0.mk (And.intro hT hrr)
            clear hT hsy hrr HJ hnx hnm hid
            go_wp2_with fail
            refine (disk_Sync.ownA HT.out.1 nmi (by omega)).mono ?_
            rintro e w6 ⟨rfl, h6, hk6⟩
            rw [HNX.out.1]
            have H6 := Aside0.mk h6
            have HBS := Aside0.mk (Kd.R_step HT.out.2 (fun k hk _ => hk6 k hk))
            clear h6 hk6 q6 HT
            go_wp2_with fail
            refine (wicketlaw05_num.calls 0 0 _ rfl).mono ?_
            rintro e w7 ⟨rfl, hd7⟩
            have HJ8 : Aside0 (∃ T, OwnA wb w7 n0 n1 d T ∧ SyncI S1 T (i + 1) ∧ Kd.R Kd.string 9 w7 n0 (fun k => n0 ≤ k ∧ k < n1) (.slice (some ad6) M c6) (S1.dir.map (·.1))) := ⟨_, H6.out.tell hd7.below, HNX.out.2, Kd.R_below HBS.out hd7.below⟩
            clear hd7 H6 HBS HNX
            go_wp2_with fail
            go_roundw
            case rel => exact ⟨i + 1, by omega, by go_num, HJ8⟩
            case measure => simp [intOf]; omega
          · obtain rfl : i = M := by omega
            have hdn := SyncI.done (S := S1) (T := T) (by rw [← HM.out.1]; exact hsy) HBG.out
            have HDN := Aside0.mk hdn
            have HT := Aside0.mk (And.intro hT hrr)
            clear hT hsy hrr HJ hdn H4 H5 HR4 HST H3
            go_wp2_with fail
            refine (disk_SyncDir.ownA HT.out.1).mono ?_
            rintro e w6 ⟨rfl, h6, hk6⟩
            rw [HDN.out.1]
            obtain ⟨U, hU⟩ : ∃ U, U = (opSyncDir T).1 := ⟨_, rfl⟩
            have hsf := HDN.out.2
            rw [← hU] at h6 hsf
            have HSF := Aside0.mk hsf
            have H6 := Aside0.mk h6.own
            have HR6 := Aside0.mk (Kd.R_step HT.out.2 (fun k hk _ => hk6 k hk))
            clear h6 hk6 HT hsf hU HDN
            go_wp2_with fail
            refine (wicketlaw05_num.calls 0 0 _ rfl).mono ?_
            rintro e w7 ⟨rfl, hd7⟩
            have H7 := Aside0.mk (H6.out.tell hd7.below)
            replace HR6 := Aside0.mk (Kd.R_below HR6.out hd7.below)
            clear hd7 H6
            have BY9 := Aside0.mk ((H7.out.below.block By HBY.out.2).trans BY.out)
            have y0 := (blk_cell BY9.out 0).trans rfl
            have y1 := (blk_cell BY9.out 1).trans rfl
            go_wp2_with fail
            refine (wicketlaw05_crash.calls y.1 A3 c3 y.2 y.1 y.2 w7 (Kd.C_below HC3.out (below_step HBA.out H7.out.below)) HCc3.out (crash_f HY.out.len8)).mono ?_
            rintro e w10 ⟨v10, rfl, hr10, hb10⟩
            obtain ⟨A10, c10, hv10⟩ := Kd.R_slice hr10
            subst hv10
            have HR10 := Aside0.mk hr10
            have H10 := Aside0.mk (H7.out.tell hb10)
            have HB10 := Aside0.mk hb10
            clear hr10 hb10 y0 y1 H7
            go_wp2_with fail
            refine (disk_Left.own H10.out y.1 HY.out.d A10 c10 y.2 (Kd.R_reads' HR10.out).2.2 (Kd.R_reads' HR10.out).2.1 HY.out.t).mono ?_
            rintro e w12 ⟨v11, rfl, hr11, hb11, h11⟩
            obtain ⟨W5, hW5⟩ : ∃ W5, W5 = (leftOf U y.1 y.2).map mkF := ⟨_, rfl⟩
            rw [← hW5] at hr11
            have hl5 : W5.length = i := by rw [hW5, HSF.out.left, List.length_map, List.length_map, HM.out.1]
            obtain ⟨A5, c5, hv11⟩ := Kd.R_slice hr11
            rw [hl5] at hv11
            subst hv11
            have HW5 := Aside0.mk hW5
            have HL5 := Aside0.mk hl5
            have HR5 := Aside0.mk hr11
            have H12 := Aside0.mk h11
            replace HR6 := Aside0.mk (Kd.R_below HR6.out (below_step HB10.out hb11))
            clear hr11 hb11 h11 hl5 hW5 H10 HB10 HR10
            obtain ⟨M, rfl⟩ : ∃ M, M = i := ⟨_, rfl⟩
            go_wp2_with fail
            go_loopw [9] (fun v9 wr => ∃ i : Nat, i ≤ M ∧ v9 = .int .i64 i ∧ Aside0 (OwnD wb wr d U ∧ Below w12.heap.size w12 wr)) (fun v9 _ => M - (intOf v9).toNat)
            case atStart => exact ⟨0, Nat.zero_le _, rfl, ⟨H12.out, Below.refl _ _⟩⟩
            case round =>
              obtain ⟨i, hi, rfl, HJ⟩ := hrel
              have hM64 := HM.out.2
              by_cases hlt : i < M
              · obtain ⟨nmi, bs, hnm, hrd, hns, hbl, hlf⟩ := entry_safe HI1.out HSF.out y.1 y.2 (i := i) (by rw [← HM.out.1]; exact hlt)
                rw [← HW5.out] at hlf
                obtain ⟨ad6, rfl, q6⟩ := str_at (Kd.C_below (Kd.R_reads' HR6.out).2.2 HJ.out.2) i (by rw [List.length_map, ← HM.out.1]; exact hlt)
                rw [hnm] at q6
                have HRD := Aside0.mk hrd
                have HLF := Aside0.mk hlf
                have HQ6 := Aside0.mk q6
                have HBL := Aside0.mk hbl
                clear hnm hlf hrd hbl
                go_wp2_with fail
                refine (disk_Read.own HJ.out.1 nmi (by omega)).mono ?_
                rintro e w7 ⟨v7, rfl, hr7, hb7, h7⟩
                rw [HRD.out] at hr7 ⊢
                change Kd.R kB 5 w7 wr.heap.size (fun _ => True) v7 bs at hr7
                obtain ⟨A7, c7, hv7⟩ := Kd.R_slice hr7
                subst hv7
                obtain ⟨n1, hn1⟩ : ∃ n1, n1 = bs.length := ⟨_, rfl⟩
                have hg7 := (Kd.R_reads' hr7).2.2
                rw [← hn1] at hg7 ⊢
                have HG7 := Aside0.mk hg7
                have HJ7 : Aside0 (OwnD wb w7 d U ∧ Below w12.heap.size w12 w7) := ⟨h7, below_step HJ.out.2 hb7⟩
                obtain ⟨ad5, B1, e1, hA5, p0, p1, _, g5⟩ := file_at (Kd.C_below (Kd.R_reads' HR5.out).2.2 HJ7.out.2) i (by rw [HL5.out]; exact hlt) HLF.out
                have HRR := Aside0.mk HR5.out
                subst hA5
                change _ = some (Value.string nmi) at p0
                change _ = some (Value.slice B1 bs.length e1) at p1
                change Kd.C kB w7 B1 bs.length bs at g5
                rw [← hn1] at p1 g5
                have p2 := pw_cell_below hb7 q6
                have HG5 := Aside0.mk g5
                clear hr7 hb7 h7 hg7 hn1 g5 HJ q6 HQ6 HLF HRD HBL
                go_upto_region 24 with (fail)
                refine start_ (n := 26) (S := fun w' => w'.cell? (ad5.add (i * 2)) = some (.string nmi) ∧ w'.cell? ⟨(ad5.add (i * 2)).block, (ad5.add (i * 2)).off + 1, none⟩ = some (.slice B1 n1 e1) ∧ w'.cell? (ad6.add i) = some (.string nmi) ∧ (convert 53 9 (.slice B1 n1 e1)).run Try.prog w' = .ok (.string (strOfNums bs)) w' ∧ (convert 53 9 (.slice A7 n1 c7)).run Try.prog w' = .ok (.string (strOfNums bs)) w') (ds := []) #[false, false, false, false, false, false, false, false, false, false, false, false, false, false, false, false, false, false, false, false, false, false, false, false, false, false] (by kernel_rfl) rfl rfl ⟨p0, p1, p2, conv_str (Kd.C_below HG5.out (below_drew1 (Below.refl _ _))), conv_str (Kd.C_below HG7.out (below_drew1 (Below.refl _ _)))⟩ (fun hHeld => ?_)
                refine pure_ (i := 0) (N := some 75) (v := ?_) (a' := ?_) #[true, false, false, false, false, false, false, false, false, false, false, false, false, false, false, false, false, false, false, false, false, false, false, false, false, false] rfl rfl (by kernel_rfl) (fun _ _ _ h => h) (Or.inl ⟨by rfl, ?_⟩) ?_ ?_
                rotate_left
                · intro w'
                  go_simp
                  with_reducible rfl
                rotate_left
                · simp only [Act.put, List.setIfInBounds_toArray, List.set_cons_zero, List.set_cons_succ, i64_w, i32_w]
                  rfl
                refine one_ (i := 1) (N := some 76) #[true, true, false, false, false, false, false, false, false, false, false, false, false, false, false, false, false, false, false, false, false, false, false, false, false, false] rfl rfl (by kernel_rfl) (by decide) (fun K hK => ?_)
                refine goes_ Try.func19 (by kernel_rfl) rfl #[.int .i64 0] (by rfl) rfl rfl (by simp only [List.map_toArray, List.map_cons, List.map_nil]; rfl) ?_
                with_reducible refine (wicketlaw05_num.calls 0 0 _ rfl).mono ?_
                rintro e w8 ⟨rfl, hd8⟩
                have HD8 := Aside0.mk (below_step (below_drew1 (Below.refl w7.heap.size w7)) hd8.below)
                clear hd8
                refine ⟨_, rfl, ?_⟩
                refine hK.out _ _ ⟨pw_cell_below HD8.out p0, pw_cell_below HD8.out p1, pw_cell_below HD8.out p2, conv_str (Kd.C_below HG5.out HD8.out), conv_str (Kd.C_below HG7.out HD8.out)⟩ (fun hHeld => ?_)
                clear hK K
                refine norm_ (a' := ?_) ?_ ?_
                rotate_left
                · show Act.put _ (some 76) _ = _
                  simp only [Act.put, List.setIfInBounds_toArray, List.set_cons_zero, List.set_cons_succ, i64_w, i32_w]
                  rfl
                refine pure_ (i := 2) (N := some 77) (v := ?_) (a' := ?_) #[true, true, true, false, false, false, false, false, false, false, false, false, false, false, false, false, false, false, false, false, false, false, false, false, false, false] rfl rfl (by kernel_rfl) (fun _ _ _ h => h) (Or.inl ⟨by rfl, ?_⟩) ?_ ?_
                rotate_left
                · intro w'
                  go_simp
                  with_reducible rfl
                rotate_left
                · simp only [Act.put, List.setIfInBounds_toArray, List.set_cons_zero, List.set_cons_succ, i64_w, i32_w]
                  rfl
                refine pure_ (i := 3) (N := some 78) (v := ?_) (a' := ?_) #[true, true, true, true, false, false, false, false, false, false, false, false, false, false, false, false, false, false, false, false, false, false, false, false, false, false] rfl rfl (by kernel_rfl) (fun _ _ _ h => h) (Or.inl ⟨by rfl, ?_⟩) ?_ ?_
                rotate_left
                · intro w'
                  go_simp
                  with_reducible rfl
                rotate_left
                · simp only [Act.put, List.setIfInBounds_toArray, List.set_cons_zero, List.set_cons_succ, i64_w, i32_w]
                  rfl
                refine pure_ (i := 4) (N := some 79) (v := ?_) (a' := ?_) #[true, true, true, true, true, false, false, false, false, false, false, false, false, false, false, false, false, false, false, false, false, false, false, false, false, false] rfl rfl (by kernel_rfl) (fun _ _ _ h => h) (Or.inl ⟨by rfl, ?_⟩) ?_ ?_
                rotate_left
                · intro w'
                  go_simp
                  with_reducible rfl
                rotate_left
                · simp only [Act.put, List.setIfInBounds_toArray, List.set_cons_zero, List.set_cons_succ, i64_w, i32_w]
                  rfl
                refine pure_ (i := 5) (N := some 80) (v := ?_) (a' := ?_) #[true, true, true, true, true, true, false, false, false, false, false, false, false, false, false, false, false, false, false, false, false, false, false, false, false, false] rfl rfl (by kernel_rfl) (fun _ _ _ h => h) (Or.inl ⟨by rfl, ?_⟩) ?_ ?_
                rotate_left
                · intro w'
                  go_simp
                  with_reducible rfl
                rotate_left
                · simp only [Act.put, List.setIfInBounds_toArray, List.set_cons_zero, List.set_cons_succ, i64_w, i32_w]
                  rfl
                refine pure_ (i := 6) (N := some 81) (v := ?_) (a' := ?_) #[true, true, true, true, true, true, true, false, false, false, false, false, false, false, false, false, false, false, false, false, false, false, false, false, false, false] rfl rfl (by kernel_rfl) (fun _ _ _ h => h) (Or.inl ⟨by rfl, ?_⟩) ?_ ?_
                rotate_left
                · intro w'
                  go_simp
                  with_reducible rfl
                rotate_left
                · simp only [Act.put, List.setIfInBounds_toArray, List.set_cons_zero, List.set_cons_succ, i64_w, i32_w]
                  rfl
                refine pure_ (i := 7) (N := some 82) (v := ?_) (a' := ?_) #[true, true, true, true, true, true, true, true, false, false, false, false, false, false, false, false, false, false, false, false, false, false, false, false, false, false] rfl rfl (by kernel_rfl) (fun _ _ _ h => h) (Or.inl ⟨by rfl, ?_⟩) ?_ ?_
                rotate_left
                · intro w'
                  go_simp
                  with_reducible rfl
                rotate_left
                · simp only [Act.put, List.setIfInBounds_toArray, List.set_cons_zero, List.set_cons_succ, i64_w, i32_w]
                  rfl
                refine pure_ (i := 9) (N := some 84) (v := ?_) (a' := ?_) #[true, true, true, true, true, true, true, true, false, true, false, false, false, false, false, false, false, false, false, false, false, false, false, false, false, false] rfl rfl (by kernel_rfl) (fun _ _ _ h => h) (Or.inl ⟨by rfl, ?_⟩) ?_ ?_
                rotate_left
                · intro w'
                  go_simp
                  with_reducible rfl
                rotate_left
                · simp only [Act.put, List.setIfInBounds_toArray, List.set_cons_zero, List.set_cons_succ, i64_w, i32_w]
                  rfl
                refine pure_ (i := 10) (N := some 85) (v := ?_) (a' := ?_) #[true, true, true, true, true, true, true, true, false, true, true, false, false, false, false, false, false, false, false, false, false, false, false, false, false, false] rfl rfl (by kernel_rfl) (fun _ _ _ h => h) (Or.inl ⟨by rfl, ?_⟩) ?_ ?_
                rotate_left
                · intro w'
                  go_simp
                  with_reducible rfl
                rotate_left
                · simp only [Act.put, List.setIfInBounds_toArray, List.set_cons_zero, List.set_cons_succ, i64_w, i32_w]
                  rfl
                refine pure_ (i := 11) (N := some 86) (v := ?_) (a' := ?_) #[true, true, true, true, true, true, true, true, false, true, true, true, false, false, false, false, false, false, false, false, false, false, false, false, false, false] rfl rfl (by kernel_rfl) (fun _ _ _ h => h) (Or.inl ⟨by rfl, ?_⟩) ?_ ?_
                rotate_left
                · intro w'
                  go_simp
                  with_reducible rfl
                rotate_left
                · simp only [Act.put, List.setIfInBounds_toArray, List.set_cons_zero, List.set_cons_succ, i64_w, i32_w]
                  rfl
                refine take_ (i := 8) (N := some 83) (v := ?_) (a' := ?_) #[true, true, true, true, true, true, true, true, true, true, true, true, false, false, false, false, false, false, false, false, false, false, false, false, false, false] rfl rfl (by kernel_rfl) (fun _ _ _ h => h) (Or.inl ⟨by rfl, ?_⟩) hHeld ?_ ?_
                rotate_left
                · rintro w' ⟨s0, s1, s2, s3, s4⟩
                  go_simp
                  with_reducible rfl
                rotate_left
                · simp only [Act.put, List.setIfInBounds_toArray, List.set_cons_zero, List.set_cons_succ, i64_w, i32_w]
                  rfl
                refine take_ (i := 12) (N := some 87) (v := ?_) (a' := ?_) #[true, true, true, true, true, true, true, true, true, true, true, true, true, false, false, false, false, false, false, false, false, false, false, false, false, false] rfl rfl (by kernel_rfl) (fun _ _ _ h => h) (Or.inl ⟨by rfl, ?_⟩) hHeld ?_ ?_
                rotate_left
                · rintro w' ⟨s0, s1, s2, s3, s4⟩
                  go_simp
                  with_reducible rfl
                rotate_left
                · simp only [Act.put, List.setIfInBounds_toArray, List.set_cons_zero, List.set_cons_succ, i64_w, i32_w]
                  rfl
                refine pure_ (i := 13) (N := some 88) (v := ?_) (a' := ?_) #[true, true, true, true, true, true, true, true, true, true, true, true, true, true, false, false, false, false, false, false, false, false, false, false, false, false] rfl rfl (by kernel_rfl) (fun _ _ _ h => h) (Or.inl ⟨by rfl, ?_⟩) ?_ ?_
                rotate_left
                · intro w'
                  go_simp
                  with_reducible rfl
                rotate_left
                · simp only [Act.put, List.setIfInBounds_toArray, List.set_cons_zero, List.set_cons_succ, i64_w, i32_w]
                  rfl
                refine pure_ (i := 14) (N := some 89) (v := ?_) (a' := ?_) #[true, true, true, true, true, true, true, true, true, true, true, true, true, true, true, false, false, false, false, false, false, false, false, false, false, false] rfl rfl (by kernel_rfl) (fun _ _ _ h => h) (Or.inl ⟨by rfl, ?_⟩) ?_ ?_
                rotate_left
                · intro w'
                  go_simp
                  with_reducible rfl
                rotate_left
                · simp only [Act.put, List.setIfInBounds_toArray, List.set_cons_zero, List.set_cons_succ, i64_w, i32_w]
                  rfl
                refine pure_ (i := 15) (N := some 90) (v := ?_) (a' := ?_) #[true, true, true, true, true, true, true, true, true, true, true, true, true, true, true, true, false, false, false, false, false, false, false, false, false, false] rfl rfl (by kernel_rfl) (fun _ _ _ h => h) (Or.inl ⟨by rfl, ?_⟩) ?_ ?_
                rotate_left
                · intro w'
                  go_simp
                  with_reducible rfl
                rotate_left
                · simp only [Act.put, List.setIfInBounds_toArray, List.set_cons_zero, List.set_cons_succ, i64_w, i32_w]
                  rfl
                refine pure_ (i := 16) (N := some 91) (v := ?_) (a' := ?_) #[true, true, true, true, true, true, true, true, true, true, true, true, true, true, true, true, true, false, false, false, false, false, false, false, false, false] rfl rfl (by kernel_rfl) (fun _ _ _ h => h) (Or.inl ⟨by rfl, ?_⟩) ?_ ?_
                rotate_left
                · intro w'
                  go_simp
                  with_reducible rfl
                rotate_left
                · simp only [Act.put, List.setIfInBounds_toArray, List.set_cons_zero, List.set_cons_succ, i64_w, i32_w]
                  rfl
                refine pure_ (i := 17) (N := some 92) (v := ?_) (a' := ?_) #[true, true, true, true, true, true, true, true, true, true, true, true, true, true, true, true, true, true, false, false, false, false, false, false, false, false] rfl rfl (by kernel_rfl) (fun _ _ _ h => h) (Or.inl ⟨by rfl, ?_⟩) ?_ ?_
                rotate_left
                · intro w'
                  go_simp
                  with_reducible rfl
                rotate_left
                · simp only [Act.put, List.setIfInBounds_toArray, List.set_cons_zero, List.set_cons_succ, i64_w, i32_w]
                  rfl
                refine pure_ (i := 18) (N := some 93) (v := ?_) (a' := ?_) #[true, true, true, true, true, true, true, true, true, true, true, true, true, true, true, true, true, true, true, false, false, false, false, false, false, false] rfl rfl (by kernel_rfl) (fun _ _ _ h => h) (Or.inl ⟨by rfl, ?_⟩) ?_ ?_
                rotate_left
                · intro w'
                  go_simp
                  with_reducible rfl
                rotate_left
                · simp only [Act.put, List.setIfInBounds_toArray, List.set_cons_zero, List.set_cons_succ, i64_w, i32_w]
                  rfl
                refine pure_ (i := 19) (N := some 94) (v := ?_) (a' := ?_) #[true, true, true, true, true, true, true, true, true, true, true, true, true, true, true, true, true, true, true, true, false, false, false, false, false, false] rfl rfl (by kernel_rfl) (fun _ _ _ h => h) (Or.inl ⟨by rfl, ?_⟩) ?_ ?_
                rotate_left
                · intro w'
                  go_simp
                  with_reducible rfl
                rotate_left
                · simp only [Act.put, List.setIfInBounds_toArray, List.set_cons_zero, List.set_cons_succ, i64_w, i32_w]
                  rfl
                refine pure_ (i := 22) (N := some 97) (v := ?_) (a' := ?_) #[true, true, true, true, true, true, true, true, true, true, true, true, true, true, true, true, true, true, true, true, false, false, true, false, false, false] rfl rfl (by kernel_rfl) (fun _ _ _ h => h) (Or.inl ⟨by rfl, ?_⟩) ?_ ?_
                rotate_left
                · intro w'
                  go_simp
                  with_reducible rfl
                rotate_left
                · simp only [Act.put, List.setIfInBounds_toArray, List.set_cons_zero, List.set_cons_succ, i64_w, i32_w]
                  rfl
                refine take_ (i := 20) (N := some 95) (v := ?_) (a' := ?_) #[true, true, true, true, true, true, true, true, true, true, true, true, true, true, true, true, true, true, true, true, true, false, true, false, false, false] rfl rfl (by kernel_rfl) (fun _ _ _ h => h) (Or.inl ⟨by rfl, ?_⟩) hHeld ?_ ?_
                rotate_left
                · rintro w' ⟨s0, s1, s2, s3, s4⟩
                  go_simp
                  with_reducible rfl
                rotate_left
                · simp only [Act.put, List.setIfInBounds_toArray, List.set_cons_zero, List.set_cons_succ, i64_w, i32_w]
                  rfl
                refine take_ (i := 21) (N := some 96) (v := ?_) (a' := ?_) #[true, true, true, true, true, true, true, true, true, true, true, true, true, true, true, true, true, true, true, true, true, true, true, false, false, false] rfl rfl (by kernel_rfl) (fun _ _ _ h => h) (Or.inl ⟨by rfl, ?_⟩) hHeld ?_ ?_
                rotate_left
                · rintro w' ⟨s0, s1, s2, s3, s4⟩
                  go_simp
                  with_reducible rfl
                rotate_left
                · simp only [Act.put, List.setIfInBounds_toArray, List.set_cons_zero, List.set_cons_succ, i64_w, i32_w]
                  rfl
                refine take_ (i := 23) (N := some 98) (v := ?_) (a' := ?_) #[true, true, true, true, true, true, true, true, true, true, true, true, true, true, true, true, true, true, true, true, true, true, true, true, false, false] rfl rfl (by kernel_rfl) (fun _ _ _ h => h) (Or.inl ⟨by rfl, ?_⟩) hHeld ?_ ?_
                rotate_left
                · rintro w' ⟨s0, s1, s2, s3, s4⟩
                  go_simp
                  with_reducible rfl
                rotate_left
                · simp only [Act.put, List.setIfInBounds_toArray, List.set_cons_zero, List.set_cons_succ, i64_w, i32_w]
                  rfl
                refine pure_ (i := 24) (N := some 99) (v := ?_) (a' := ?_) #[true, true, true, true, true, true, true, true, true, true, true, true, true, true, true, true, true, true, true, true, true, true, true, true, true, false] rfl rfl (by kernel_rfl) (fun _ _ _ h => h) (Or.inl ⟨by rfl, ?_⟩) ?_ ?_
                rotate_left
                · intro w'
                  go_simp
                  with_reducible rfl
                rotate_left
                · simp only [Act.put, List.setIfInBounds_toArray, List.set_cons_zero, List.set_cons_succ, i64_w, i32_w]
                  rfl
                refine pure_ (i := 25) (N := some 100) (v := ?_) (a' := ?_) #[true, true, true, true, true, true, true, true, true, true, true, true, true, true, true, true, true, true, true, true, true, true, true, true, true, true] rfl rfl (by kernel_rfl) (fun _ _ _ h => h) (Or.inl ⟨by rfl, ?_⟩) ?_ ?_
                rotate_left
                · intro w'
                  go_simp
                  with_reducible rfl
                rotate_left
                · simp only [Act.put, List.setIfInBounds_toArray, List.set_cons_zero, List.set_cons_succ, i64_w, i32_w]
                  rfl
                refine done_ (by kernel_rfl) ?_
                have HJ8 : Aside0 (OwnD wb w8 d U ∧ Below w12.heap.size w12 w8) := ⟨HJ7.out.1.tell HD8.out, below_step HJ7.out.2 HD8.out⟩
                clear p0 p1 p2 HJ7 HD8 HG5 HG7
                go_wp2_with fail
                go_roundw
                case rel => exact ⟨i + 1, by omega, by go_num, HJ8⟩
                case measure => simp [intOf]; omega
              · go_wp2_with fail
                go_ret
                exact ⟨rfl, below_step HBA.out HJ.out.1.below⟩
theorem diskSafe_machine (w : World) (cs : Array Value) (x : StD) (hk : kStory.K w x cs.toList) (hw : StW x) (hb : bSt x ≤ 1048576) (cs2 : Array Value) (y : CrD) (hk2 : kCr.K w y cs2.toList) (hw2 : CrW y) (hb2 : bCr y ≤ 1048576) :
    Calls Try.prog 7 #[.agg cs, .agg cs2] w fun e w' => e = .returned (.bool true) ∧ Below w.heap.size w w' := by
  obtain ⟨A, c, A2, c2, hcs, hc, hC, hc2, hC2⟩ := kStory_open hk
  obtain rfl : cs = #[.slice A x.files.length c, .int .i64 x.room, .slice A2 x.acts.length c2] := Array.ext' hcs
  obtain ⟨A3, c3, hcs3, hc3, hC3⟩ := kCr_open hk2
  obtain rfl : cs2 = #[.int .i64 y.1, .slice A3 y.2.length c3] := Array.ext' hcs3
  exact diskSafe.walk x (StB.of hw hb) y (CrB.of hw2 hb2) A c A2 c2 A3 c3 w hC hc hC2 hC3 hc3
end Go.Proofs.Ythmkdmdfahhpmaa.Hand
