/- Disk: the laws DiskNews, DiskPlays, DiskSteps. -/
import Derived.Test.YtdekcjopgnfmdaaDskBO
import Derived.Test.YtdekcjopgnfmdaaDskBL
import Derived.Test.YtdekcjopgnfmdaaDskBM
import Derived.Test.YtdekcjopgnfmdaaDskBN
namespace Go.Proofs.Ytdekcjopgnfmdaa.Hand
open Go.RowKit Go.Maps Go.Proofs.YtdekcjopgnfmdaaW.PrintWords Go.Proofs.YtdekcjopgnfmdaaW.PrintLast Go.Proofs.YtdekcjopgnfmdaaW.PrintMore Go.Proofs.Ytdekcjopgnfmdaa.Q
set_option linter.unusedVariables false
set_option linter.unusedSimpArgs false
set_option maxHeartbeats 2000000 in
set_option maxRecDepth 100000 in
theorem diskNews.walk (x : StD) (hx : StB x) (A : Option Addr) (c : Nat) (A2 : Option Addr) (c2 : Nat) (w : World) (hC : Kd.C kF w A x.files.length x.files) (hc : x.files.length ≤ c) (hC2 : Kd.C kAct w A2 x.acts.length x.acts) :
    Calls Try.prog 4 #[.agg #[.slice A x.files.length c, .int .i64 x.room, .slice A2 x.acts.length c2]] w fun e w' => e = .returned (.bool true) ∧ Below w.heap.size w w' := by
  have HX := Aside0.mk hx; have HC := Aside0.mk hC; have HCc := Aside0.mk hc; have HC2 := Aside0.mk hC2; have hal := hx.al; have hbeg := fun (w2 : World) (h : Kd.C kF w2 A x.files.length x.files) => law_begin.calls x HX.out A c A2 c2 w2 h HCc.out; obtain ⟨N, hN⟩ : ∃ N, N = x.acts.length := ⟨_, rfl⟩; rw [← hN] at hbeg; have HBEG := Aside0.mk hbeg; have HN := Aside0.mk hN; rw [← hN]; have hN2 : (N : Int) ≤ 9223372036854775807 := by omega
  clear hx hC hc hC2 hN hal hbeg; go_enter Try.func4, Try.ntmps4
  go_upto_region 1 with (fail)
  obtain ⟨wa, Bx, hwa, hBx, bx, hba, hsa⟩ := boxed w (.cells #[.slice A x.files.length c, .int .i64 x.room, .slice A2 N c2] 28 (0, 0)); rw [← hwa, ← hBx]; have HBA := Aside0.mk hba; have HBX : Aside0 (Bx < wa.heap.size) := ⟨by omega⟩; have BX := Aside0.mk bx; have d0 := (blk_cell bx 0).trans rfl; have d1 := (blk_cell bx 1).trans rfl; have d2 := (blk_cell bx 2).trans rfl; clear hwa hBx bx hba hsa; go_wp2_with fail
  refine (HBEG.out _ (Kd.C_below HC.out HBA.out)).mono ?_; rintro e w2 ⟨hb2, ⟨h0, rfl⟩ | ⟨h0, d, r, rfl, hD⟩⟩
  · have HB2 := Aside0.mk (below_step HBA.out hb2); clear hb2 d0 d1 d2; go_wp2_with fail
    refine (law_live.calls _).mono ?_; rintro e w3 ⟨rfl, hb⟩; have HB3 := Aside0.mk (below_step HB2.out hb); clear hb; go_wp2_with fail
    go_ret; exact ⟨rfl, HB3.out⟩
  · have HB2 := Aside0.mk (below_step HBA.out hb2); have HD := Aside0.mk hD; clear hb2 d0 d1 d2 hD; go_wp2_with fail
    refine (law_live.calls _).mono ?_; rintro e w3 ⟨rfl, hb⟩; have HB3 := Aside0.mk (below_step HB2.out hb); have HD3 := Aside0.mk (HD.out.tell hb); clear hb HD; go_wp2_with fail
    refine (law_all.calls HD3.out).mono ?_; rintro e w4 ⟨rfl, hb⟩; have HB4 := Aside0.mk (below_step HB3.out hb); clear hb HD3; go_wp2_with fail
    go_ret; exact ⟨rfl, HB4.out⟩
theorem diskNews_machine (w : World) (cs : Array Value) (x : StD) (hk : kStory.K w x cs.toList) (hw : StW x) (hb : bSt x ≤ 1048576) :
    Calls Try.prog 4 #[.agg cs] w fun e w' => e = .returned (.bool true) ∧ Below w.heap.size w w' := by
  obtain ⟨A, c, A2, c2, hcs, hc, hC, hc2, hC2⟩ := kStory_open hk; obtain rfl : cs = #[.slice A x.files.length c, .int .i64 x.room, .slice A2 x.acts.length c2] := Array.ext' hcs; exact diskNews.walk x (StB.of hw hb) A c A2 c2 w hC hc hC2
set_option maxHeartbeats 2000000 in
set_option maxRecDepth 100000 in
theorem diskPlays.walk (x : StD) (hx : StB x) (A : Option Addr) (c : Nat) (A2 : Option Addr) (c2 : Nat) (w : World) (hC : Kd.C kF w A x.files.length x.files) (hc : x.files.length ≤ c) (hC2 : Kd.C kAct w A2 x.acts.length x.acts) :
    Calls Try.prog 10 #[.agg #[.slice A x.files.length c, .int .i64 x.room, .slice A2 x.acts.length c2]] w fun e w' => e = .returned (.bool true) ∧ Below w.heap.size w w' := by
  have HX := Aside0.mk hx; have HC := Aside0.mk hC; have HCc := Aside0.mk hc; have HC2 := Aside0.mk hC2; have hal := hx.al; have hbeg := fun (w2 : World) (h : Kd.C kF w2 A x.files.length x.files) => law_begin.calls x HX.out A c A2 c2 w2 h HCc.out; obtain ⟨N, hN⟩ : ∃ N, N = x.acts.length := ⟨_, rfl⟩; rw [← hN] at hbeg; have HBEG := Aside0.mk hbeg; have HN := Aside0.mk hN; rw [← hN]; have hN2 : (N : Int) ≤ 9223372036854775807 := by omega
  clear hx hC hc hC2 hN hal hbeg; go_enter Try.func10, Try.ntmps10
  go_upto_region 1 with (fail)
  obtain ⟨wa, Bx, hwa, hBx, bx, hba, hsa⟩ := boxed w (.cells #[.slice A x.files.length c, .int .i64 x.room, .slice A2 N c2] 28 (0, 0)); rw [← hwa, ← hBx]; have HBA := Aside0.mk hba; have HBX : Aside0 (Bx < wa.heap.size) := ⟨by omega⟩; have BX := Aside0.mk bx; have d0 := (blk_cell bx 0).trans rfl; have d1 := (blk_cell bx 1).trans rfl; have d2 := (blk_cell bx 2).trans rfl; clear hwa hBx bx hba hsa; go_wp2_with fail
  refine (HBEG.out _ (Kd.C_below HC.out HBA.out)).mono ?_; rintro e w2 ⟨hb2, ⟨h0, rfl⟩ | ⟨h0, d, r, rfl, hD⟩⟩
  · have HB2 := Aside0.mk (below_step HBA.out hb2); clear hb2 d0 d1 d2; go_wp2_with fail
    refine (law_live.calls _).mono ?_; rintro e w3 ⟨rfl, hb⟩; have HB3 := Aside0.mk (below_step HB2.out hb); clear hb; go_wp2_with fail
    refine (law_live.calls _).mono ?_; rintro e w4 ⟨rfl, hb⟩; have HB4 := Aside0.mk (below_step HB3.out hb); clear hb; go_wp2_with fail
    go_ret; exact ⟨rfl, HB4.out⟩
  · have HD := Aside0.mk hD; have hS0 : (newOf x.room x.files).1 = playN x 0 := rfl; rw [hS0] at HD; clear hb2 d0 d1 d2 hD hS0 h0; go_wp2_with fail
    refine (law_live.calls _).mono ?_; rintro e w3 ⟨rfl, hb⟩; have HD3 := Aside0.mk (HD.out.tell hb); clear hb HD; go_wp2_with fail
    go_loopw [6] (fun v6 wr => ∃ i : Nat, i ≤ N ∧ v6 = .int .i64 i ∧ Aside0 (DuoD wa wr (fun _ => False) d r (playN x i) (playN x i))) (fun v6 _ => N - (intOf v6).toNat)
    case atStart => exact ⟨0, Nat.zero_le _, rfl, HD3⟩
    case round =>
      clear HD3; obtain ⟨i, hi, rfl, HI⟩ := hrel; have hBW := HI.out.below; have d2 := (blk_cell ((hBW.block Bx HBX.out).trans BX.out) 2).trans rfl; by_cases hlt : i < N
      · have hok := HX.out.a _ (actN_mem (xs := x.acts) (i := i) (by have := HN.out; omega)); have HST := Aside0.mk (playN_next x i (by have := HN.out; omega)); obtain ⟨ad, Ap, cp, Ac, cc, hA, hcp, hCp, hcc, hCc, h0, h1, h2, h3, h4, h5, h6⟩ := act_at (Kd.C_below HC2.out HBA.out) i (by have := HN.out; omega); obtain ⟨a, hact⟩ : ∃ a, a = actN x.acts i := ⟨_, rfl⟩; rw [← hact] at hcp hCp hcc hCc h0 h1 h2 h3 h4 h5 h6 hok HST; have hch := law_changes.calls HI.out a hok Ap cp Ac cc hCp hcp; have HCC := Aside0.mk (And.intro hcc hCc); unfold actCells at hch; obtain ⟨L, hL⟩ : ∃ L, L = a.p.length := ⟨_, rfl⟩; obtain ⟨M, hM⟩ : ∃ M, M = a.c.2.length := ⟨_, rfl⟩; rw [← hL, ← hM] at hch; rw [← hL] at h3; rw [← hM] at h6; have HCE := Aside0.mk (And.intro h0 (And.intro h1 (And.intro h2 (And.intro h3 (And.intro h4 (And.intro h5 h6)))))); replace h0 := pw_cell_below hBW h0; replace h1 := pw_cell_below hBW h1; replace h2 := pw_cell_below hBW h2; replace h3 := pw_cell_below hBW h3; replace h4 := pw_cell_below hBW h4; replace h5 := pw_cell_below hBW h5; replace h6 := pw_cell_below hBW h6; have HCH := Aside0.mk hch; have HOK := Aside0.mk hok; have HLM := Aside0.mk (And.intro hL hM); subst hA; clear hch hok hact hcp hCp hcc hCc hBW hL hM; go_wp2_with fail
        refine HCH.out.mono ?_; rintro e w5 ⟨rfl, hD5⟩; have HD5 : Aside0 (DuoD wa w5 (fun _ => False) d r (playN x (i + 1)) (playN x (i + 1))) := ⟨by rw [HST.out]; exact hD5⟩; clear HCH hD5 h0 h1 h2 h3 h4 h5 h6 d2 HI HST; have hBW := HD5.out.below; have d2 := (blk_cell ((hBW.block Bx HBX.out).trans BX.out) 2).trans rfl; obtain ⟨h0, h1, h2, h3, h4, h5, h6⟩ := HCE.out; replace h0 := pw_cell_below hBW h0; replace h1 := pw_cell_below hBW h1; replace h2 := pw_cell_below hBW h2; replace h3 := pw_cell_below hBW h3; replace h4 := pw_cell_below hBW h4; replace h5 := pw_cell_below hBW h5; replace h6 := pw_cell_below hBW h6; have hch := law_asks.calls HD5.out a HOK.out Ap cp Ac cc HCC.out.2 HCC.out.1; unfold actCells at hch; rw [← HLM.out.1, ← HLM.out.2] at hch; have HCH := Aside0.mk hch; clear hch hBW; go_wp2_with fail
        refine HCH.out.mono ?_; rintro e w6 ⟨rfl, hb⟩; have HD6 := Aside0.mk (HD5.out.tell hb); clear HCH hb h0 h1 h2 h3 h4 h5 h6 d2 HD5; go_wp2_with fail
        go_roundw
        case rel => exact ⟨i + 1, by omega, by go_num, HD6⟩
        case measure => simp [intOf]; omega
      · go_wp2_with fail
        refine (law_all.calls HI.out).mono ?_; rintro e w6 ⟨rfl, hb⟩; have HB6 := Aside0.mk (below_step HBA.out (below_step HI.out.below hb)); clear hb; go_wp2_with fail
        go_ret; exact ⟨rfl, HB6.out⟩
theorem diskPlays_machine (w : World) (cs : Array Value) (x : StD) (hk : kStory.K w x cs.toList) (hw : StW x) (hb : bSt x ≤ 1048576) :
    Calls Try.prog 10 #[.agg cs] w fun e w' => e = .returned (.bool true) ∧ Below w.heap.size w w' := by
  obtain ⟨A, c, A2, c2, hcs, hc, hC, hc2, hC2⟩ := kStory_open hk; obtain rfl : cs = #[.slice A x.files.length c, .int .i64 x.room, .slice A2 x.acts.length c2] := Array.ext' hcs; exact diskPlays.walk x (StB.of hw hb) A c A2 c2 w hC hc hC2
set_option maxHeartbeats 2000000 in
set_option maxRecDepth 100000 in
theorem diskSteps.walk (x : StD) (hx : StB x) (A : Option Addr) (c : Nat) (A2 : Option Addr) (c2 : Nat) (w : World) (hC : Kd.C kF w A x.files.length x.files) (hc : x.files.length ≤ c) (hC2 : Kd.C kAct w A2 x.acts.length x.acts) :
    Calls Try.prog 7 #[.agg #[.slice A x.files.length c, .int .i64 x.room, .slice A2 x.acts.length c2]] w fun e w' => e = .returned (.bool true) ∧ Below w.heap.size w w' := by
  have HX := Aside0.mk hx; have HC := Aside0.mk hC; have HCc := Aside0.mk hc; have HC2 := Aside0.mk hC2; have hal := hx.al; have hbeg := fun (w2 : World) (h : Kd.C kF w2 A x.files.length x.files) => law_begin.calls x HX.out A c A2 c2 w2 h HCc.out; obtain ⟨N, hN⟩ : ∃ N, N = x.acts.length := ⟨_, rfl⟩; rw [← hN] at hbeg; have HBEG := Aside0.mk hbeg; have HN := Aside0.mk hN; rw [← hN]; have hN2 : (N : Int) ≤ 9223372036854775807 := by omega
  clear hx hC hc hC2 hN hal hbeg; go_enter Try.func7, Try.ntmps7
  go_upto_region 1 with (fail)
  obtain ⟨wa, Bx, hwa, hBx, bx, hba, hsa⟩ := boxed w (.cells #[.slice A x.files.length c, .int .i64 x.room, .slice A2 N c2] 28 (0, 0)); rw [← hwa, ← hBx]; have HBA := Aside0.mk hba; have HBX : Aside0 (Bx < wa.heap.size) := ⟨by omega⟩; have BX := Aside0.mk bx; have d0 := (blk_cell bx 0).trans rfl; have d1 := (blk_cell bx 1).trans rfl; have d2 := (blk_cell bx 2).trans rfl; clear hwa hBx bx hba hsa; go_wp2_with fail
  refine (HBEG.out _ (Kd.C_below HC.out HBA.out)).mono ?_; rintro e w2 ⟨hb2, ⟨h0, rfl⟩ | ⟨h0, d, r, rfl, hD⟩⟩
  · have HB2 := Aside0.mk (below_step HBA.out hb2); clear hb2 d0 d1 d2; go_wp2_with fail
    refine (law_live.calls _).mono ?_; rintro e w3 ⟨rfl, hb⟩; have HB3 := Aside0.mk (below_step HB2.out hb); clear hb; go_wp2_with fail
    refine (law_live.calls _).mono ?_; rintro e w4 ⟨rfl, hb⟩; have HB4 := Aside0.mk (below_step HB3.out hb); clear hb; go_wp2_with fail
    go_ret; exact ⟨rfl, HB4.out⟩
  · have HD := Aside0.mk hD; have hS0 : (newOf x.room x.files).1 = playN x 0 := rfl; rw [hS0] at HD; clear hb2 d0 d1 d2 hD hS0 h0; go_wp2_with fail
    refine (law_live.calls _).mono ?_; rintro e w3 ⟨rfl, hb⟩; have HD3 := Aside0.mk (HD.out.tell hb); clear hb HD; go_wp2_with fail
    go_loopw [6] (fun v6 wr => ∃ i : Nat, i ≤ N ∧ v6 = .int .i64 i ∧ Aside0 (DuoD wa wr (fun _ => False) d r (playN x i) (playN x i))) (fun v6 _ => N - (intOf v6).toNat)
    case atStart => exact ⟨0, Nat.zero_le _, rfl, HD3⟩
    case round =>
      clear HD3; obtain ⟨i, hi, rfl, HI⟩ := hrel; have hBW := HI.out.below; have d2 := (blk_cell ((hBW.block Bx HBX.out).trans BX.out) 2).trans rfl; by_cases hlt : i < N
      · have hok := HX.out.a _ (actN_mem (xs := x.acts) (i := i) (by have := HN.out; omega)); have HST := Aside0.mk (playN_next x i (by have := HN.out; omega)); obtain ⟨ad, Ap, cp, Ac, cc, hA, hcp, hCp, hcc, hCc, h0, h1, h2, h3, h4, h5, h6⟩ := act_at (Kd.C_below HC2.out HBA.out) i (by have := HN.out; omega); obtain ⟨a, hact⟩ : ∃ a, a = actN x.acts i := ⟨_, rfl⟩; rw [← hact] at hcp hCp hcc hCc h0 h1 h2 h3 h4 h5 h6 hok HST; have hch := law_changes.calls HI.out a hok Ap cp Ac cc hCp hcp; have HCC := Aside0.mk (And.intro hcc hCc); unfold actCells at hch; obtain ⟨L, hL⟩ : ∃ L, L = a.p.length := ⟨_, rfl⟩; obtain ⟨M, hM⟩ : ∃ M, M = a.c.2.length := ⟨_, rfl⟩; rw [← hL, ← hM] at hch; rw [← hL] at h3; rw [← hM] at h6; have HCE := Aside0.mk (And.intro h0 (And.intro h1 (And.intro h2 (And.intro h3 (And.intro h4 (And.intro h5 h6)))))); replace h0 := pw_cell_below hBW h0; replace h1 := pw_cell_below hBW h1; replace h2 := pw_cell_below hBW h2; replace h3 := pw_cell_below hBW h3; replace h4 := pw_cell_below hBW h4; replace h5 := pw_cell_below hBW h5; replace h6 := pw_cell_below hBW h6; have HCH := Aside0.mk hch; have HOK := Aside0.mk hok; have HLM := Aside0.mk (And.intro hL hM); subst hA; clear hch hok hact hcp hCp hcc hCc hBW hL hM; go_wp2_with fail
        refine HCH.out.mono ?_; rintro e w5 ⟨rfl, hD5⟩; have HD5 : Aside0 (DuoD wa w5 (fun _ => False) d r (playN x (i + 1)) (playN x (i + 1))) := ⟨by rw [HST.out]; exact hD5⟩; clear HCH hD5 h0 h1 h2 h3 h4 h5 h6 d2 HI HST; go_wp2_with fail
        refine (law_all.calls HD5.out).mono ?_; rintro e w6 ⟨rfl, hb⟩; have HD6 := Aside0.mk (HD5.out.tell hb); clear hb HD5; go_wp2_with fail
        go_roundw
        case rel => exact ⟨i + 1, by omega, by go_num, HD6⟩
        case measure => simp [intOf]; omega
      · have HB6 := Aside0.mk (below_step HBA.out HI.out.below); go_wp2_with fail
        go_ret; exact ⟨rfl, HB6.out⟩
theorem diskSteps_machine (w : World) (cs : Array Value) (x : StD) (hk : kStory.K w x cs.toList) (hw : StW x) (hb : bSt x ≤ 1048576) :
    Calls Try.prog 7 #[.agg cs] w fun e w' => e = .returned (.bool true) ∧ Below w.heap.size w w' := by
  obtain ⟨A, c, A2, c2, hcs, hc, hC, hc2, hC2⟩ := kStory_open hk; obtain rfl : cs = #[.slice A x.files.length c, .int .i64 x.room, .slice A2 x.acts.length c2] := Array.ext' hcs; exact diskSteps.walk x (StB.of hw hb) A c A2 c2 w hC hc hC2
end Go.Proofs.Ytdekcjopgnfmdaa.Hand
