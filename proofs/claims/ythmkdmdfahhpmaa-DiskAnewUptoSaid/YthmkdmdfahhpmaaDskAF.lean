/- Disk: the law DiskAnew. -/
import Derived.Test.YthmkdmdfahhpmaaDskAE
import Derived.Test.YthmkdmdfahhpmaaDskAB
namespace Go.Proofs.Ythmkdmdfahhpmaa.Hand
open Go.RowKit Go.Maps Go.Proofs.YthmkdmdfahhpmaaW.PrintWords Go.Proofs.YthmkdmdfahhpmaaW.PrintLast Go.Proofs.YthmkdmdfahhpmaaW.PrintMore Go.Proofs.Ythmkdmdfahhpmaa.Q
set_option linter.unusedVariables false
set_option linter.unusedSimpArgs false
theorem RiseB.fsB {L : List PairD} (h : RiseB L) : FsB (L.map mkF) := ⟨by rw [List.length_map]; have := h.ll; omega, fun f hf => by obtain ⟨z, hz, rfl⟩ := List.mem_map.1 hf; have := h.len z hz; show z.2.length < _; omega⟩
theorem nameOk_le {s : ByteArray} (h : nameOk s = true) : s.size ≤ 9223372036854775807 := by have := (nameOk_size h).2; omega
theorem RiseB.filOk {L : List PairD} (h : RiseB L) : ∀ f, f ∈ L.map mkF → FilOk f := fun f hf => by
  obtain ⟨e, he, rfl⟩ := List.mem_map.1 hf
  exact ⟨nameOk_le (h.nm e he), h.byt e he⟩
def newL (L : List PairD) : DS := { dsL 1099511627776 L with safe := dirL L }
theorem new_rise {L : List PairD} (h : RiseB L) (A : Option Addr) (c : Nat) (w : World) (hC : Kd.C kF w A (L.map mkF).length (L.map mkF)) (hc : (L.map mkF).length ≤ c) :
    Calls Try.prog 17 #[.slice A (L.map mkF).length c, .int .i64 1099511627776] w fun e w' => Below w.heap.size w w' ∧ ∃ n, e = .returned (.tuple #[.pointer (some ⟨n, 0, none⟩), .int .i64 0]) ∧ OwnD w w' n (newL L) := by
  obtain ⟨RM, hRM⟩ : ∃ RM : Int, RM = 1099511627776 := ⟨_, rfl⟩
  have h1 := disk_New.own RM (by omega) A c (L.map mkF) w hC hc h.filOk
  have h2 : newOf RM (L.map mkF) = (newL L, 0) := by rw [hRM]; exact newOf_rise h
  rw [h2] at h1
  rw [← hRM]
  refine h1.mono ?_
  rintro e w6 ⟨hb6, ⟨-, n, rfl, h6⟩ | ⟨h0, -⟩⟩
  · exact ⟨hb6, n, rfl, h6⟩
  · exact absurd rfl h0
set_option maxHeartbeats 400000 in
set_option maxRecDepth 100000 in
theorem diskAnew.walk (x : StD) (hx : StB x) (y : CrD) (hy : CrB y) (z : CrD) (hz : CrB z) (A : Option Addr) (c : Nat) (A2 : Option Addr) (c2 : Nat) (A3 : Option Addr) (c3 : Nat) (A4 : Option Addr) (c4 : Nat) (w : World) (hC : Kd.C kF w A x.files.length x.files) (hc : x.files.length ≤ c) (hC2 : Kd.C kAct w A2 x.acts.length x.acts) (hC3 : Kd.C (Kd.int .i64) w A3 y.2.length y.2) (hc3 : y.2.length ≤ c3) (hC4 : Kd.C (Kd.int .i64) w A4 z.2.length z.2) (hc4 : z.2.length ≤ c4) :
    Calls Try.prog 4 #[.agg #[.slice A x.files.length c, .int .i64 x.room, .slice A2 x.acts.length c2], .agg #[.int .i64 y.1, .slice A3 y.2.length c3], .agg #[.int .i64 z.1, .slice A4 z.2.length c4]] w fun e w' => e = .returned (.bool true) ∧ Below w.heap.size w w' := by
  have HX := Aside0.mk hx
  have HY := Aside0.mk hy
  have HZ := Aside0.mk hz
  have HC := Aside0.mk hC
  have HCc := Aside0.mk hc
  have HC2 := Aside0.mk hC2
  have HC3 := Aside0.mk hC3
  have HCc3 := Aside0.mk hc3
  have HC4 := Aside0.mk hC4
  have HCc4 := Aside0.mk hc4
  clear hx hy hz hC hc hC2 hC3 hc3 hC4 hc4
  go_enter Try.func4, Try.ntmps4
  go_upto_region 1 with (fail)
  obtain ⟨wa, Bx, hwa, hBx, bx, hba, hsa⟩ := boxed w (.cells #[.slice A x.files.length c, .int .i64 x.room, .slice A2 x.acts.length c2] 25 (0, 0))
  obtain ⟨wb, By, hwb, hBy, by_, hbb, hsb⟩ := boxed wa (.cells #[.int .i64 y.1, .slice A3 y.2.length c3] 35 (0, 0))
  obtain ⟨wc, Bz, hwc, hBz, bz, hbc, hsc⟩ := boxed wb (.cells #[.int .i64 z.1, .slice A4 z.2.length c4] 35 (0, 0))
  have hBy2 : w.heap.size + 1 = By := by rw [hBy, hsa]
  have hBz2 : w.heap.size + 1 + 1 = Bz := by rw [hBz, hsb, hsa]
  rw [← hwa, ← hwb, ← hwc, hBz2, hBy2, ← hBx]
  have HBA := Aside0.mk (below_step (below_step hba hbb) hbc)
  have BX := Aside0.mk (hbc.block Bx (by omega) |>.trans (hbb.block Bx (by omega) |>.trans bx))
  have BY := Aside0.mk (hbc.block By (by omega) |>.trans by_)
  have BZ := Aside0.mk bz
  clear hwa hwb hwc hBy2 hBz2 bx by_ bz hba hbb hbc hBx hBy hBz hsa hsb hsc
  have d0 := (blk_cell BX.out 0).trans rfl
  have d1 := (blk_cell BX.out 1).trans rfl
  have d2 := (blk_cell BX.out 2).trans rfl
  go_wp2_with fail
  refine (law_play.calls x HX.out A c A2 c2 _ (Kd.C_below HC.out HBA.out) HCc.out (Kd.C_below HC2.out HBA.out)).mono ?_
  rintro e w1 ⟨hb1, ⟨h0, rfl⟩ | ⟨h0, d, rfl, h1⟩⟩
  · have HB1 := Aside0.mk (below_step HBA.out hb1)
    clear hb1 d0 d1 d2 h0
    go_wp2_with fail
    refine (law_live.calls _).mono ?_
    rintro e w2 ⟨rfl, hb2⟩
    have HB2 := Aside0.mk (below_step HB1.out hb2)
    clear hb2
    go_wp2_with fail
    go_ret
    exact ⟨rfl, HB2.out⟩
  · obtain ⟨S, hS⟩ : ∃ S, S = playS x := ⟨_, rfl⟩
    have hpi := playS_inv HX.out h0
    rw [← hS] at h1 hpi
    have HI := Aside0.mk hpi
    have H1 := Aside0.mk h1
    have HB1 := Aside0.mk hb1
    clear hb1 h0 h1 hS hpi d0 d1 d2
    go_wp2_with fail
    refine (law_live.calls _).mono ?_
    rintro e w2 ⟨rfl, hb2⟩
    have H2 := Aside0.mk (H1.out.tell hb2)
    have HB2 := Aside0.mk (below_step HB1.out hb2)
    clear hb2 H1 HB1
    have y0 := (blk_cell ((HB2.out.block By (blk_lt BY.out)).trans BY.out) 0).trans rfl
    have y1 := (blk_cell ((HB2.out.block By (blk_lt BY.out)).trans BY.out) 1).trans rfl
    go_wp2_with fail
    refine (wicketlaw05_crash.calls y.1 A3 c3 y.2 y.1 y.2 w2 (Kd.C_below HC3.out (below_step HBA.out HB2.out)) HCc3.out (crash_f HY.out.len8)).mono ?_
    rintro e w3 ⟨v3, rfl, hr3, hb3⟩
    obtain ⟨A10, c10, hv3⟩ := Kd.R_slice hr3
    subst hv3
    have HR3 := Aside0.mk hr3
    have H3 := Aside0.mk (H2.out.tell hb3)
    clear hr3 hb3 y0 y1 H2 HB2
    go_wp2_with fail
    refine (disk_Left.own H3.out y.1 HY.out.d A10 c10 y.2 (Kd.R_reads' HR3.out).2.2 (Kd.R_reads' HR3.out).2.1 HY.out.t).mono ?_
    rintro e w4 ⟨v4, rfl, hr4, hb4, h4⟩
    have hrise := left_rise HI.out.1 HI.out.2 y.1 y.2
    obtain ⟨L, hL⟩ : ∃ L, L = leftOf S y.1 y.2 := ⟨_, rfl⟩
    rw [← hL] at hr4 hrise
    obtain ⟨A5, c5, hv4⟩ := Kd.R_slice hr4
    obtain ⟨M, hM⟩ : ∃ M, M = (L.map mkF).length := ⟨_, rfl⟩
    have HM := Aside0.mk hM
    have HM2 : Aside0 (((L.map mkF).map toR).length = M) := ⟨by rw [List.length_map, hM]⟩
    have hC5 := (Kd.R_reads' (hv4 ▸ hr4)).2
    rw [← hM] at hv4 hC5
    subst hv4
    have HRI := Aside0.mk hrise
    have HC5 := Aside0.mk hC5
    have H4 := Aside0.mk h4.below
    obtain ⟨kcp, hkcp⟩ := (copied_ev hrise.fsB).rounds
    obtain ⟨kou, hkou⟩ := (ours_ev hrise.fsB).rounds
    obtain ⟨kfi, hkfi⟩ := (files_ev hrise.fsB.1).rounds
    have HK := Aside0.mk (And.intro hkcp (And.intro hkou hkfi))
    clear hr4 hb4 h4 hrise hL hM hC5 hkcp hkou hkfi H3 HR3 HI
    go_wp2_with fail
    have hcp := wicketlaw05_copied.calls kcp A5 c5 (L.map mkF) (L.map mkF) w4 (by rw [← HM.out]; exact HC5.out.2) (by rw [← HM.out]; exact HC5.out.1) HK.out.1
    rw [← HM.out] at hcp
    refine hcp.mono ?_
    rintro e w5 ⟨v5, rfl, ho5, hb5⟩
    obtain ⟨Ao, co, hv5⟩ := Kd.S_slice ho5
    have hnw := new_rise HRI.out Ao co w5 (Kd.S_reads' (hv5 ▸ ho5)).2.2 (Kd.S_reads' (hv5 ▸ ho5)).2.1
    rw [← HM.out] at hv5 hnw
    subst hv5
    have HB5 := Aside0.mk hb5
    have HNW := Aside0.mk hnw
    clear ho5 hb5 hcp hnw
    go_wp2_with fail
    refine HNW.out.mono ?_
    rintro e w6 ⟨hb6, n, rfl, h6⟩
    obtain ⟨N, hN⟩ : ∃ N, N = newL L := ⟨_, rfl⟩
    have hlf : ∀ dd t, leftOf N dd t = L := fun dd t => by rw [hN]; exact left_new dd t
    have hls : (lstOf N).length = M := by rw [hN, HM.out, List.length_map]; show ((dirL L).map _).length = _; rw [List.length_map, dirL_len]
    have hno : N.ops = 0 ∧ N.dead = false := by rw [hN]; exact ⟨rfl, rfl⟩
    rw [← hN] at h6
    have HNN := Aside0.mk (And.intro hlf (And.intro hls hno))
    have H6 := Aside0.mk h6
    have HB6 := Aside0.mk (below_step HB5.out hb6)
    clear hN hlf hls hno h6 hb6 HB5 HNW
    go_wp2_with fail
    refine (wicketlaw05_num.calls 0 0 _ rfl).mono ?_
    rintro e w7 ⟨rfl, hd7⟩
    have H7 := Aside0.mk (H6.out.tell hd7.below)
    have HB7 := Aside0.mk (below_step HB6.out hd7.below)
    clear hd7 H6 HB6
    go_wp2_with fail
    refine (disk_Count.own H7.out).mono ?_
    rintro e w8 ⟨rfl, rfl⟩
    rw [HNN.out.2.2.1]
    go_wp2_with fail
    refine (disk_Dead.own H7.out).mono ?_
    rintro e w8 ⟨rfl, rfl⟩
    rw [HNN.out.2.2.2]
    go_wp2_with fail
    have hou := wicketlaw05_ours.calls kou A5 c5 (L.map mkF) ((L.map mkF).map toR) w8 (by rw [← HM.out]; exact Kd.C_below HC5.out.2 HB7.out) (by rw [← HM.out]; exact HC5.out.1) HK.out.2.1
    rw [← HM.out] at hou
    refine hou.mono ?_
    rintro e w9 ⟨v9, rfl, ho9, hb9⟩
    obtain ⟨Aw, cw, hv9⟩ := Kd.S_slice ho9
    have HO9 := Aside0.mk (Kd.S_reads' (hv9 ▸ ho9)).2
    rw [HM2.out] at hv9
    subst hv9
    have H9 := Aside0.mk (H7.out.tell hb9)
    have HB9 := Aside0.mk (below_step HB7.out hb9)
    clear ho9 hb9 hou H7 HB7
    go_wp2_with fail
    refine (disk_Durable.own H9.out).mono ?_
    rintro e w10 ⟨v10, rfl, hr10, hb10, h10⟩
    rw [HNN.out.1] at hr10
    obtain ⟨A11, c11, hv10⟩ := Kd.R_slice hr10
    have HR10 := Aside0.mk (Kd.R_reads' (hv10 ▸ hr10)).2
    rw [← HM.out] at hv10
    subst hv10
    have H10 := Aside0.mk h10
    have HB10 := Aside0.mk (below_step HB9.out hb10)
    replace HO9 : Aside0 (_ ∧ _) := ⟨HO9.out.1, Kd.C_below HO9.out.2 hb10⟩
    clear hr10 hb10 h10 H9 HB9
    go_wp2_with fail
    have hfs := wicketlaw05_files.calls kfi A11 c11 (L.map mkF) Aw cw ((L.map mkF).map toR) true w10 HR10.out.2 HR10.out.1 HO9.out.2 HO9.out.1 HK.out.2.2
    rw [← HM.out, HM2.out] at hfs
    refine hfs.mono ?_
    clear hfs
    rintro e w11 ⟨rfl, hd11⟩
    have H11 := Aside0.mk (H10.out.tell hd11.below)
    have HB11 := Aside0.mk (below_step HB10.out hd11.below)
    replace HO9 : Aside0 (_ ∧ _) := ⟨HO9.out.1, Kd.C_below HO9.out.2 hd11.below⟩
    clear hd11 H10 HB10 HR10
    have HBW := Aside0.mk (below_step H4.out HB11.out)
    have z0 := (blk_cell ((HBW.out.block Bz (blk_lt BZ.out)).trans BZ.out) 0).trans rfl
    have z1 := (blk_cell ((HBW.out.block Bz (blk_lt BZ.out)).trans BZ.out) 1).trans rfl
    go_wp2_with fail
    refine (wicketlaw05_crash.calls z.1 A4 c4 z.2 z.1 z.2 w11 (Kd.C_below HC4.out (below_step HBA.out HBW.out)) HCc4.out (crash_f HZ.out.len8)).mono ?_
    rintro e w12 ⟨v12, rfl, hr12, hb12⟩
    obtain ⟨A12, c12, hv12⟩ := Kd.R_slice hr12
    subst hv12
    have HR12 := Aside0.mk hr12
    have H12 := Aside0.mk (H11.out.tell hb12)
    have HB12 := Aside0.mk (below_step HB11.out hb12)
    replace HO9 : Aside0 (_ ∧ _) := ⟨HO9.out.1, Kd.C_below HO9.out.2 hb12⟩
    clear hr12 hb12 z0 z1 H11 HB11 HBW
    go_wp2_with fail
    refine (disk_Left.own H12.out z.1 HZ.out.d A12 c12 z.2 (Kd.R_reads' HR12.out).2.2 (Kd.R_reads' HR12.out).2.1 HZ.out.t).mono ?_
    rintro e w13 ⟨v13, rfl, hr13, hb13, h13⟩
    rw [HNN.out.1] at hr13
    obtain ⟨A13, c13, hv13⟩ := Kd.R_slice hr13
    have HR13 := Aside0.mk (Kd.R_reads' (hv13 ▸ hr13)).2
    rw [← HM.out] at hv13
    subst hv13
    have H13 := Aside0.mk h13
    have HB13 := Aside0.mk (below_step HB12.out hb13)
    replace HO9 : Aside0 (_ ∧ _) := ⟨HO9.out.1, Kd.C_below HO9.out.2 hb13⟩
    clear hr13 hb13 h13 H12 HB12 HR12
    go_wp2_with fail
    have hfs := wicketlaw05_files.calls kfi A13 c13 (L.map mkF) Aw cw ((L.map mkF).map toR) true w13 HR13.out.2 HR13.out.1 HO9.out.2 HO9.out.1 HK.out.2.2
    rw [← HM.out, HM2.out] at hfs
    refine hfs.mono ?_
    clear hfs
    rintro e w14 ⟨rfl, hd14⟩
    have H14 := Aside0.mk (H13.out.tell hd14.below)
    have HB14 := Aside0.mk (below_step HB13.out hd14.below)
    clear hd14 H13 HB13 HR13 HO9
    go_wp2_with fail
    refine (disk_List.own H14.out).mono ?_
    rintro e w15 ⟨v15, rfl, hr15, hb15, h15⟩
    obtain ⟨A15, c15, hv15⟩ := Kd.R_slice hr15
    rw [HNN.out.2.1] at hv15
    subst hv15
    have HB15 := Aside0.mk (below_step HB14.out hb15)
    clear hr15 hb15 h15 H14 HB14
    go_wp2_with fail
    go_ret
    exact ⟨rfl, below_step HBA.out (below_step H4.out HB15.out)⟩
theorem diskAnew_machine (w : World) (cs : Array Value) (x : StD) (hk : kStory.K w x cs.toList) (hw : StW x) (hb : bSt x ≤ 1048576) (cs2 : Array Value) (y : CrD) (hk2 : kCr.K w y cs2.toList) (hw2 : CrW y) (hb2 : bCr y ≤ 1048576) (cs3 : Array Value) (z : CrD) (hk3 : kCr.K w z cs3.toList) (hw3 : CrW z) (hb3 : bCr z ≤ 1048576) :
    Calls Try.prog 4 #[.agg cs, .agg cs2, .agg cs3] w fun e w' => e = .returned (.bool true) ∧ Below w.heap.size w w' := by
  obtain ⟨A, c, A2, c2, hcs, hc, hC, hc2, hC2⟩ := kStory_open hk
  obtain rfl : cs = #[.slice A x.files.length c, .int .i64 x.room, .slice A2 x.acts.length c2] := Array.ext' hcs
  obtain ⟨A3, c3, hcs3, hc3, hC3⟩ := kCr_open hk2
  obtain rfl : cs2 = #[.int .i64 y.1, .slice A3 y.2.length c3] := Array.ext' hcs3
  obtain ⟨A4, c4, hcs4, hc4, hC4⟩ := kCr_open hk3
  obtain rfl : cs3 = #[.int .i64 z.1, .slice A4 z.2.length c4] := Array.ext' hcs4
  exact diskAnew.walk x (StB.of hw hb) y (CrB.of hw2 hb2) z (CrB.of hw3 hb3) A c A2 c2 A3 c3 A4 c4 w hC hc hC2 hC3 hc3 hC4 hc4
end Go.Proofs.Ythmkdmdfahhpmaa.Hand
