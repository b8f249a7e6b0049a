/- The law's all: everything that can be asked of both disks. -/
import Derived.Test.YtdekcjopgnfmdaaDskBK
import Derived.Test.YtdekcjopgnfmdaaDskMC
namespace Go.Proofs.Ytdekcjopgnfmdaa.Hand
open Go.RowKit Go.Maps Go.Proofs.YtdekcjopgnfmdaaW.PrintWords Go.Proofs.YtdekcjopgnfmdaaW.PrintLast Go.Proofs.YtdekcjopgnfmdaaW.PrintMore Go.Proofs.Ytdekcjopgnfmdaa.Q
set_option linter.unusedVariables false
set_option linter.unusedSimpArgs false
theorem below_eq {n : Nat} {w w1 w2 : World} (h : Below n w w1) (e : w2 = w1) : Below n w w2 := by rw [e]; exact h
theorem DuoD.dskAt {w wr : World} {X : Nat → Prop} {d r : Nat} {S T : DS} (h : DuoD w wr X d r S T) : ∃ F, DskAt wr F d S := by
  obtain ⟨F, G, h1, h2, h3, h4, h5, h6, h7⟩ := h; exact ⟨F, h1⟩
theorem lst_len {S : DS} (h : Inv S) : (lstOf S).length < 1073741824 := by
  unfold lstOf; have := h.lenD
  split
  · simp
  · rw [List.length_map]; omega
set_option maxHeartbeats 4000000 in
set_option maxRecDepth 100000 in
theorem law_all.calls {w wr : World} {X : Nat → Prop} {d r : Nat} {S : DS} (h : DuoD w wr X d r S S) :
    Calls Try.prog 15 #[.pointer (some ⟨d, 0, none⟩), .pointer (some ⟨r, 0, none⟩)] wr fun e w' => e = .returned (.bool true) ∧ Below wr.heap.size wr w' := by
  have H := Aside0.mk h; have hI : Inv S := h.ownD.inv; obtain ⟨G, hI2, hlt, vf, vd, vs, vc, hM⟩ := h.refAt; obtain ⟨Af, cf, hvf, _, _⟩ := hM.filRow; obtain ⟨NF, hNF⟩ : ∃ NF, NF = S.files.length := ⟨_, rfl⟩; rw [← hNF] at hvf; subst hvf; have hNFb : (NF : Int) ≤ 1048640 := by have h1 := hI.lenF; have h2 := hI.opsB; omega
  have HNF := Aside0.mk (And.intro hNF hNFb); have HI := Aside0.mk hI; have c1 := (blk_cell hM.blk 1).trans rfl; have c5 := (blk_cell hM.blk 5).trans rfl; have c7 := (blk_cell hM.blk 7).trans rfl; obtain ⟨LS, hLS⟩ : ∃ LS, LS = lstOf S := ⟨_, rfl⟩; obtain ⟨NL, hNL⟩ : ∃ NL, NL = LS.length := ⟨_, rfl⟩; obtain ⟨L0, hL0⟩ : ∃ L0, L0 = (leftOf S 0 []).map mkF := ⟨_, rfl⟩; obtain ⟨N0, hN0⟩ : ∃ N0, N0 = L0.length := ⟨_, rfl⟩; obtain ⟨kn, hkn⟩ := (names_ev (l := LS) (by rw [hLS]; exact lst_len hI)).rounds; obtain ⟨k0, hk0⟩ := (files_ev (l := L0) (by rw [hL0]; exact (hI.fsB 0 []).1)).rounds; have hnm := fun (w2 : World) (A0 : Option Addr) (c0 : Nat) (A1 : Option Addr) (c1 : Nat) (h0 : Kd.C Kd.string w2 A0 LS.length LS) (hc0 : LS.length ≤ c0) (h1 : Kd.C Kd.string w2 A1 LS.length LS) (hc1 : LS.length ≤ c1) => wicketlaw05_names.calls kn A0 c0 LS A1 c1 LS true w2 h0 hc0 h1 hc1 hkn; have hf0 := fun (w2 : World) (A0 : Option Addr) (c0 : Nat) (A1 : Option Addr) (c1 : Nat) (h0 : Kd.C kF w2 A0 L0.length L0) (hc0 : L0.length ≤ c0) (h1 : Kd.C kRF w2 A1 (L0.map toR).length (L0.map toR)) (hc1 : (L0.map toR).length ≤ c1) => wicketlaw05_files.calls k0 A0 c0 L0 A1 c1 (L0.map toR) true w2 h0 hc0 h1 hc1 hk0; rw [List.length_map] at hf0; rw [← hNL] at hnm; rw [← hN0] at hf0; have HNM := Aside0.mk hnm; have HF0 := Aside0.mk hf0; have HLS := Aside0.mk (And.intro hLS hNL); have HL0 := Aside0.mk (And.intro hL0 hN0); obtain ⟨T, hT⟩ : ∃ T, T = List.replicate NF (1099511627776 : Int) := ⟨_, rfl⟩; obtain ⟨M, hMl⟩ : ∃ M, M = T.length := ⟨_, rfl⟩; obtain ⟨L1, hL1⟩ : ∃ L1, L1 = (leftOf S 1099511627776 T).map mkF := ⟨_, rfl⟩; obtain ⟨N1, hN1⟩ : ∃ N1, N1 = L1.length := ⟨_, rfl⟩; obtain ⟨kf, hkf⟩ := (full_ev (n := NF) (by omega)).rounds; rw [← hT] at hkf; obtain ⟨k1, hk1⟩ := (files_ev (l := L1) (by rw [hL1]; exact (hI.fsB _ T).1)).rounds
  have hts : ∀ x, x ∈ T → -9223372036854775808 ≤ x ∧ x ≤ 9223372036854775807 := fun x hx => by
    rw [hT] at hx; rw [List.eq_of_mem_replicate hx]; exact ⟨by decide, by decide⟩
  have hf1 := fun (w2 : World) (A0 : Option Addr) (c0 : Nat) (A1 : Option Addr) (c1 : Nat) (h0 : Kd.C kF w2 A0 L1.length L1) (hc0 : L1.length ≤ c0) (h1 : Kd.C kRF w2 A1 (L1.map toR).length (L1.map toR)) (hc1 : (L1.map toR).length ≤ c1) => wicketlaw05_files.calls k1 A0 c0 L1 A1 c1 (L1.map toR) true w2 h0 hc0 h1 hc1 hk1; rw [List.length_map, ← hN1] at hf1; have hld := fun (w2 : World) (hD : OwnD w w2 d S) (At : Option Addr) (ct : Nat) (hCt : Kd.C (Kd.int .i64) w2 At T.length T) (hct : T.length ≤ ct) => disk_Left.own hD 1099511627776 ⟨by decide, by decide⟩ At ct T hCt hct hts; have hlr := fun (w2 : World) (G2 : Nat → Prop) (hG : RskAt w2 G2 r S) (At : Option Addr) (ct : Nat) (hCt : Kd.C (Kd.int .i64) w2 At T.length T) (hct : T.length ≤ ct) => ref_Left.calls hG 1099511627776 At ct T hCt hct hts; rw [show (leftOf S 1099511627776 T).map mkRF = L1.map toR from by rw [hL1, List.map_map]; rfl, ← hMl] at hlr; rw [← hL1, ← hMl] at hld; have HF1 := Aside0.mk hf1; have HLD := Aside0.mk hld; have HLR := Aside0.mk hlr; have HKF := Aside0.mk hkf; have HMl := Aside0.mk hMl; have HN1 := Aside0.mk hN1; clear hf1 hld hlr hkf hMl hN1 hts hL1 hT hk1; clear h hI hI2 hlt hM hNF hNFb hLS hNL hL0 hN0 hkn hk0 hnm hf0; go_enter Try.func15, Try.ntmps15
  go_upto_region 1 with (fail)
  refine start_ (n := 39) (S := fun w' => w'.cell? ⟨r, 5, none⟩ = some (.int .i64 S.ops) ∧ w'.cell? ⟨r, 7, none⟩ = some (.bool S.dead)) (ds := []) (bm 39 0) (by kernel_rfl) rfl rfl ⟨c5, c7⟩ (fun hHeld => ?_); refine pure_ (i := 0) (N := some 5) (v:=?_) (a':=?_) (bm 39 1) rfl rfl (by kernel_rfl) (fun _ _ _ h => h) (Or.inl ⟨by rfl, ?_⟩) ?_ ?_; rotate_left
  · intro w'; go_simp; with_reducible rfl
  rotate_left
  · simp only [Act.put,s_a,s_b,s_c,i64_w,i32_w]; rfl
  refine pure_ (i := 2) (N := some 7) (v:=?_) (a':=?_) (bm 39 5) rfl rfl (by kernel_rfl) (fun _ _ _ h => h) (Or.inl ⟨by rfl, ?_⟩) ?_ ?_; rotate_left
  · intro w'; go_simp; with_reducible rfl
  rotate_left
  · simp only [Act.put,s_a,s_b,s_c,i64_w,i32_w]; rfl
  refine pure_ (i := 3) (N := some 8) (v:=?_) (a':=?_) (bm 39 13) rfl rfl (by kernel_rfl) (fun _ _ _ h => h) (Or.inl ⟨by rfl, ?_⟩) ?_ ?_; rotate_left
  · intro w'; go_simp; with_reducible rfl
  rotate_left
  · simp only [Act.put,s_a,s_b,s_c,i64_w,i32_w]; rfl
  refine pure_ (i := 4) (N := some 9) (v:=?_) (a':=?_) (bm 39 29) rfl rfl (by kernel_rfl) (fun _ _ _ h => h) (Or.inl ⟨by rfl, ?_⟩) ?_ ?_; rotate_left
  · intro w'; go_simp; with_reducible rfl
  rotate_left
  · simp only [Act.put,s_a,s_b,s_c,i64_w,i32_w]; rfl
  refine take_ (i := 5) (N := some 10) (v:=?_) (a':=?_) (bm 39 61) rfl rfl (by kernel_rfl) (fun _ _ _ h => h) (Or.inl ⟨by rfl, ?_⟩) hHeld ?_ ?_; rotate_left
  · rintro w' ⟨s0, s1⟩; go_simp; with_reducible rfl
  rotate_left
  · simp only [Act.put,s_a,s_b,s_c,i64_w,i32_w]; rfl
  refine one_ (i := 1) (N := some 6) (bm 39 63) rfl rfl (by kernel_rfl) (by decide) (fun K hK => ?_); refine goes_ Try.func21 (by kernel_rfl) rfl #[.pointer (some ⟨d, 0, none⟩)] (by rfl) rfl rfl (by simp only [List.map_toArray, List.map_cons, List.map_nil]; rfl) ?_; refine (disk_Count.own (H.out.tell (below_drew1 (Below.refl _ _))).ownD).mono ?_; rintro e w6 ⟨rfl, hw⟩; have HB6 := Aside0.mk (below_eq (below_drew1 (Below.refl wr.heap.size wr)) hw); clear hw; refine ⟨_, rfl, ?_⟩; refine hK.out _ _ ⟨pw_cell_below HB6.out c5, pw_cell_below HB6.out c7⟩ (fun hHeld => ?_); clear hK K; refine norm_ (a' := ?_) ?_ ?_; rotate_left
  · show Act.put _ (some 6) _ = _; simp only [Act.put,s_a,s_b,s_c,i64_w,i32_w]; rfl
  refine pure_ (i := 6) (N := some 11) (v:=?_) (a':=?_) (bm 39 127) rfl rfl (by kernel_rfl) (fun _ _ _ h => h) (Or.inl ⟨by rfl, ?_⟩) ?_ ?_; rotate_left
  · intro w'; go_simp; with_reducible rfl
  rotate_left
  · simp only [Act.put,s_a,s_b,s_c,i64_w,i32_w]; rfl
  refine pure_ (i := 7) (N := some 12) (v:=?_) (a':=?_) (bm 39 255) rfl rfl (by kernel_rfl) (fun _ _ _ h => h) (Or.inl ⟨by rfl, ?_⟩) ?_ ?_; rotate_left
  · intro w'; go_simp; with_reducible rfl
  rotate_left
  · simp only [Act.put,s_a,s_b,s_c,i64_w,i32_w]; rfl
  refine pure_ (i := 8) (N := some 13) (v:=?_) (a':=?_) (bm 39 511) rfl rfl (by kernel_rfl) (fun _ _ _ h => h) (Or.inl ⟨by rfl, ?_⟩) ?_ ?_; rotate_left
  · intro w'; go_simp; with_reducible rfl
  rotate_left
  · simp only [Act.put,s_a,s_b,s_c,i64_w,i32_w]; rfl
  refine pure_ (i := 10) (N := some 15) (v:=?_) (a':=?_) (bm 39 1535) rfl rfl (by kernel_rfl) (fun _ _ _ h => h) (Or.inl ⟨by rfl, ?_⟩) ?_ ?_; rotate_left
  · intro w'; go_simp; with_reducible rfl
  rotate_left
  · simp only [Act.put,s_a,s_b,s_c,i64_w,i32_w]; rfl
  refine one_ (i := 9) (N := some 14) (bm 39 2047) rfl rfl (by kernel_rfl) (by decide) (fun K hK => ?_); refine goes_ Try.func37 (by kernel_rfl) rfl #[.pointer (some ⟨d, 0, none⟩)] (by rfl) rfl rfl (by simp only [List.map_toArray, List.map_cons, List.map_nil]; rfl) ?_; obtain ⟨F9, hF9⟩ := (H.out.tell HB6.out).dskAt; refine (disk_Free.calls hF9).mono ?_; rintro e w9 ⟨rfl, hb⟩; have HB9 := Aside0.mk (below_step HB6.out hb); clear hb hF9; refine ⟨_, rfl, ?_⟩; refine hK.out _ _ ⟨pw_cell_below HB9.out c5, pw_cell_below HB9.out c7⟩ (fun hHeld => ?_); clear hK K; refine norm_ (a' := ?_) ?_ ?_; rotate_left
  · show Act.put _ (some 14) _ = _; simp only [Act.put,s_a,s_b,s_c,i64_w,i32_w]; rfl
  refine one_ (i := 11) (N := some 16) (bm 39 4095) rfl rfl (by kernel_rfl) (by decide) (fun K hK => ?_); refine goes_ Try.func44 (by kernel_rfl) rfl #[.pointer (some ⟨r, 0, none⟩)] (by rfl) rfl rfl (by simp only [List.map_toArray, List.map_cons, List.map_nil]; rfl) ?_; obtain ⟨G11, hG11⟩ := (H.out.tell HB9.out).refAt; refine (ref_Free.calls hG11).mono ?_; rintro e w11 ⟨rfl, hb⟩; have HB11 := Aside0.mk (below_step HB9.out hb); clear hb hG11; refine ⟨_, rfl, ?_⟩; refine hK.out _ _ ⟨pw_cell_below HB11.out c5, pw_cell_below HB11.out c7⟩ (fun hHeld => ?_); clear hK K; refine norm_ (a' := ?_) ?_ ?_; rotate_left
  · show Act.put _ (some 16) _ = _; simp only [Act.put,s_a,s_b,s_c,i64_w,i32_w]; rfl
  refine pure_ (i := 12) (N := some 17) (v:=?_) (a':=?_) (bm 39 8191) rfl rfl (by kernel_rfl) (fun _ _ _ h => h) (Or.inl ⟨by rfl, ?_⟩) ?_ ?_; rotate_left
  · intro w'; go_simp; with_reducible rfl
  rotate_left
  · simp only [Act.put,s_a,s_b,s_c,i64_w,i32_w]; rfl
  refine pure_ (i := 13) (N := some 18) (v:=?_) (a':=?_) (bm 39 16383) rfl rfl (by kernel_rfl) (fun _ _ _ h => h) (Or.inl ⟨by rfl, ?_⟩) ?_ ?_; rotate_left
  · intro w'; go_simp; with_reducible rfl
  rotate_left
  · simp only [Act.put,s_a,s_b,s_c,i64_w,i32_w]; rfl
  refine pure_ (i := 14) (N := some 19) (v:=?_) (a':=?_) (bm 39 32767) rfl rfl (by kernel_rfl) (fun _ _ _ h => h) (Or.inl ⟨by rfl, ?_⟩) ?_ ?_; rotate_left
  · intro w'; go_simp; with_reducible rfl
  rotate_left
  · simp only [Act.put,s_a,s_b,s_c,i64_w,i32_w]; rfl
  refine pure_ (i := 15) (N := some 20) (v:=?_) (a':=?_) (bm 39 65535) rfl rfl (by kernel_rfl) (fun _ _ _ h => h) (Or.inl ⟨by rfl, ?_⟩) ?_ ?_; rotate_left
  · intro w'; go_simp; with_reducible rfl
  rotate_left
  · simp only [Act.put,s_a,s_b,s_c,i64_w,i32_w]; rfl
  refine pure_ (i := 17) (N := some 22) (v:=?_) (a':=?_) (bm 39 196607) rfl rfl (by kernel_rfl) (fun _ _ _ h => h) (Or.inl ⟨by rfl, ?_⟩) ?_ ?_; rotate_left
  · intro w'; go_simp; with_reducible rfl
  rotate_left
  · simp only [Act.put,s_a,s_b,s_c,i64_w,i32_w]; rfl
  refine pure_ (i := 18) (N := some 23) (v:=?_) (a':=?_) (bm 39 458751) rfl rfl (by kernel_rfl) (fun _ _ _ h => h) (Or.inl ⟨by rfl, ?_⟩) ?_ ?_; rotate_left
  · intro w'; go_simp; with_reducible rfl
  rotate_left
  · simp only [Act.put,s_a,s_b,s_c,i64_w,i32_w]; rfl
  refine pure_ (i := 19) (N := some 24) (v:=?_) (a':=?_) (bm 39 983039) rfl rfl (by kernel_rfl) (fun _ _ _ h => h) (Or.inl ⟨by rfl, ?_⟩) ?_ ?_; rotate_left
  · intro w'; go_simp; with_reducible rfl
  rotate_left
  · simp only [Act.put,s_a,s_b,s_c,i64_w,i32_w]; rfl
  refine take_ (i := 20) (N := some 25) (v:=?_) (a':=?_) (bm 39 2031615) rfl rfl (by kernel_rfl) (fun _ _ _ h => h) (Or.inl ⟨by rfl, ?_⟩) hHeld ?_ ?_; rotate_left
  · rintro w' ⟨s0, s1⟩; go_simp; with_reducible rfl
  rotate_left
  · simp only [Act.put,s_a,s_b,s_c,i64_w,i32_w]; rfl
  refine one_ (i := 16) (N := some 21) (bm 39 2097151) rfl rfl (by kernel_rfl) (by decide) (fun K hK => ?_); refine goes_ Try.func22 (by kernel_rfl) rfl #[.pointer (some ⟨d, 0, none⟩)] (by rfl) rfl rfl (by simp only [List.map_toArray, List.map_cons, List.map_nil]; rfl) ?_; refine (disk_Dead.own (H.out.tell HB11.out).ownD).mono ?_; rintro e w16 ⟨rfl, hw⟩; have HB16 := Aside0.mk (below_eq HB11.out hw); clear hw; refine ⟨_, rfl, ?_⟩; refine hK.out _ _ ⟨pw_cell_below HB16.out c5, pw_cell_below HB16.out c7⟩ (fun hHeld => ?_); clear hK K; refine norm_ (a' := ?_) ?_ ?_; rotate_left
  · show Act.put _ (some 21) _ = _; simp only [Act.put,s_a,s_b,s_c,i64_w,i32_w]; rfl
  refine pure_ (i := 21) (N := some 26) (v:=?_) (a':=?_) (bm 39 4194303) rfl rfl (by kernel_rfl) (fun _ _ _ h => h) (Or.inl ⟨by rfl, ?_⟩) ?_ ?_; rotate_left
  · intro w'; go_simp; with_reducible rfl
  rotate_left
  · simp only [Act.put,s_a,s_b,s_c,i64_w,i32_w]; rfl
  refine pure_ (i := 22) (N := some 27) (v:=?_) (a':=?_) (bm 39 8388607) rfl rfl (by kernel_rfl) (fun _ _ _ h => h) (Or.inl ⟨by rfl, ?_⟩) ?_ ?_; rotate_left
  · intro w'; go_simp; with_reducible rfl
  rotate_left
  · simp only [Act.put,s_a,s_b,s_c,i64_w,i32_w]; rfl
  refine pure_ (i := 23) (N := some 28) (v:=?_) (a':=?_) (bm 39 16777215) rfl rfl (by kernel_rfl) (fun _ _ _ h => h) (Or.inl ⟨by rfl, ?_⟩) ?_ ?_; rotate_left
  · intro w'; go_simp; with_reducible rfl
  rotate_left
  · simp only [Act.put,s_a,s_b,s_c,i64_w,i32_w]; rfl
  refine pure_ (i := 24) (N := some 29) (v:=?_) (a':=?_) (bm 39 33554431) rfl rfl (by kernel_rfl) (fun _ _ _ h => h) (Or.inl ⟨by rfl, ?_⟩) ?_ ?_; rotate_left
  · intro w'; go_simp; with_reducible rfl
  rotate_left
  · simp only [Act.put,s_a,s_b,s_c,i64_w,i32_w]; rfl
  refine pure_ (i := 26) (N := some 31) (v:=?_) (a':=?_) (bm 39 100663295) rfl rfl (by kernel_rfl) (fun _ _ _ h => h) (Or.inl ⟨by rfl, ?_⟩) ?_ ?_; rotate_left
  · intro w'; go_simp; with_reducible rfl
  rotate_left
  · simp only [Act.put,s_a,s_b,s_c,i64_w,i32_w]; rfl
  refine one_ (i := 25) (N := some 30) (bm 39 134217727) rfl rfl (by kernel_rfl) (by decide) (fun K hK => ?_); refine goes_ Try.func26 (by kernel_rfl) rfl #[.pointer (some ⟨d, 0, none⟩)] (by rfl) rfl rfl (by simp only [List.map_toArray, List.map_cons, List.map_nil]; rfl) ?_; obtain ⟨F25, hF25⟩ := (H.out.tell HB16.out).dskAt; refine (disk_List.calls hF25).mono ?_; rintro e w25 ⟨v25, rfl, hr, hb⟩; have HB25 := Aside0.mk (below_step HB16.out hb); clear hb hF25; rw [← HLS.out.1] at hr; obtain ⟨A25, e25, hv25, hec25, hC25⟩ := Kd.R_reads hr; rw [← HLS.out.2] at hv25 hec25 hC25; subst hv25; have HR25 := Aside0.mk (And.intro hec25 hC25); clear hr hec25 hC25; refine ⟨_, rfl, ?_⟩; refine hK.out _ _ ⟨pw_cell_below HB25.out c5, pw_cell_below HB25.out c7⟩ (fun hHeld => ?_); clear hK K; refine norm_ (a' := ?_) ?_ ?_; rotate_left
  · show Act.put _ (some 30) _ = _; simp only [Act.put,s_a,s_b,s_c,i64_w,i32_w]; rfl
  refine one_ (i := 27) (N := some 32) (bm 39 268435455) rfl rfl (by kernel_rfl) (by decide) (fun K hK => ?_); refine goes_ Try.func46 (by kernel_rfl) rfl #[.pointer (some ⟨r, 0, none⟩)] (by rfl) rfl rfl (by simp only [List.map_toArray, List.map_cons, List.map_nil]; rfl) ?_; obtain ⟨G27, hG27⟩ := (H.out.tell HB25.out).refAt; refine (ref_List.calls hG27).mono ?_; rintro e w27 ⟨v27, rfl, hr, hb⟩; have HB27 := Aside0.mk (below_step HB25.out hb); have HQ27 := Aside0.mk (Kd.C_below HR25.out.2 hb); clear hb hG27; rw [← HLS.out.1] at hr; obtain ⟨A27, e27, hv27, hec27, hC27⟩ := Kd.R_reads hr; rw [← HLS.out.2] at hv27 hec27 hC27; subst hv27; have HR27 := Aside0.mk (And.intro hec27 hC27); clear hr hec27 hC27; refine ⟨_, rfl, ?_⟩; refine hK.out _ _ ⟨pw_cell_below HB27.out c5, pw_cell_below HB27.out c7⟩ (fun hHeld => ?_); clear hK K; refine norm_ (a' := ?_) ?_ ?_; rotate_left
  · show Act.put _ (some 32) _ = _; simp only [Act.put,s_a,s_b,s_c,i64_w,i32_w]; rfl
  refine one_ (i := 28) (N := some 33) (bm 39 536870911) rfl rfl (by kernel_rfl) (by decide) (fun K hK => ?_); refine goes_ Try.func45 (by kernel_rfl) rfl #[.slice A25 NL e25, .slice A27 NL e27] (by rfl) rfl rfl (by simp only [List.map_toArray, List.map_cons, List.map_nil]; rfl) ?_; refine (HNM.out w27 A25 e25 A27 e27 HQ27.out HR25.out.1 HR27.out.2 HR27.out.1).mono ?_; rintro e w28 ⟨rfl, hd⟩; have HB28 := Aside0.mk (below_step HB27.out hd.below); clear hd; refine ⟨_, rfl, ?_⟩; refine hK.out _ _ ⟨pw_cell_below HB28.out c5, pw_cell_below HB28.out c7⟩ (fun hHeld => ?_); clear hK K; refine norm_ (a' := ?_) ?_ ?_; rotate_left
  · show Act.put _ (some 33) _ = _; simp only [Act.put,s_a,s_b,s_c,i64_w,i32_w]; rfl
  refine pure_ (i := 29) (N := some 34) (v:=?_) (a':=?_) (bm 39 1073741823) rfl rfl (by kernel_rfl) (fun _ _ _ h => h) (Or.inl ⟨by rfl, ?_⟩) ?_ ?_; rotate_left
  · intro w'; go_simp; with_reducible rfl
  rotate_left
  · simp only [Act.put,s_a,s_b,s_c,i64_w,i32_w]; rfl
  refine pure_ (i := 30) (N := some 35) (v:=?_) (a':=?_) (bm 39 2147483647) rfl rfl (by kernel_rfl) (fun _ _ _ h => h) (Or.inl ⟨by rfl, ?_⟩) ?_ ?_; rotate_left
  · intro w'; go_simp; with_reducible rfl
  rotate_left
  · simp only [Act.put,s_a,s_b,s_c,i64_w,i32_w]; rfl
  refine pure_ (i := 31) (N := some 36) (v:=?_) (a':=?_) (bm 39 4294967295) rfl rfl (by kernel_rfl) (fun _ _ _ h => h) (Or.inl ⟨by rfl, ?_⟩) ?_ ?_; rotate_left
  · intro w'; go_simp; with_reducible rfl
  rotate_left
  · simp only [Act.put,s_a,s_b,s_c,i64_w,i32_w]; rfl
  refine pure_ (i := 32) (N := some 37) (v:=?_) (a':=?_) (bm 39 8589934591) rfl rfl (by kernel_rfl) (fun _ _ _ h => h) (Or.inl ⟨by rfl, ?_⟩) ?_ ?_; rotate_left
  · intro w'; go_simp; with_reducible rfl
  rotate_left
  · simp only [Act.put,s_a,s_b,s_c,i64_w,i32_w]; rfl
  refine pure_ (i := 34) (N := some 39) (v:=?_) (a':=?_) (bm 39 25769803775) rfl rfl (by kernel_rfl) (fun _ _ _ h => h) (Or.inl ⟨by rfl, ?_⟩) ?_ ?_; rotate_left
  · intro w'; go_simp; with_reducible rfl
  rotate_left
  · simp only [Act.put,s_a,s_b,s_c,i64_w,i32_w]; rfl
  refine one_ (i := 33) (N := some 38) (bm 39 34359738367) rfl rfl (by kernel_rfl) (by decide) (fun K hK => ?_); refine goes_ Try.func25 (by kernel_rfl) rfl #[.pointer (some ⟨d, 0, none⟩)] (by rfl) rfl rfl (by simp only [List.map_toArray, List.map_cons, List.map_nil]; rfl) ?_; obtain ⟨F33, hF33⟩ := (H.out.tell HB28.out).dskAt; refine (disk_Durable.calls hF33).mono ?_; rintro e w33 ⟨v33, rfl, hr, hb⟩; have HB33 := Aside0.mk (below_step HB28.out hb); clear hb hF33; rw [← HL0.out.1] at hr; obtain ⟨A33, e33, hv33, hec33, hC33⟩ := Kd.R_reads hr; rw [← HL0.out.2] at hv33 hec33 hC33; subst hv33; have HR33 := Aside0.mk (And.intro hec33 hC33); clear hr hec33 hC33; refine ⟨_, rfl, ?_⟩; refine hK.out _ _ ⟨pw_cell_below HB33.out c5, pw_cell_below HB33.out c7⟩ (fun hHeld => ?_); clear hK K; refine norm_ (a' := ?_) ?_ ?_; rotate_left
  · show Act.put _ (some 38) _ = _; simp only [Act.put,s_a,s_b,s_c,i64_w,i32_w]; rfl
  refine one_ (i := 35) (N := some 40) (bm 39 68719476735) rfl rfl (by kernel_rfl) (by decide) (fun K hK => ?_); refine goes_ Try.func47 (by kernel_rfl) rfl #[.pointer (some ⟨r, 0, none⟩), .int .i64 0, .slice none 0 0] (by rfl) rfl rfl (by simp only [List.map_toArray, List.map_cons, List.map_nil]; rfl) ?_; obtain ⟨G35, hG35⟩ := (H.out.tell HB33.out).refAt; refine (ref_Left.calls hG35 0 none 0 ([] : List Int) (Kd.R_reads' (Kd.R_nil (Kd.int .i64) 3 w33 0 (fun _ => True))).2.2 (Nat.le_refl _) (fun _ h => by cases h)).mono ?_; rintro e w35 ⟨v35, rfl, hr, hb⟩; have HB35 := Aside0.mk (below_step HB33.out hb); have HQ35 := Aside0.mk (Kd.C_below HR33.out.2 hb); clear hb hG35; rw [show (leftOf S 0 []).map mkRF = L0.map toR from by rw [HL0.out.1, List.map_map]; rfl] at hr; obtain ⟨A35, e35, hv35, hec35, hC35⟩ := Kd.R_reads hr; rw [List.length_map, ← HL0.out.2] at hv35 hec35 hC35; subst hv35; have HR35 := Aside0.mk (And.intro hec35 hC35); clear hr hec35 hC35; refine ⟨_, rfl, ?_⟩; refine hK.out _ _ ⟨pw_cell_below HB35.out c5, pw_cell_below HB35.out c7⟩ (fun hHeld => ?_); clear hK K; refine norm_ (a' := ?_) ?_ ?_; rotate_left
  · show Act.put _ (some 40) _ = _; simp only [Act.put,s_a,s_b,s_c,i64_w,i32_w]; rfl
  refine one_ (i := 36) (N := some 41) (bm 39 137438953471) rfl rfl (by kernel_rfl) (by decide) (fun K hK => ?_); refine goes_ Try.func24 (by kernel_rfl) rfl #[.slice A33 N0 e33, .slice A35 N0 e35] (by rfl) rfl rfl (by simp only [List.map_toArray, List.map_cons, List.map_nil]; rfl) ?_; refine (HF0.out w35 A33 e33 A35 e35 HQ35.out HR33.out.1 HR35.out.2 HR35.out.1).mono ?_; rintro e w36 ⟨rfl, hd⟩; have HB36 := Aside0.mk (below_step HB35.out hd.below); clear hd; refine ⟨_, rfl, ?_⟩; refine hK.out _ _ ⟨pw_cell_below HB36.out c5, pw_cell_below HB36.out c7⟩ (fun hHeld => ?_); clear hK K; refine norm_ (a' := ?_) ?_ ?_; rotate_left
  · show Act.put _ (some 41) _ = _; simp only [Act.put,s_a,s_b,s_c,i64_w,i32_w]; rfl
  refine pure_ (i := 37) (N := some 42) (v:=?_) (a':=?_) (bm 39 274877906943) rfl rfl (by kernel_rfl) (fun _ _ _ h => h) (Or.inl ⟨by rfl, ?_⟩) ?_ ?_; rotate_left
  · intro w'; go_simp; with_reducible rfl
  rotate_left
  · simp only [Act.put,s_a,s_b,s_c,i64_w,i32_w]; rfl
  refine pure_ (i := 38) (N := some 43) (v:=?_) (a':=?_) (bm 39 549755813887) rfl rfl (by kernel_rfl) (fun _ _ _ h => h) (Or.inl ⟨by rfl, ?_⟩) ?_ ?_; rotate_left
  · intro w'; go_simp; with_reducible rfl
  rotate_left
  · simp only [Act.put,s_a,s_b,s_c,i64_w,i32_w]; rfl
  refine done_ (by kernel_rfl) ?_; clear c5 c7; have x1 := pw_cell_below HB36.out c1; clear c1; go_upto_region 3 with (fail)
  refine start_ (n := 19) (S := fun w' => w'.cell? ⟨r, 1, none⟩ = some (.slice Af NF cf)) (ds := []) (bm 19 0) (by kernel_rfl) rfl rfl (x1) (fun hHeld => ?_); refine pure_ (i := 0) (N := some 44) (v:=?_) (a':=?_) (bm 19 1) rfl rfl (by kernel_rfl) (fun _ _ _ h => h) (Or.inl ⟨by rfl, ?_⟩) ?_ ?_; rotate_left
  · intro w'; go_simp; with_reducible rfl
  rotate_left
  · simp only [Act.put,s_a,s_b,s_c,i64_w,i32_w]; rfl
  refine pure_ (i := 1) (N := some 45) (v:=?_) (a':=?_) (bm 19 3) rfl rfl (by kernel_rfl) (fun _ _ _ h => h) (Or.inl ⟨by rfl, ?_⟩) ?_ ?_; rotate_left
  · intro w'; go_simp; with_reducible rfl
  rotate_left
  · simp only [Act.put,s_a,s_b,s_c,i64_w,i32_w]; rfl
  refine pure_ (i := 2) (N := some 46) (v:=?_) (a':=?_) (bm 19 7) rfl rfl (by kernel_rfl) (fun _ _ _ h => h) (Or.inl ⟨by rfl, ?_⟩) ?_ ?_; rotate_left
  · intro w'; go_simp; with_reducible rfl
  rotate_left
  · simp only [Act.put,s_a,s_b,s_c,i64_w,i32_w]; rfl
  refine pure_ (i := 3) (N := some 47) (v:=?_) (a':=?_) (bm 19 15) rfl rfl (by kernel_rfl) (fun _ _ _ h => h) (Or.inl ⟨by rfl, ?_⟩) ?_ ?_; rotate_left
  · intro w'; go_simp; with_reducible rfl
  rotate_left
  · simp only [Act.put,s_a,s_b,s_c,i64_w,i32_w]; rfl
  refine pure_ (i := 9) (N := some 53) (v:=?_) (a':=?_) (bm 19 527) rfl rfl (by kernel_rfl) (fun _ _ _ h => h) (Or.inl ⟨by rfl, ?_⟩) ?_ ?_; rotate_left
  · intro w'; go_simp; with_reducible rfl
  rotate_left
  · simp only [Act.put,s_a,s_b,s_c,i64_w,i32_w]; rfl
  refine pure_ (i := 10) (N := some 54) (v:=?_) (a':=?_) (bm 19 1551) rfl rfl (by kernel_rfl) (fun _ _ _ h => h) (Or.inl ⟨by rfl, ?_⟩) ?_ ?_; rotate_left
  · intro w'; go_simp; with_reducible rfl
  rotate_left
  · simp only [Act.put,s_a,s_b,s_c,i64_w,i32_w]; rfl
  refine pure_ (i := 11) (N := some 55) (v:=?_) (a':=?_) (bm 19 3599) rfl rfl (by kernel_rfl) (fun _ _ _ h => h) (Or.inl ⟨by rfl, ?_⟩) ?_ ?_; rotate_left
  · intro w'; go_simp; with_reducible rfl
  rotate_left
  · simp only [Act.put,s_a,s_b,s_c,i64_w,i32_w]; rfl
  refine pure_ (i := 12) (N := some 56) (v:=?_) (a':=?_) (bm 19 7695) rfl rfl (by kernel_rfl) (fun _ _ _ h => h) (Or.inl ⟨by rfl, ?_⟩) ?_ ?_; rotate_left
  · intro w'; go_simp; with_reducible rfl
  rotate_left
  · simp only [Act.put,s_a,s_b,s_c,i64_w,i32_w]; rfl
  refine take_ (i := 4) (N := some 48) (v:=?_) (a':=?_) (bm 19 7711) rfl rfl (by kernel_rfl) (fun _ _ _ h => h) (Or.inl ⟨by rfl, ?_⟩) hHeld ?_ ?_; rotate_left
  · intro w' s0; go_simp; with_reducible rfl
  rotate_left
  · simp only [Act.put,s_a,s_b,s_c,i64_w,i32_w]; rfl
  refine pure_ (i := 5) (N := some 49) (v:=?_) (a':=?_) (bm 19 7743) rfl rfl (by kernel_rfl) (fun _ _ _ h => h) (Or.inl ⟨by rfl, ?_⟩) ?_ ?_; rotate_left
  · intro w'; go_simp; with_reducible rfl
  rotate_left
  · simp only [Act.put,s_a,s_b,s_c,i64_w,i32_w]; rfl
  refine take_ (i := 13) (N := some 57) (v:=?_) (a':=?_) (bm 19 15935) rfl rfl (by kernel_rfl) (fun _ _ _ h => h) (Or.inl ⟨by rfl, ?_⟩) hHeld ?_ ?_; rotate_left
  · intro w' s0; go_simp; with_reducible rfl
  rotate_left
  · simp only [Act.put,s_a,s_b,s_c,i64_w,i32_w]; rfl
  refine pure_ (i := 14) (N := some 58) (v:=?_) (a':=?_) (bm 19 32319) rfl rfl (by kernel_rfl) (fun _ _ _ h => h) (Or.inl ⟨by rfl, ?_⟩) ?_ ?_; rotate_left
  · intro w'; go_simp; with_reducible rfl
  rotate_left
  · simp only [Act.put,s_a,s_b,s_c,i64_w,i32_w]; rfl
  refine one_ (i := 6) (N := some 50) (bm 19 32383) rfl rfl (by kernel_rfl) (by decide) (fun K hK => ?_); refine goes_ Try.func34 (by kernel_rfl) rfl #[.int .i64 (NF : Int)] (by rfl) rfl rfl (by simp only [List.map_toArray, List.map_cons, List.map_nil]; rfl) ?_; refine (wicketlaw05_full.calls kf (NF : Int) T _ HKF.out).mono ?_; rintro e w46 ⟨v46, rfl, hr, hb⟩; have HQ46 := Aside0.mk (below_step (below_drew1 (Below.refl w36.heap.size w36)) hb); have HB46 := Aside0.mk (below_step HB36.out HQ46.out); clear hb; obtain ⟨A46, e46, hv46, hec46, hC46⟩ := Kd.R_reads hr; rw [← HMl.out] at hv46 hec46 hC46; subst hv46; have HR46 := Aside0.mk (And.intro hec46 hC46); clear hr hec46 hC46; refine ⟨_, rfl, ?_⟩; refine hK.out _ _ (pw_cell_below HQ46.out x1) (fun hHeld => ?_); clear hK K; refine norm_ (a' := ?_) ?_ ?_; rotate_left
  · show Act.put _ (some 50) _ = _; simp only [Act.put,s_a,s_b,s_c,i64_w,i32_w]; rfl
  refine pure_ (i := 7) (N := some 51) (v:=?_) (a':=?_) (bm 19 32511) rfl rfl (by kernel_rfl) (fun _ _ _ h => h) (Or.inl ⟨by rfl, ?_⟩) ?_ ?_; rotate_left
  · intro w'; go_simp; with_reducible rfl
  rotate_left
  · simp only [Act.put,s_a,s_b,s_c,i64_w,i32_w]; rfl
  refine one_ (i := 8) (N := some 52) (bm 19 32767) rfl rfl (by kernel_rfl) (by decide) (fun K hK => ?_); refine goes_ Try.func17 (by kernel_rfl) rfl #[.pointer (some ⟨d, 0, none⟩), .agg #[.int .i64 1099511627776, .slice A46 M e46]] (by rfl) rfl rfl (by simp only [List.map_toArray, List.map_cons, List.map_nil]; rfl) ?_; refine (HLD.out _ (H.out.tell HB46.out).ownD A46 e46 HR46.out.2 HR46.out.1).mono ?_; rintro e w48 ⟨v48, rfl, hr, hb, _⟩; have HQ48 := Aside0.mk (below_step HQ46.out hb); have HB48 := Aside0.mk (below_step HB46.out hb); clear hb; obtain ⟨A48, e48, hv48, hec48, hC48⟩ := Kd.R_reads hr; rw [← HN1.out] at hv48 hec48 hC48; subst hv48; have HR48 := Aside0.mk (And.intro hec48 hC48); clear hr hec48 hC48; refine ⟨_, rfl, ?_⟩; refine hK.out _ _ (pw_cell_below HQ48.out x1) (fun hHeld => ?_); clear hK K; refine norm_ (a' := ?_) ?_ ?_; rotate_left
  · show Act.put _ (some 52) _ = _; simp only [Act.put,s_a,s_b,s_c,i64_w,i32_w]; rfl
  refine one_ (i := 15) (N := some 59) (bm 19 65535) rfl rfl (by kernel_rfl) (by decide) (fun K hK => ?_); refine goes_ Try.func34 (by kernel_rfl) rfl #[.int .i64 (NF : Int)] (by rfl) rfl rfl (by simp only [List.map_toArray, List.map_cons, List.map_nil]; rfl) ?_; refine (wicketlaw05_full.calls kf (NF : Int) T _ HKF.out).mono ?_; rintro e w55 ⟨v55, rfl, hr, hb⟩; have HQ55 := Aside0.mk (below_step HQ48.out hb); have HB55 := Aside0.mk (below_step HB48.out hb); have HZ55 := Aside0.mk (Kd.C_below HR48.out.2 hb); clear hb; obtain ⟨A55, e55, hv55, hec55, hC55⟩ := Kd.R_reads hr; rw [← HMl.out] at hv55 hec55 hC55; subst hv55; have HR55 := Aside0.mk (And.intro hec55 hC55); clear hr hec55 hC55; refine ⟨_, rfl, ?_⟩; refine hK.out _ _ (pw_cell_below HQ55.out x1) (fun hHeld => ?_); clear hK K; refine norm_ (a' := ?_) ?_ ?_; rotate_left
  · show Act.put _ (some 59) _ = _; simp only [Act.put,s_a,s_b,s_c,i64_w,i32_w]; rfl
  refine one_ (i := 16) (N := some 60) (bm 19 131071) rfl rfl (by kernel_rfl) (by decide) (fun K hK => ?_); refine goes_ Try.func47 (by kernel_rfl) rfl #[.pointer (some ⟨r, 0, none⟩), .int .i64 1099511627776, .slice A55 M e55] (by rfl) rfl rfl (by simp only [List.map_toArray, List.map_cons, List.map_nil]; rfl) ?_; obtain ⟨G56, hG56⟩ := (H.out.tell HB55.out).refAt; refine (HLR.out _ G56 hG56 A55 e55 HR55.out.2 HR55.out.1).mono ?_; rintro e w56 ⟨v56, rfl, hr, hb⟩; have HQ56 := Aside0.mk (below_step HQ55.out hb); have HB56 := Aside0.mk (below_step HB55.out hb); have HZ56 := Aside0.mk (Kd.C_below HZ55.out hb); clear hb hG56; obtain ⟨A56, e56, hv56, hec56, hC56⟩ := Kd.R_reads hr; rw [List.length_map, ← HN1.out] at hv56 hec56 hC56; subst hv56; have HR56 := Aside0.mk (And.intro hec56 hC56); clear hr hec56 hC56; refine ⟨_, rfl, ?_⟩; refine hK.out _ _ (pw_cell_below HQ56.out x1) (fun hHeld => ?_); clear hK K; refine norm_ (a' := ?_) ?_ ?_; rotate_left
  · show Act.put _ (some 60) _ = _; simp only [Act.put,s_a,s_b,s_c,i64_w,i32_w]; rfl
  refine one_ (i := 17) (N := some 61) (bm 19 262143) rfl rfl (by kernel_rfl) (by decide) (fun K hK => ?_); refine goes_ Try.func24 (by kernel_rfl) rfl #[.slice A48 N1 e48, .slice A56 N1 e56] (by rfl) rfl rfl (by simp only [List.map_toArray, List.map_cons, List.map_nil]; rfl) ?_; refine (HF1.out w56 A48 e48 A56 e56 HZ56.out HR48.out.1 HR56.out.2 HR56.out.1).mono ?_; rintro e w57 ⟨rfl, hd⟩; have hb := hd.below; have HQ57 := Aside0.mk (below_step HQ56.out hb); have HB57 := Aside0.mk (below_step HB56.out hb); clear hd hb; refine ⟨_, rfl, ?_⟩; refine hK.out _ _ (pw_cell_below HQ57.out x1) (fun hHeld => ?_); clear hK K; refine norm_ (a' := ?_) ?_ ?_; rotate_left
  · show Act.put _ (some 61) _ = _; simp only [Act.put,s_a,s_b,s_c,i64_w,i32_w]; rfl
  refine pure_ (i := 18) (N := some 4) (v:=?_) (a':=?_) (bm 19 524287) rfl rfl (by kernel_rfl) (fun _ _ _ h => h) (Or.inl ⟨by rfl, ?_⟩) ?_ ?_; rotate_left
  · intro w'; go_simp; with_reducible rfl
  rotate_left
  · simp only [Act.put,s_a,s_b,s_c,i64_w,i32_w]; rfl
  refine done_ (by kernel_rfl) ?_; go_wp2_with fail
  go_ret; exact ⟨rfl, HB57.out⟩
end Go.Proofs.Ytdekcjopgnfmdaa.Hand
