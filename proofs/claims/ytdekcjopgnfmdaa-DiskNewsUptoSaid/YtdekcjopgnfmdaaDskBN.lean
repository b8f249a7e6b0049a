/- The law's asks: both disks are asked one thing. -/
import Derived.Test.YtdekcjopgnfmdaaDskBM
import Derived.Test.YtdekcjopgnfmdaaDskBJ
namespace Go.Proofs.Ytdekcjopgnfmdaa.Hand
open Go.RowKit Go.Maps Go.Proofs.YtdekcjopgnfmdaaW.PrintWords Go.Proofs.YtdekcjopgnfmdaaW.PrintLast Go.Proofs.YtdekcjopgnfmdaaW.PrintMore Go.Proofs.Ytdekcjopgnfmdaa.Q
set_option linter.unusedVariables false
set_option linter.unusedSimpArgs false
theorem str_own {w : World} {base n1 c1 : Nat} {A1 : Option Addr} {l : List ByteArray} (h : Kd.R Kd.string 9 w base (fun _ => True) (.slice A1 n1 c1) l) {k : Nat} (hk : k < n1) :
    ∃ ag x, A1 = some ag ∧ ag = ⟨ag.block, 0, none⟩ ∧ w.cell? (ag.add k) = some (.string x) ∧ w.frozen? (ag.add k) = false ∧ ∀ s : ByteArray, Below base w (w.setCell (ag.add k) (.string s)) ∧ Kd.R Kd.string 9 (w.setCell (ag.add k) (.string s)) base (fun _ => True) (.slice (some ag) n1 c1) (l.set k s) := by
  have hl := (Kd.R_reads' h).1; obtain ⟨ag, _, hA, _⟩ := Kd.C_get (Kd.R_reads' h).2.2 ByteArray.empty (k : Int) (by omega) (by omega); subst hA; have hp := R_plain h; obtain ⟨g, o, q⟩ := ag; simp only at hp; injection hp with _ ho hq; subst ho hq; obtain ⟨k1, k2⟩ := Kd.R_celln ByteArray.empty h (k : Int) (by omega) (by omega); rw [Int.toNat_natCast] at k1 k2; have hb : base ≤ g := Kd.R_base h g (by simp [Value.ownBlock]); have hl2 := Kd.R_lt h g (by simp [Value.ownBlock]); refine ⟨⟨g, 0, none⟩, _, rfl, rfl, by rw [add_at, Nat.zero_add]; exact k1, by rw [add_at, Nat.zero_add]; exact k2, fun s => ?_⟩; rw [add_at, Nat.zero_add]; have hk2 := (KeptL.refl (fun k => k = g) w).setCell ⟨g, k, none⟩ (.string s) (.inl rfl); have h3 := Kd.R_putn h (k : Int) s; rw [Int.toNat_natCast] at h3; exact ⟨hk2.below (Nat.le_of_lt (Nat.lt_of_le_of_lt hb hl2)) (fun b e => by rw [e]; exact hb), h3⟩
set_option maxHeartbeats 4000000 in
set_option maxRecDepth 100000 in
theorem law_asks.calls {w wr : World} {X : Nat → Prop} {d r : Nat} {S : DS} (h : DuoD w wr X d r S S) (x : ActD) (hx : ActB x) (A : Option Addr) (c : Nat) (A2 : Option Addr) (c2 : Nat) (hC : Kd.C (Kd.int .i64) w A2 x.c.2.length x.c.2) (hc : x.c.2.length ≤ c2) :
    Calls Try.prog 36 #[.pointer (some ⟨d, 0, none⟩), .pointer (some ⟨r, 0, none⟩), .agg (actCells x A c A2 c2)] wr fun e w' => e = .returned (.bool true) ∧ Below wr.heap.size wr w' := by
  obtain ⟨kd, nm, ds, p, n, cd, ct⟩ := x; obtain ⟨hnm, hds, hpb, hpl, hn, hcr⟩ := hx; simp only at hnm hds hpb hpl hn hC hc hcr; have HNM := Aside0.mk (And.intro hnm hds); have HCR := Aside0.mk hcr; obtain ⟨L, hL⟩ : ∃ L, L = ct.length := ⟨_, rfl⟩; have HL := Aside0.mk hL; have hW := below_alloc (Below.refl wr.heap.size wr) (.cells #[.int .i64 kd, .string nm, .string ds, .slice A p.length c, .int .i64 n, .int .i64 cd, .slice A2 L c2] 55); have HW := Aside0.mk hW; have H := Aside0.mk (h.tell hW); have BK := Aside0.mk (blk_new wr (.cells #[.int .i64 kd, .string nm, .string ds, .slice A p.length c, .int .i64 n, .int .i64 cd, .slice A2 L c2] 55)); have HC := Aside0.mk (And.intro hc hC); clear hnm hds hpb hpl hn hC hc hcr h hW; show Calls Try.prog 36 #[.pointer (some ⟨d, 0, none⟩), .pointer (some ⟨r, 0, none⟩), .agg #[.int .i64 kd, .string nm, .string ds, .slice A p.length c, .int .i64 n, .int .i64 cd, .slice A2 ct.length c2]] wr _; rw [← hL]; clear hL; go_enter Try.func36, Try.ntmps36
  go_upto_region 1 with (fail)
  obtain ⟨wb, hwb⟩ : ∃ wb, wb = wr.alloc (.cells #[.int .i64 kd, .string nm, .string ds, .slice A p.length c, .int .i64 n, .int .i64 cd, .slice A2 L c2] 55) := ⟨_, rfl⟩; obtain ⟨B, hB⟩ : ∃ B, B = wr.heap.size := ⟨_, rfl⟩; rw [← hwb] at H BK HW; rw [← hB] at BK; rw [← hwb]; rw [← hB]; clear hwb hB; have b0 := (blk_cell BK.out 0).trans rfl; obtain ⟨G0, hG0⟩ := H.out.refAt; obtain ⟨hI, hlt, vf, vd, vs, vc, hM⟩ := hG0; have HI := Aside0.mk hI; have HBM := Aside0.mk hM.blk; clear hI hlt hM; by_cases hk7 : kd = 7
  · subst hk7
    skip
    obtain ⟨bs, hbs⟩ : ∃ bs, bs = (rdFile S nm).1 := ⟨_, rfl⟩; obtain ⟨ev, hev⟩ : ∃ ev, ev = (rdFile S nm).2 := ⟨_, rfl⟩; obtain ⟨NB, hNB⟩ : ∃ NB, NB = bs.length := ⟨_, rfl⟩; have HBS := Aside0.mk (And.intro hbs (And.intro hev hNB)); obtain ⟨F9, hF9⟩ := H.out.dskAt; have HF9 := Aside0.mk hF9; have b1 := (blk_cell BK.out 1).trans rfl; clear hbs hev hNB hF9; go_wp2_with fail
    refine (disk_Read.calls HF9.out nm HNM.out.1).mono ?_; rintro e w5 ⟨v5, rfl, hr, hb⟩; rw [← HBS.out.1] at hr; rw [← HBS.out.2.1]; have HB5 := Aside0.mk hb; have hr0 := hr; obtain ⟨A5, e5, hv5, hec5, hC5⟩ := Kd.R_reads hr; rw [← HBS.out.2.2] at hv5 hec5 hC5; subst hv5; have HR := Aside0.mk hr0; have HR5 := Aside0.mk (And.intro hec5 hC5); have hNb : (NB : Int) ≤ 9223372036854775807 := by have := hC5.2.1; omega
    clear hr hr0 hb hec5 hC5 b1; have b1 := (blk_cell (blk_below BK.out HB5.out) 1).trans rfl; obtain ⟨G6, hG6⟩ := (H.out.tell HB5.out).refAt; have HG6 := Aside0.mk hG6; clear hG6; go_wp2_with fail
    refine (ref_Read.calls HG6.out nm).mono ?_; rintro e w6 ⟨v6, rfl, hr, hb⟩; rw [← HBS.out.1] at hr; rw [← HBS.out.2.1]; have HB6 := Aside0.mk (below_step HB5.out hb); have HRR6 := Aside0.mk (Kd.R_below HR.out hb); have k5 := conv_str (c := e5) (Kd.C_below HR5.out.2 hb); obtain ⟨A6, e6, hv6, hec6, hC6⟩ := Kd.R_reads hr; rw [← HBS.out.2.2] at hv6 hec6 hC6; subst hv6; have k6 := conv_str (c := e6) hC6; clear hr hb hec6 hC6 b1; go_wp2_with fail
    refine (wicketlaw05_num.calls _ _ _ rfl).mono ?_; rintro e w7 ⟨rfl, hd⟩; have HB7 := Aside0.mk (below_step HB6.out hd.below); have HR7 := Aside0.mk (Kd.R_below HRR6.out hd.below); clear hd k5 k6; go_upto_region 7 with (fail)
    go_loopw [12] (fun v12 wq => ∃ k : Nat, k ≤ NB ∧ v12 = .int .i64 k ∧ Aside0 (Below wb.heap.size wb wq ∧ ∃ l : List Int, Kd.R kB 5 wq wb.heap.size (fun _ => True) (.slice A5 NB e5) l)) (fun v12 _ => NB - (intOf v12).toNat)
    case atStart => exact ⟨0, Nat.zero_le _, rfl, HB7.out, _, HR7.out⟩
    case round =>
      clear HB7 HR7; obtain ⟨k, hk, rfl, HQ⟩ := hrel; by_cases hlk : k < NB
      · obtain ⟨l, hby⟩ := HQ.out.2; obtain ⟨ag, u, hA1, hpg, y1, y2, hbg, hbk⟩ := byte_ownB hby hlk; subst hA1; have HP := Aside0.mk (And.intro hpg (And.intro hbg hbk)); have HY := Aside0.mk hby; clear hpg hbg hbk hby; go_wp2_with fail
        obtain ⟨t1, t2, t3⟩ := put_byteB (k := k) HP.out.1 HP.out.2.2 HP.out.2.1 221; obtain ⟨bs', _, hb'⟩ := bytes_turn HY.out t1; have HN2 := Aside0.mk (And.intro (HQ.out.1.trans t2) (Exists.intro bs' hb')); clear y1 y2 t1 t2 t3 hb'; go_roundw
        case rel => exact ⟨k + 1, by omega, by go_num, HN2⟩
        case measure => simp [intOf]; omega
      · go_wp2_with fail
        go_ret; exact ⟨by first | rfl | simp, below_step HW.out HQ.out.1⟩
  have k7 : (kd == 7) = false := beq_eq_false_iff_ne.mpr hk7; by_cases hk8 : kd = 8
  · subst hk8; clear hk7; have hI := HI.out; obtain ⟨LS, hLS⟩ : ∃ LS, LS = lstOf S := ⟨_, rfl⟩; obtain ⟨NL, hNL⟩ : ∃ NL, NL = LS.length := ⟨_, rfl⟩; have hll : LS.length < 1073741824 := by rw [hLS]; exact lst_len hI
    obtain ⟨kn, hkn⟩ := (names_ev hll).rounds; have hnm := fun (w2 : World) (A0 : Option Addr) (c0 : Nat) (A1 : Option Addr) (c1 : Nat) (h0 : Kd.C Kd.string w2 A0 LS.length LS) (hc0 : LS.length ≤ c0) (h1 : Kd.C Kd.string w2 A1 LS.length LS) (hc1 : LS.length ≤ c1) => wicketlaw05_names.calls kn A0 c0 LS A1 c1 LS true w2 h0 hc0 h1 hc1 hkn; rw [← hNL] at hnm; have HNMS := Aside0.mk hnm; have HLS := Aside0.mk (And.intro hLS hNL); have hNb : (NL : Int) ≤ 9223372036854775807 := by omega
    obtain ⟨F9, hF9⟩ := H.out.dskAt; have HF9 := Aside0.mk hF9; clear hI hLS hNL hll hkn hnm hF9; go_wp2_with fail
    refine (disk_List.calls HF9.out).mono ?_; rintro e w5 ⟨v5, rfl, hr, hb⟩; rw [← HLS.out.1] at hr; have HB5 := Aside0.mk hb; have hr0 := hr; obtain ⟨A5, e5, hv5, hec5, hC5⟩ := Kd.R_reads hr; rw [← HLS.out.2] at hv5 hec5 hC5; subst hv5; have HR := Aside0.mk hr0; have HR5 := Aside0.mk (And.intro hec5 hC5); clear hr hr0 hb hec5 hC5; obtain ⟨G6, hG6⟩ := (H.out.tell HB5.out).refAt; have HG6 := Aside0.mk hG6; clear hG6; go_wp2_with fail
    refine (ref_List.calls HG6.out).mono ?_; rintro e w6 ⟨v6, rfl, hr, hb⟩; rw [← HLS.out.1] at hr; have HQ6 := Aside0.mk (Kd.C_below HR5.out.2 hb); have HB6 := Aside0.mk (below_step HB5.out hb); have HRR6 := Aside0.mk (Kd.R_below HR.out hb); obtain ⟨A6, e6, hv6, hec6, hC6⟩ := Kd.R_reads hr; rw [← HLS.out.2] at hv6 hec6 hC6; subst hv6; have HR6 := Aside0.mk (And.intro hec6 hC6); clear hr hb hec6 hC6; go_wp2_with fail
    refine (HNMS.out w6 A5 e5 A6 e6 HQ6.out HR5.out.1 HR6.out.2 HR6.out.1).mono ?_; rintro e w7 ⟨rfl, hd⟩; have HB7 := Aside0.mk (below_step HB6.out hd.below); have HR7 := Aside0.mk (Kd.R_below HRR6.out hd.below); clear hd; go_upto_region 15 with (fail)
    go_loopw [15] (fun v15 wq => ∃ k : Nat, k ≤ NL ∧ v15 = .int .i64 k ∧ Aside0 (Below wb.heap.size wb wq ∧ ∃ l : List ByteArray, Kd.R Kd.string 9 wq wb.heap.size (fun _ => True) (.slice A5 NL e5) l)) (fun v15 _ => NL - (intOf v15).toNat)
    case atStart => exact ⟨0, Nat.zero_le _, rfl, HB7.out, _, HR7.out⟩
    case round =>
      clear HB7 HR7; obtain ⟨k, hk, rfl, HQ⟩ := hrel; by_cases hlk : k < NL
      · obtain ⟨l, hby⟩ := HQ.out.2; obtain ⟨ag, u, hA1, hpg, y1, y2, hset⟩ := str_own hby hlk; subst hA1; have HSET := Aside0.mk hset; clear hpg hset hby; go_wp2_with fail
        have HN2 : Aside0 (Below wb.heap.size wb (wr.setCell (ag.add k) (.string ⟨#[63]⟩)) ∧ ∃ l : List ByteArray, Kd.R Kd.string 9 (wr.setCell (ag.add k) (.string ⟨#[63]⟩)) wb.heap.size (fun _ => True) (.slice (some ag) NL e5) l) := ⟨HQ.out.1.trans (HSET.out ⟨#[63]⟩).1, _, (HSET.out ⟨#[63]⟩).2⟩; clear y1 y2; go_roundw
        case rel => exact ⟨k + 1, by omega, by go_num, HN2⟩
        case measure => simp [intOf]; omega
      · go_wp2_with fail
        go_ret; exact ⟨rfl, below_step HW.out HQ.out.1⟩
  have k8 : (kd == 8) = false := beq_eq_false_iff_ne.mpr hk8; by_cases hk9 : kd = 9
  · subst hk9; clear hk7 hk8; obtain ⟨F9, hF9⟩ := H.out.dskAt; have HF9 := Aside0.mk hF9; clear hF9; go_wp2_with fail
    refine (disk_Free.calls HF9.out).mono ?_; rintro e w5 ⟨rfl, hb⟩; have HB5 := Aside0.mk hb; clear hb; obtain ⟨G9, hG9⟩ := (H.out.tell HB5.out).refAt; have HG9 := Aside0.mk hG9; clear hG9; go_wp2_with fail
    refine (ref_Free.calls HG9.out).mono ?_; rintro e w6 ⟨rfl, hb⟩; have HB6 := Aside0.mk (below_step HB5.out hb); clear hb; go_wp2_with fail
    go_ret; exact ⟨by first | rfl | simp, below_step HW.out HB6.out⟩
  have k9 : (kd == 9) = false := beq_eq_false_iff_ne.mpr hk9; by_cases hk11 : kd = 11
  · subst hk11; clear hk7 hk8 hk9; have c5 := (blk_cell HBM.out 7).trans rfl; go_upto_region 22 with (fail)
    refine start_ (n := 8) (S := fun w' => w'.cell? ⟨r, 7, none⟩ = some (.bool S.dead)) (ds := []) (bm 8 0) (by kernel_rfl) rfl rfl (c5) (fun hHeld => ?_); refine pure_ (i := 0) (N := some 87) (v:=?_) (a':=?_) (bm 8 1) rfl rfl (by kernel_rfl) (fun _ _ _ h => h) (Or.inl ⟨by rfl, ?_⟩) ?_ ?_; rotate_left
    · intro w'; go_simp; with_reducible rfl
    rotate_left
    · simp only [Act.put,s_a,s_b,s_c,i64_w,i32_w]; rfl
    refine pure_ (i := 2) (N := some 89) (v:=?_) (a':=?_) (bm 8 5) rfl rfl (by kernel_rfl) (fun _ _ _ h => h) (Or.inl ⟨by rfl, ?_⟩) ?_ ?_; rotate_left
    · intro w'; go_simp; with_reducible rfl
    rotate_left
    · simp only [Act.put,s_a,s_b,s_c,i64_w,i32_w]; rfl
    refine pure_ (i := 3) (N := some 90) (v:=?_) (a':=?_) (bm 8 13) rfl rfl (by kernel_rfl) (fun _ _ _ h => h) (Or.inl ⟨by rfl, ?_⟩) ?_ ?_; rotate_left
    · intro w'; go_simp; with_reducible rfl
    rotate_left
    · simp only [Act.put,s_a,s_b,s_c,i64_w,i32_w]; rfl
    refine pure_ (i := 4) (N := some 91) (v:=?_) (a':=?_) (bm 8 29) rfl rfl (by kernel_rfl) (fun _ _ _ h => h) (Or.inl ⟨by rfl, ?_⟩) ?_ ?_; rotate_left
    · intro w'; go_simp; with_reducible rfl
    rotate_left
    · simp only [Act.put,s_a,s_b,s_c,i64_w,i32_w]; rfl
    refine take_ (i := 5) (N := some 92) (v:=?_) (a':=?_) (bm 8 61) rfl rfl (by kernel_rfl) (fun _ _ _ h => h) (Or.inl ⟨by rfl, ?_⟩) hHeld ?_ ?_; rotate_left
    · intro w' s0; go_simp; with_reducible rfl
    rotate_left
    · simp only [Act.put,s_a,s_b,s_c,i64_w,i32_w]; rfl
    refine one_ (i := 1) (N := some 88) (bm 8 63) rfl rfl (by kernel_rfl) (by decide) (fun K hK => ?_); refine goes_ Try.func22 (by kernel_rfl) rfl #[.pointer (some ⟨d, 0, none⟩)] (by rfl) rfl rfl (by simp only [List.map_toArray, List.map_cons, List.map_nil]; rfl) ?_; refine (disk_Dead.own (H.out.tell (below_drew1 (Below.refl _ _))).ownD).mono ?_; rintro e w6 ⟨rfl, hw⟩; have HB6 := Aside0.mk (below_eq (below_drew1 (Below.refl wb.heap.size wb)) hw); clear hw; refine ⟨_, rfl, ?_⟩; refine hK.out _ _ (pw_cell_below HB6.out c5) (fun hHeld => ?_); clear hK K; refine norm_ (a' := ?_) ?_ ?_; rotate_left
    · show Act.put _ (some 88) _ = _; simp only [Act.put,s_a,s_b,s_c,i64_w,i32_w]; rfl
    refine pure_ (i := 6) (N := some 93) (v:=?_) (a':=?_) (bm 8 127) rfl rfl (by kernel_rfl) (fun _ _ _ h => h) (Or.inl ⟨by rfl, ?_⟩) ?_ ?_; rotate_left
    · intro w'; go_simp; with_reducible rfl
    rotate_left
    · simp only [Act.put,s_a,s_b,s_c,i64_w,i32_w]; rfl
    refine pure_ (i := 7) (N := some 6) (v:=?_) (a':=?_) (bm 8 255) rfl rfl (by kernel_rfl) (fun _ _ _ h => h) (Or.inl ⟨by rfl, ?_⟩) ?_ ?_; rotate_left
    · intro w'; go_simp; with_reducible rfl
    rotate_left
    · simp only [Act.put,s_a,s_b,s_c,i64_w,i32_w]; rfl
    refine done_ (by kernel_rfl) ?_; go_wp2_with fail
    go_ret; exact ⟨by first | rfl | simp, below_step HW.out HB6.out⟩
  have k11 : (kd == 11) = false := beq_eq_false_iff_ne.mpr hk11; by_cases hk12 : kd = 12
  · subst hk12; clear hk7 hk8 hk9 hk11; have hcr := fun (w2 : World) (hC2 : Kd.C (Kd.int .i64) w2 A2 ct.length ct) => wicketlaw05_crash.calls cd A2 c2 ct cd ct w2 hC2 HC.out.1 (crash_f HCR.out.len8); rw [← HL.out] at hcr; have HCRS := Aside0.mk hcr; have HC2 : Aside0 (Kd.C (Kd.int .i64) wb A2 L ct) := ⟨HL.out ▸ Kd.C_below HC.out.2 H.out.below⟩; clear hcr; have b5 := (blk_cell BK.out 5).trans rfl; have b6 := (blk_cell BK.out 6).trans rfl; go_wp2_with fail
    refine (HCRS.out wb HC2.out).mono ?_; rintro e w5 ⟨v5, rfl, hr, hb⟩; have HB5 := Aside0.mk hb; obtain ⟨A5, e5, hv5, hec5, hC5⟩ := Kd.R_reads hr; rw [← HL.out] at hv5 hec5 hC5; subst hv5; have HR5 := Aside0.mk (And.intro hec5 hC5); clear hr hb hec5 hC5 b5 b6; go_upto_region 25 with (fail)
    obtain ⟨w6, B6, hw6, hB6, hbf6, hb6, hs6⟩ := boxed w5 (.cells #[.int .i64 cd, .slice A5 L e5] 37 (0, 0)); rw [← hw6, ← hB6]; have BF6 := Aside0.mk hbf6; have HB6 := Aside0.mk (below_step HB5.out hb6); have HC6 := Aside0.mk (Kd.C_below HR5.out.2 hb6); clear hw6 hB6 hbf6 hb6 hs6; have hI := HI.out; obtain ⟨L1, hL1⟩ : ∃ L1, L1 = (leftOf S cd ct).map mkF := ⟨_, rfl⟩; obtain ⟨N1, hN1⟩ : ∃ N1, N1 = L1.length := ⟨_, rfl⟩; have hfb : FsB L1 := by rw [hL1]; exact hI.fsB cd ct
    obtain ⟨k1, hk1⟩ := (files_ev hfb.1).rounds; obtain ⟨ki, hki⟩ := (ints_ev (l := ct) (by have h9 : ct.length ≤ 1048576 := HCR.out.l; omega)).rounds; have hf1 := fun (w2 : World) (A0 : Option Addr) (c0 : Nat) (A1 : Option Addr) (c1 : Nat) (h0 : Kd.C kF w2 A0 L1.length L1) (hc0 : L1.length ≤ c0) (h1 : Kd.C kRF w2 A1 (L1.map toR).length (L1.map toR)) (hc1 : (L1.map toR).length ≤ c1) => wicketlaw05_files.calls k1 A0 c0 L1 A1 c1 (L1.map toR) true w2 h0 hc0 h1 hc1 hk1; rw [List.length_map, ← hN1] at hf1; have hin := fun (w2 : World) (A0 : Option Addr) (c0 : Nat) (A1 : Option Addr) (c1 : Nat) (h0 : Kd.C (Kd.int .i64) w2 A0 ct.length ct) (hc0 : ct.length ≤ c0) (h1 : Kd.C (Kd.int .i64) w2 A1 ct.length ct) (hc1 : ct.length ≤ c1) => wicketlaw05_ints.calls ki A0 c0 ct A1 c1 ct true w2 h0 hc0 h1 hc1 hki; rw [← HL.out] at hin; have hld := fun (w2 : World) (hD : OwnD w w2 d S) (At : Option Addr) (c9 : Nat) (hCt : Kd.C (Kd.int .i64) w2 At ct.length ct) (hct : ct.length ≤ c9) => disk_Left.own hD cd HCR.out.d At c9 ct hCt hct HCR.out.t; have hlr := fun (w2 : World) (G2 : Nat → Prop) (hG : RskAt w2 G2 r S) (At : Option Addr) (c9 : Nat) (hCt : Kd.C (Kd.int .i64) w2 At ct.length ct) (hct : ct.length ≤ c9) => ref_Left.calls hG cd At c9 ct hCt hct HCR.out.t; rw [show (leftOf S cd ct).map mkRF = L1.map toR from by rw [hL1, List.map_map]; rfl, ← HL.out] at hlr; rw [← hL1, ← HL.out] at hld; have HF1 := Aside0.mk hf1; have HIN := Aside0.mk hin; have HLD := Aside0.mk hld; have HLR := Aside0.mk hlr; have HN1 := Aside0.mk hN1; have HFB := Aside0.mk hfb; have HCL : Aside0 (L ≤ c2) := ⟨by rw [HL.out]; exact HC.out.1⟩; clear hI hL1 hN1 hfb hk1 hki hf1 hin hld hlr; have x0 := (blk_cell BF6.out 0).trans rfl; have x1 := (blk_cell BF6.out 1).trans rfl; go_wp2_with fail
    refine (HLD.out w6 (H.out.tell HB6.out).ownD A5 e5 HC6.out HR5.out.1).mono ?_; rintro e w7 ⟨v7, rfl, hr, hb, _⟩; have HR := Aside0.mk hr; have HB7 := Aside0.mk (below_step HB6.out hb); have BF7 := Aside0.mk (blk_below BF6.out hb); have HC7 := Aside0.mk (Kd.C_below HC6.out hb); obtain ⟨A7, e7, hv7, hec7, hC7⟩ := Kd.R_reads hr; rw [← HN1.out] at hv7 hec7 hC7; subst hv7; have HR7 := Aside0.mk (And.intro hec7 hC7); clear hr hb hec7 hC7 x0 x1; obtain ⟨G8, hG8⟩ := (H.out.tell HB7.out).refAt; have HG8 := Aside0.mk hG8; clear hG8; have b5 := (blk_cell (blk_below BK.out HB7.out) 5).trans rfl; have b6 := (blk_cell (blk_below BK.out HB7.out) 6).trans rfl; go_wp2_with fail
    refine (HLR.out w7 G8 HG8.out A2 c2 (Kd.C_below HC2.out HB7.out) HCL.out).mono ?_; rintro e w8 ⟨v8, rfl, hr, hb⟩; have HRR8 := Aside0.mk (Kd.R_below HR.out hb); have HQ8 := Aside0.mk (Kd.C_below HR7.out.2 hb); have HB8 := Aside0.mk (below_step HB7.out hb); have BF8 := Aside0.mk (blk_below BF7.out hb); have HC8 := Aside0.mk (Kd.C_below HC7.out hb); obtain ⟨A8, e8, hv8, hec8, hC8⟩ := Kd.R_reads hr; rw [List.length_map, ← HN1.out] at hv8 hec8 hC8; subst hv8; have HR8 := Aside0.mk (And.intro hec8 hC8); clear hr hb hec8 hC8 b5 b6; go_wp2_with fail
    refine (HF1.out w8 A7 e7 A8 e8 HQ8.out HR7.out.1 HR8.out.2 HR8.out.1).mono ?_; rintro e w9 ⟨rfl, hd⟩; have HB9 := Aside0.mk (below_step HB8.out hd.below); have BF9 := Aside0.mk (blk_below BF8.out hd.below); have HC9 := Aside0.mk (Kd.C_below HC8.out hd.below); have HRR9 := Aside0.mk (Kd.R_below HRR8.out hd.below); clear hd; have x1 := (blk_cell BF9.out 1).trans rfl; have b6 := (blk_cell (blk_below BK.out HB9.out) 6).trans rfl; go_wp2_with fail
    refine (HIN.out w9 A5 e5 A2 c2 HC9.out HR5.out.1 (Kd.C_below HC2.out HB9.out) HCL.out).mono ?_; rintro e w10 ⟨rfl, hd⟩; have HB10 := Aside0.mk (below_step HB9.out hd.below); have HR10 := Aside0.mk (Kd.R_lower (Kd.R_below HRR9.out hd.below) HB6.out.size); clear hd x1 b6; go_wp2_with fail
    refine (law_spoil.calls (base := wb.heap.size) (m := 1073741824) HR10.out (fun f hf => Nat.le_of_lt (HFB.out.2 f hf)) (Nat.le_refl _) (Nat.le_of_lt HFB.out.1) HB10.out.size).mono ?_; rintro e w11 ⟨⟨v11, rfl⟩, hb⟩; have HB11 := Aside0.mk (HB10.out.trans hb); clear hb; go_wp2_with fail
    go_ret; exact ⟨rfl, below_step HW.out HB11.out⟩
  have k12 : (kd == 12) = false := beq_eq_false_iff_ne.mpr hk12; by_cases hk13 : kd = 13
  · subst hk13; clear hk7 hk8 hk9 hk11 hk12; have hI := HI.out; obtain ⟨L0, hL0⟩ : ∃ L0, L0 = (leftOf S 0 []).map mkF := ⟨_, rfl⟩; obtain ⟨N0, hN0⟩ : ∃ N0, N0 = L0.length := ⟨_, rfl⟩; have hfb : FsB L0 := by rw [hL0]; exact hI.fsB 0 []
    obtain ⟨k0, hk0⟩ := (files_ev hfb.1).rounds; have hf0 := fun (w2 : World) (A0 : Option Addr) (c0 : Nat) (A1 : Option Addr) (c1 : Nat) (h0 : Kd.C kF w2 A0 L0.length L0) (hc0 : L0.length ≤ c0) (h1 : Kd.C kRF w2 A1 (L0.map toR).length (L0.map toR)) (hc1 : (L0.map toR).length ≤ c1) => wicketlaw05_files.calls k0 A0 c0 L0 A1 c1 (L0.map toR) true w2 h0 hc0 h1 hc1 hk0; rw [List.length_map, ← hN0] at hf0; have HF0 := Aside0.mk hf0; have HL0 := Aside0.mk (And.intro hL0 hN0); have HFB := Aside0.mk hfb; obtain ⟨F9, hF9⟩ := H.out.dskAt; have HF9 := Aside0.mk hF9; clear hI hL0 hN0 hk0 hf0 hfb hF9; go_wp2_with fail
    refine (disk_Durable.calls HF9.out).mono ?_; rintro e w5 ⟨v5, rfl, hr, hb⟩; rw [← HL0.out.1] at hr; have HR := Aside0.mk hr; have HB5 := Aside0.mk hb; obtain ⟨A5, e5, hv5, hec5, hC5⟩ := Kd.R_reads hr; rw [← HL0.out.2] at hv5 hec5 hC5; subst hv5; have HR5 := Aside0.mk (And.intro hec5 hC5); clear hr hb hec5 hC5; obtain ⟨G6, hG6⟩ := (H.out.tell HB5.out).refAt; have HG6 := Aside0.mk hG6; clear hG6; go_wp2_with fail
    refine (ref_Left.calls HG6.out 0 none 0 ([] : List Int) (Kd.R_reads' (Kd.R_nil (Kd.int .i64) 3 w5 0 (fun _ => True))).2.2 (Nat.le_refl _) (fun _ h => by cases h)).mono ?_; rintro e w6 ⟨v6, rfl, hr, hb⟩; have HQ6 := Aside0.mk (Kd.C_below HR5.out.2 hb); have HB6 := Aside0.mk (below_step HB5.out hb); have HRR6 := Aside0.mk (Kd.R_below HR.out hb); rw [show (leftOf S 0 []).map mkRF = L0.map toR from by rw [HL0.out.1, List.map_map]; rfl] at hr; obtain ⟨A6, e6, hv6, hec6, hC6⟩ := Kd.R_reads hr; rw [List.length_map, ← HL0.out.2] at hv6 hec6 hC6; subst hv6; have HR6 := Aside0.mk (And.intro hec6 hC6); clear hr hb hec6 hC6; go_wp2_with fail
    refine (HF0.out w6 A5 e5 A6 e6 HQ6.out HR5.out.1 HR6.out.2 HR6.out.1).mono ?_; rintro e w7 ⟨rfl, hd⟩; have HB7 := Aside0.mk (below_step HB6.out hd.below); have HR7 := Aside0.mk (Kd.R_below HRR6.out hd.below); clear hd; go_wp2_with fail
    refine (law_spoil.calls (m := 1073741824) HR7.out (fun f hf => Nat.le_of_lt (HFB.out.2 f hf)) (Nat.le_refl _) (Nat.le_of_lt HFB.out.1) HB7.out.size).mono ?_; rintro e w8 ⟨⟨v8, rfl⟩, hb⟩; have HB8 := Aside0.mk (HB7.out.trans hb); clear hb; go_wp2_with fail
    go_ret; exact ⟨rfl, below_step HW.out HB8.out⟩
  have k13 : (kd == 13) = false := beq_eq_false_iff_ne.mpr hk13; by_cases hk14 : kd = 14
  · subst hk14; clear hk7 hk8 hk9 hk11 hk12 hk13; have c5 := (blk_cell HBM.out 5).trans rfl; go_upto_region 35 with (fail)
    refine start_ (n := 8) (S := fun w' => w'.cell? ⟨r, 5, none⟩ = some (.int .i64 S.ops)) (ds := []) (bm 8 0) (by kernel_rfl) rfl rfl (c5) (fun hHeld => ?_); refine pure_ (i := 0) (N := some 136) (v:=?_) (a':=?_) (bm 8 1) rfl rfl (by kernel_rfl) (fun _ _ _ h => h) (Or.inl ⟨by rfl, ?_⟩) ?_ ?_; rotate_left
    · intro w'; go_simp; with_reducible rfl
    rotate_left
    · simp only [Act.put,s_a,s_b,s_c,i64_w,i32_w]; rfl
    refine pure_ (i := 2) (N := some 138) (v:=?_) (a':=?_) (bm 8 5) rfl rfl (by kernel_rfl) (fun _ _ _ h => h) (Or.inl ⟨by rfl, ?_⟩) ?_ ?_; rotate_left
    · intro w'; go_simp; with_reducible rfl
    rotate_left
    · simp only [Act.put,s_a,s_b,s_c,i64_w,i32_w]; rfl
    refine pure_ (i := 3) (N := some 139) (v:=?_) (a':=?_) (bm 8 13) rfl rfl (by kernel_rfl) (fun _ _ _ h => h) (Or.inl ⟨by rfl, ?_⟩) ?_ ?_; rotate_left
    · intro w'; go_simp; with_reducible rfl
    rotate_left
    · simp only [Act.put,s_a,s_b,s_c,i64_w,i32_w]; rfl
    refine pure_ (i := 4) (N := some 140) (v:=?_) (a':=?_) (bm 8 29) rfl rfl (by kernel_rfl) (fun _ _ _ h => h) (Or.inl ⟨by rfl, ?_⟩) ?_ ?_; rotate_left
    · intro w'; go_simp; with_reducible rfl
    rotate_left
    · simp only [Act.put,s_a,s_b,s_c,i64_w,i32_w]; rfl
    refine take_ (i := 5) (N := some 141) (v:=?_) (a':=?_) (bm 8 61) rfl rfl (by kernel_rfl) (fun _ _ _ h => h) (Or.inl ⟨by rfl, ?_⟩) hHeld ?_ ?_; rotate_left
    · intro w' s0; go_simp; with_reducible rfl
    rotate_left
    · simp only [Act.put,s_a,s_b,s_c,i64_w,i32_w]; rfl
    refine one_ (i := 1) (N := some 137) (bm 8 63) rfl rfl (by kernel_rfl) (by decide) (fun K hK => ?_); refine goes_ Try.func21 (by kernel_rfl) rfl #[.pointer (some ⟨d, 0, none⟩)] (by rfl) rfl rfl (by simp only [List.map_toArray, List.map_cons, List.map_nil]; rfl) ?_; refine (disk_Count.own (H.out.tell (below_drew1 (Below.refl _ _))).ownD).mono ?_; rintro e w6 ⟨rfl, hw⟩; have HB6 := Aside0.mk (below_eq (below_drew1 (Below.refl wb.heap.size wb)) hw); clear hw; refine ⟨_, rfl, ?_⟩; refine hK.out _ _ (pw_cell_below HB6.out c5) (fun hHeld => ?_); clear hK K; refine norm_ (a' := ?_) ?_ ?_; rotate_left
    · show Act.put _ (some 137) _ = _; simp only [Act.put,s_a,s_b,s_c,i64_w,i32_w]; rfl
    refine pure_ (i := 6) (N := some 142) (v:=?_) (a':=?_) (bm 8 127) rfl rfl (by kernel_rfl) (fun _ _ _ h => h) (Or.inl ⟨by rfl, ?_⟩) ?_ ?_; rotate_left
    · intro w'; go_simp; with_reducible rfl
    rotate_left
    · simp only [Act.put,s_a,s_b,s_c,i64_w,i32_w]; rfl
    refine pure_ (i := 7) (N := some 6) (v:=?_) (a':=?_) (bm 8 255) rfl rfl (by kernel_rfl) (fun _ _ _ h => h) (Or.inl ⟨by rfl, ?_⟩) ?_ ?_; rotate_left
    · intro w'; go_simp; with_reducible rfl
    rotate_left
    · simp only [Act.put,s_a,s_b,s_c,i64_w,i32_w]; rfl
    refine done_ (by kernel_rfl) ?_; go_wp2_with fail
    go_ret; exact ⟨by first | rfl | simp, below_step HW.out HB6.out⟩
  have k14 : (kd == 14) = false := beq_eq_false_iff_ne.mpr hk14; clear hk7 hk8 hk9 hk11 hk12 hk13 hk14; go_wp2_with fail
  go_ret; exact ⟨rfl, HW.out⟩
end Go.Proofs.Ytdekcjopgnfmdaa.Hand
