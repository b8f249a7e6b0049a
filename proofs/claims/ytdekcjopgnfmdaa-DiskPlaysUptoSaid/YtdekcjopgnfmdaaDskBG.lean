/- The document's disk: Left. -/
import Derived.Test.YtdekcjopgnfmdaaDskBD
namespace Go.Proofs.Ytdekcjopgnfmdaa.Hand
open Go.RowKit Go.Maps Go.Proofs.YtdekcjopgnfmdaaW.PrintWords Go.Proofs.YtdekcjopgnfmdaaW.PrintLast Go.Proofs.YtdekcjopgnfmdaaW.PrintMore Go.Proofs.Ytdekcjopgnfmdaa.Q
set_option linter.unusedVariables false
set_option linter.unusedSimpArgs false
def mkRF (x : ByteArray × List Int) : S101 := ⟨x.1, x.2⟩
abbrev kRFl : Kd S101 := k101
theorem part_f (a b : Int) : wicketref05_part.f a b = some (partI a b) := by
  unfold wicketref05_part.f partI
  split
  · rfl
  split <;> rfl
theorem take_len {w : World} {A : Option Addr} {X : List Int} {n : Nat} (e : X.length = n) (h : Kd.C (Kd.int .u8) w A X.length X) : Kd.C (Kd.int .u8) w A n X := by rwa [e] at h
theorem foldl_take {S : DS} {i : Nat} (h : i < S.chg.length) : (S.chg.take (i + 1)).foldl turn S.safe = turn ((S.chg.take i).foldl turn S.safe) (S.chg.getD i chg0) := by
  rw [List.take_succ_eq_append_getElem h, foldl_snoc, List.getD_eq_getElem?_getD, List.getElem?_eq_getElem h]; rfl
set_option maxHeartbeats 4000000 in
set_option maxRecDepth 100000 in
theorem ref_Left.calls {w : World} {F : Nat → Prop} {d : Nat} {S : DS} (h : RskAt w F d S) (dN : Int) (At : Option Addr) (ct : Nat) (ts : List Int) (hCt : Kd.C (Kd.int .i64) w At ts.length ts) (hct : ts.length ≤ ct) (hts : ∀ x, x ∈ ts → -9223372036854775808 ≤ x ∧ x ≤ 9223372036854775807) :
    Calls Try.prog 47 #[.pointer (some ⟨d, 0, none⟩), .int .i64 dN, .slice At ts.length ct] w fun e w' => ∃ v, e = .returned v ∧ Kd.R kRFl 101 w' w.heap.size (fun _ => True) v ((leftOf S dN ts).map mkRF) ∧ Below w.heap.size w w' := by
  obtain ⟨hI, hlt0, vf, vd, vs, vc, h1⟩ := h; have HI := Aside0.mk hI; have H := Aside0.mk h1; have HCT := Aside0.mk (And.intro hCt (And.intro hct hts)); obtain ⟨TL, hTL⟩ : ∃ TL, TL = ts.length := ⟨_, rfl⟩; have HTL := Aside0.mk hTL; have htb : (TL : Int) ≤ 9223372036854775807 := by have := hCt.2.1; omega
  rw [← hTL]; obtain ⟨As, cs, hvs⟩ := Kd.R_slice h1.safe; obtain ⟨NS, hNS⟩ : ∃ N, N = (S.safe.map mkE).length := ⟨_, rfl⟩; have hrs := (Kd.R_reads' (hvs ▸ h1.safe)).2; rw [← hNS] at hvs hrs; obtain ⟨Ac, cc, hvc⟩ := Kd.R_slice h1.chg; obtain ⟨NC, hNC⟩ : ∃ N, N = S.chg.length := ⟨_, rfl⟩; have hrc := (Kd.R_reads' (hvc ▸ h1.chg)).2; rw [← hNC] at hvc hrc; subst hvs hvc; have HRS := Aside0.mk hrs; have HRC := Aside0.mk hrc; have HNC := Aside0.mk hNC; have hncb : (NC : Int) ≤ 1048576 := by have h1 := hI.lenC; have h2 := hI.opsB; omega
  obtain ⟨P, hP⟩ : ∃ P : Nat, (P : Int) = partI dN (NC : Int) := ⟨(partI dN (NC : Int)).toNat, by unfold partI; split; rfl; split <;> omega⟩
  have hPN : P ≤ NC := by
    have : partI dN (NC : Int) ≤ NC := by unfold partI; split; omega; split <;> omega
    omega
  have HP : Aside0 (leftD S dN = (S.chg.take P).foldl turn S.safe) := ⟨by unfold leftD; rw [← hNC, ← hP, Int.toNat_natCast]⟩; have HPF : Aside0 (wicketref05_part.f dN (NC : Int) = some (P : Int)) := ⟨by rw [part_f, hP]⟩; have hPB : (P : Int) ≤ 9223372036854775807 := by omega
  have c3 := (blk_cell h1.blk 3).trans rfl; have c4 := (blk_cell h1.blk 4).trans rfl; have HPN := Aside0.mk hPN; have HNB := Aside0.mk hncb; clear h1 hI hlt0 hCt hct hts hTL hNS hNC hrs hrc hP hPN hncb; go_enter Try.func47, Try.ntmps47
  go_wp2_with fail
  refine (wicketref05_part.calls dN (NC : Int) (P : Int) w HPF.out).mono ?_; rintro e w2 ⟨rfl, hd2⟩; have HB2 := Aside0.mk hd2.below; have HS0 : Aside0 (NS ≤ cs ∧ Kd.C kEn w2 As NS (S.safe.map mkE)) := ⟨HRS.out.1, Kd.C_below HRS.out.2 hd2.below⟩; clear hd2 c3 c4; go_upto_region 4 with (fail)
  go_loopw [7, 9] (fun v7 v9 wr => ∃ i : Nat, i ≤ P ∧ v9 = .int .i64 i ∧ ∃ Al nl cl, v7 = .slice Al nl cl ∧ Aside0 (nl ≤ cl ∧ Kd.C kEn wr Al nl (((S.chg.take i).foldl turn S.safe).map mkE) ∧ Below w.heap.size w wr)) (fun _ v9 _ => P - (intOf v9).toNat)
  case atStart => exact ⟨0, Nat.zero_le _, rfl, As, NS, cs, rfl, ⟨HS0.out.1, HS0.out.2, HB2.out⟩⟩
  case round =>
    obtain ⟨i, hi, rfl, Al, nl, cl, rfl, HU⟩ := hrel; have hm := H.out.below HU.out.2.2; have c4 := (blk_cell hm.blk 4).trans rfl; by_cases hlt : i < P
    · have hic : i < NC := by have := HPN.out; omega
      have hicS : i < S.chg.length := by rw [← HNC.out]; exact hic
      obtain ⟨ac, rfl, q0, q1, q2⟩ := chg_at (Kd.C_below HRC.out.2 HU.out.2.2) i hic; have HT := Aside0.mk (foldl_take hicS); have HLD : Aside0 (((S.chg.take i).foldl turn S.safe).length ≤ 1048640) := ⟨(leftD_ok HI.out i).2.1⟩; obtain ⟨⟨a, b, f⟩, hc⟩ : ∃ c, c = S.chg.getD i chg0 := ⟨_, rfl⟩; rw [← hc] at q0 q1 q2 HT; simp only at q0 q1 q2; clear hm hc hicS; go_wp2_with fail
      refine (ref_changed.calls HU.out.2.1 HU.out.1 HLD.out a b f).mono ?_; rintro e w5 ⟨v5, rfl, hb5, hcase⟩
      have hrow : ∃ A5 n5 c5, v5 = .slice A5 n5 c5 ∧ n5 ≤ c5 ∧ Kd.C kEn w5 A5 n5 (((S.chg.take (i + 1)).foldl turn S.safe).map mkE) := by
        rcases hcase with ⟨rfl, ht⟩ | hr
        · exact ⟨Al, nl, cl, rfl, HU.out.1, by rw [HT.out, ht]; exact Kd.C_below HU.out.2.1 hb5⟩
        · obtain ⟨A5, c5, hv⟩ := Kd.R_slice hr; have h9 := (Kd.R_reads' (hv ▸ hr)).2; exact ⟨A5, _, c5, hv, h9.1, by rw [HT.out]; exact h9.2⟩
      obtain ⟨A5, n5, c5, rfl, h5, h6⟩ := hrow; have HU2 : Aside0 (n5 ≤ c5 ∧ Kd.C kEn w5 A5 n5 (((S.chg.take (i + 1)).foldl turn S.safe).map mkE) ∧ Below w.heap.size w w5) := ⟨h5, h6, below_step HU.out.2.2 hb5⟩; clear hb5 hcase h5 h6 q0 q1 q2 c4 HU HT HLD; go_wp2_with fail
      go_roundw
      case rel => exact ⟨i + 1, by omega, by go_num, A5, n5, c5, rfl, HU2⟩
      case measure => simp [intOf]; omega
    · obtain rfl : i = P := by omega
      obtain ⟨L, hL⟩ : ∃ L, L = (S.chg.take i).foldl turn S.safe := ⟨_, rfl⟩; have HL := Aside0.mk hL; have hLK := leftD_ok HI.out i; have hCL := HU.out.2.1; rw [← hL] at hLK hCL; have hnl : nl = L.length := by rw [← hCL.1, List.length_map]
      subst hnl; have HLK := Aside0.mk hLK; have HCL := Aside0.mk (And.intro HU.out.1 (And.intro hCL HU.out.2.2)); obtain ⟨NL, hNL⟩ : ∃ NL, NL = L.length := ⟨_, rfl⟩; have HNL := Aside0.mk hNL; rw [← hNL] at HCL; rw [← hNL]; obtain ⟨w5, hw5⟩ : ∃ w5, w5 = wr := ⟨_, rfl⟩; subst hw5; have hNLB : (NL : Int) ≤ 1048640 := by have := hLK.2.1; omega
      have H5 := Aside0.mk (H.out.below HCL.out.2.2); clear hL hLK hCL HU hm c4 hNL; go_upto_region 9 with (fail)
      go_loopw [10, 11] (fun v10 v11 wr => ∃ k : Nat, k ≤ NL ∧ v11 = .int .i64 k ∧ ∃ Ao no co, v10 = .slice Ao no co ∧ Aside0 (Kd.R kRFl 101 wr w5.heap.size (fun _ => True) (.slice Ao no co) (((L.take k).map (leftF S ts)).map mkRF) ∧ Below w5.heap.size w5 wr)) (fun _ v11 _ => NL - (intOf v11).toNat)
      case atStart => exact ⟨0, Nat.zero_le _, rfl, none, 0, 0, rfl, ⟨Kd.R_nil _ _ _ _ _, Below.refl _ _⟩⟩
      case round =>
        obtain ⟨k, hk, rfl, Ao, no, co, rfl, HJ⟩ := hrel; by_cases hlt : k < NL
        · have hkL : k < L.length := by rw [← HNL.out]; exact hlt
          have hm := H5.out.below HJ.out.2; obtain ⟨ad, hA, e0, e1⟩ := ent_at (Kd.C_below HCL.out.2.1 HJ.out.2) k hkL; subst hA; have hok := HLK.out.2.2 _ (List.getElem_mem hkL); obtain ⟨⟨nk, jj⟩, hen⟩ : ∃ en, en = L[k] := ⟨_, rfl⟩; rw [← hen] at e0 e1 hok; obtain ⟨j, hj⟩ : ∃ j : Nat, (j : Int) = jj := ⟨jj.toNat, by have := hok.1; simp only at this; omega⟩; subst hj; simp only at e0 e1 hok; have hjS : j < S.files.length := by have := hok.2.1; omega
          have HGE : Aside0 (L.take (k + 1) = L.take k ++ [(nk, (j : Int))]) := ⟨by rw [List.take_succ_eq_append_getElem hkL, ← hen]⟩; obtain ⟨Af, cf, hvf, hcf, _⟩ := hm.filRow; obtain ⟨af, A5, c5, hA, k0, k1, z0, z1, hk5, hC5, hx1, hx2, hx3, hx4, hx5⟩ := bod_own (hvf ▸ hm.fil) j hjS; obtain ⟨fj, hfj⟩ : ∃ fj, fj = S.files.getD j ([], 0) := ⟨_, rfl⟩; have hfo : fileOf S (j : Int) = fj := by rw [hfj]; unfold fileOf; rw [Int.toNat_natCast]
          have hfl := HI.out.fil _ (fileOf_mem (S := S) (i := (j : Int)) (by omega) (by omega)); rw [hfo] at hfl; rw [← hfj] at k0 k1 hk5 hC5; obtain ⟨sy, hsy⟩ : ∃ sy, sy = fj.2 := ⟨_, rfl⟩; obtain ⟨n5, hn5⟩ : ∃ n5, n5 = fj.1.length := ⟨_, rfl⟩; rw [← hsy] at k1; rw [← hn5] at k0 hk5 hC5; rw [← hsy, ← hn5] at hfl; have c1 := (blk_cell hm.blk 1).trans rfl; rw [hvf, hA] at c1; obtain ⟨NF, hNF⟩ : ∃ NF, NF = S.files.length := ⟨_, rfl⟩; rw [← hNF] at c1; have hjF : j < NF := by rw [hNF]; exact hjS
          have hjB : (j : Int) ≤ 9223372036854775807 := by have h2 := HI.out.lenF; have h3 := HI.out.opsB; omega
          have HFO := Aside0.mk (And.intro hfo (And.intro hsy hn5)); have HC5 := Aside0.mk hC5; have HFL : Aside0 (n5 ≤ 4194304 ∧ 0 ≤ sy ∧ sy ≤ n5) := ⟨by have := hfl.1; omega, hfl.2.1, hfl.2.2.1⟩; have HXL : Aside0 ((((L.take k).map (leftF S ts)).map mkRF).length + 1 ≤ 1048641) := ⟨by rw [List.length_map, List.length_map, List.length_take]; omega⟩; obtain ⟨ib, hib, _⟩ := Option.map_eq_some_iff.1 infoB; have HCUT := Aside0.mk (fun (x : Int) (h0 : 0 ≤ x) (h1 : x ≤ n5) => cut_to (P := Try.prog) 53 5 .i64 Try.underlying53 hib A5 n5 c5 x h0 h1 hk5); clear hx1 hx2 hx3 hx4 hx5 z0 z1 hm hok hen hkL hcf hk5 hC5 hfj hfo hfl hsy hn5 hib hA hNF hjS hvf; go_upto_region 11 with (fail)
          refine start_ (n := 13) (S := fun w' => w'.cell? ⟨d, 1, none⟩ = some (.slice (some af) NF cf) ∧ w'.cell? ⟨(ad.add (k * 2)).block, (ad.add (k * 2)).off + 1, none⟩ = some (.int .i64 (j : Int)) ∧ w'.cell? (af.add (j * 2)) = some (.slice A5 n5 c5) ∧ w'.cell? ⟨(af.add (j * 2)).block, (af.add (j * 2)).off + 1, none⟩ = some (.int .i64 sy)) (ds := [12]) (bm 13 0) (by kernel_rfl) rfl rfl ⟨c1, e1, k0, k1⟩ (fun hHeld => ?_); refine pure_ (i := 0) (N := some 45) (v:=?_) (a':=?_) (bm 13 1) rfl rfl (by kernel_rfl) (fun _ _ _ h => h) (Or.inl ⟨by rfl, ?_⟩) ?_ ?_; rotate_left
          · intro w'; go_simp; with_reducible rfl
          rotate_left
          · simp only [Act.put,s_a,s_b,s_c,i64_w,i32_w]; rfl
          refine pure_ (i := 1) (N := some 46) (v:=?_) (a':=?_) (bm 13 3) rfl rfl (by kernel_rfl) (fun _ _ _ h => h) (Or.inl ⟨by rfl, ?_⟩) ?_ ?_; rotate_left
          · intro w'; go_simp; with_reducible rfl
          rotate_left
          · simp only [Act.put,s_a,s_b,s_c,i64_w,i32_w]; rfl
          refine pure_ (i := 2) (N := some 47) (v:=?_) (a':=?_) (bm 13 7) rfl rfl (by kernel_rfl) (fun _ _ _ h => h) (Or.inl ⟨by rfl, ?_⟩) ?_ ?_; rotate_left
          · intro w'; go_simp; with_reducible rfl
          rotate_left
          · simp only [Act.put,s_a,s_b,s_c,i64_w,i32_w]; rfl
          refine pure_ (i := 4) (N := some 49) (v:=?_) (a':=?_) (bm 13 23) rfl rfl (by kernel_rfl) (fun _ _ _ h => h) (Or.inl ⟨by rfl, ?_⟩) ?_ ?_; rotate_left
          · intro w'; go_simp; with_reducible rfl
          rotate_left
          · simp only [Act.put,s_a,s_b,s_c,i64_w,i32_w]; rfl
          refine pure_ (i := 5) (N := some 50) (v:=?_) (a':=?_) (bm 13 55) rfl rfl (by kernel_rfl) (fun _ _ _ h => h) (Or.inl ⟨by rfl, ?_⟩) ?_ ?_; rotate_left
          · intro w'; go_simp; with_reducible rfl
          rotate_left
          · simp only [Act.put,s_a,s_b,s_c,i64_w,i32_w]; rfl
          refine pure_ (i := 6) (N := some 51) (v:=?_) (a':=?_) (bm 13 119) rfl rfl (by kernel_rfl) (fun _ _ _ h => h) (Or.inl ⟨by rfl, ?_⟩) ?_ ?_; rotate_left
          · intro w'; go_simp; with_reducible rfl
          rotate_left
          · simp only [Act.put,s_a,s_b,s_c,i64_w,i32_w]; rfl
          refine pure_ (i := 7) (N := some 52) (v:=?_) (a':=?_) (bm 13 247) rfl rfl (by kernel_rfl) (fun _ _ _ h => h) (Or.inl ⟨by rfl, ?_⟩) ?_ ?_; rotate_left
          · intro w'; go_simp; with_reducible rfl
          rotate_left
          · simp only [Act.put,s_a,s_b,s_c,i64_w,i32_w]; rfl
          refine take_ (i := 3) (N := some 48) (v:=?_) (a':=?_) (bm 13 255) rfl rfl (by kernel_rfl) (fun _ _ _ h => h) (Or.inl ⟨by rfl, ?_⟩) hHeld ?_ ?_; rotate_left
          · rintro w' ⟨s0, s1, s2, s3⟩; go_simp; with_reducible rfl
          rotate_left
          · simp only [Act.put,s_a,s_b,s_c,i64_w,i32_w]; rfl
          refine take_ (i := 8) (N := some 53) (v:=?_) (a':=?_) (bm 13 511) rfl rfl (by kernel_rfl) (fun _ _ _ h => h) (Or.inl ⟨by rfl, ?_⟩) hHeld ?_ ?_; rotate_left
          · rintro w' ⟨s0, s1, s2, s3⟩; go_simp; with_reducible rfl
          rotate_left
          · simp only [Act.put,s_a,s_b,s_c,i64_w,i32_w]; rfl
          refine pure_ (i := 9) (N := some 54) (v:=?_) (a':=?_) (bm 13 1023) rfl rfl (by kernel_rfl) (fun _ _ _ h => h) (Or.inl ⟨by rfl, ?_⟩) ?_ ?_; rotate_left
          · intro w'; go_simp; with_reducible rfl
          rotate_left
          · simp only [Act.put,s_a,s_b,s_c,i64_w,i32_w]; rfl
          refine take_ (i := 10) (N := some 55) (v:=?_) (a':=?_) (bm 13 2047) rfl rfl (by kernel_rfl) (fun _ _ _ h => h) (Or.inl ⟨by rfl, ?_⟩) hHeld ?_ ?_; rotate_left
          · rintro w' ⟨s0, s1, s2, s3⟩; go_simp; with_reducible rfl
          rotate_left
          · simp only [Act.put,s_a,s_b,s_c,i64_w,i32_w]; rfl
          refine one_ (i := 11) (N := some 12) (bm 13 4095) rfl rfl (by kernel_rfl) (by decide) (fun K hK => ?_); refine value_ (w1 := wr.drew.alloc (.cells #[.slice none 0 0, .int .i64 0] 113)) (v := .pointer (some ⟨wr.heap.size, 0, none⟩)) (by rfl) rfl ?_ ?_
          · go_simp
            try rfl
          have BN := Aside0.mk (blk_new wr.drew (.cells #[.slice none 0 0, .int .i64 0] 113)); have BNa : (wr.drew.alloc (.cells #[.slice none 0 0, .int .i64 0] 113)).cell? ⟨wr.heap.size, 0, none⟩ = some (.slice none 0 0) := (blk_cell BN.out 0).trans rfl; have BNb : (wr.drew.alloc (.cells #[.slice none 0 0, .int .i64 0] 113)).cell? ⟨wr.heap.size, 1, none⟩ = some (.int .i64 0) := (blk_cell BN.out 1).trans rfl; have BZa := blk_frozen BN.out 0; have BZb := blk_frozen BN.out 1; refine hK.out _ _ ⟨pw_cell_below (below_alloc (Below.refl wr.drew.heap.size wr.drew) _) hHeld.1, pw_cell_below (below_alloc (Below.refl wr.drew.heap.size wr.drew) _) hHeld.2.1, pw_cell_below (below_alloc (Below.refl wr.drew.heap.size wr.drew) _) hHeld.2.2.1, pw_cell_below (below_alloc (Below.refl wr.drew.heap.size wr.drew) _) hHeld.2.2.2⟩ (fun hHeld => ?_); clear hK K; refine norm_ (a' := ?_) ?_ ?_; rotate_left
          · show Act.put _ (some 12) _ = _; simp only [Act.put,s_a,s_b,s_c,i64_w,i32_w]; rfl
          refine last_ (i := 12) (N := none) (bm 13 8191) rfl rfl (by kernel_rfl) (by decide) (fun K hK => ?_); refine skip_ (w1 := ((wr.drew.alloc (.cells #[.slice none 0 0, .int .i64 0] 113)).setCell ⟨wr.heap.size, 0, none⟩ (.slice A5 n5 c5)).setCell ⟨wr.heap.size, 1, none⟩ (.int .i64 sy)) (by rfl) rfl ?_ ?_
          · go_simp
            try rfl
          refine hK.out _ _ ?_; clear hK K; refine done_ (by kernel_rfl) ?_; obtain ⟨w9, hw9⟩ : ∃ w9, w9 = ((wr.drew.alloc (.cells #[.slice none 0 0, .int .i64 0] 113)).setCell ⟨wr.heap.size, 0, none⟩ (.slice A5 n5 c5)).setCell ⟨wr.heap.size, 1, none⟩ (.int .i64 sy) := ⟨_, rfl⟩; obtain ⟨B, hB⟩ : ∃ B, B = wr.heap.size := ⟨_, rfl⟩
          have HB9 : Aside0 (Below wr.heap.size wr w9) := ⟨by
            rw [hw9]; exact below_set (below_set (below_alloc (below_drew1 (Below.refl _ _)) _) (Nat.le_refl _)) (Nat.le_refl _)⟩
          have BK9 : Aside0 (w9.heap[B]? = some (.cells #[.slice A5 n5 c5, .int .i64 sy] 113 (0, 0))) := ⟨by
            rw [hw9, hB]; exact blk_put (blk_put BN.out 0 _ rfl) 1 _ rfl⟩
          rw [← hw9, ← hB]; have e0' := pw_cell_below HB9.out e0; have e1' := pw_cell_below HB9.out e1; clear hw9 hB BN BNa BNb BZa BZb e0 e1 c1 k0 k1; have k0 := (blk_cell BK9.out 0).trans rfl; have k1 := (blk_cell BK9.out 1).trans rfl; have hw1 : wrap64 ((n5 : Int) - sy) = (n5 : Int) - sy := by have := HFL.out; rw [w64L (by omega) (by omega)]
          by_cases hjt : j < TL
          · have t1 : decide ((j : Int) < (TL : Int)) = true := decide_eq_true (by omega); have hjts : j < ts.length := by rw [← HTL.out]; exact hjt
            obtain ⟨att, hAtt, p0⟩ := int_at (Kd.C_below HCT.out.1 (below_step HCL.out.2.2 (below_step HJ.out.2 HB9.out))) j hjts; subst hAtt; have HTV := Aside0.mk (HCT.out.2.2 _ (getD_mem (z := (0 : Int)) hjts)); obtain ⟨tv, htv⟩ : ∃ tv, tv = ts.getD j 0 := ⟨_, rfl⟩; rw [← htv] at p0 HTV; have HTG := Aside0.mk htv; clear htv; obtain ⟨kk, hkk⟩ : ∃ kk, kk = partI tv ((n5 : Int) - sy) := ⟨_, rfl⟩; have HKK : Aside0 (wicketref05_part.f tv (wrap64 ((n5 : Int) - sy)) = some kk) := ⟨by rw [hw1, part_f, hkk]⟩
            have hkb : 0 ≤ kk ∧ kk ≤ (n5 : Int) - sy := by
              have := HFL.out; rw [hkk]; unfold partI
              split
              · omega
              split <;> omega
            have HKM : Aside0 (leftF S ts (nk, (j : Int)) = (nk, fj.1.take (sy + kk).toNat)) := ⟨by
              unfold leftF; rw [HFO.out.1]; show (nk, _) = _; rw [if_pos (show (j : Int) < (ts.length : Int) by omega), ← HFO.out.2.1, ← HFO.out.2.2, Int.toNat_natCast, ← HTG.out, ← hkk]⟩
            have e0q := Aside0.mk e0'; clear hjts hkk hw1; go_upto_region 14 with (fail)
            refine start_ (n := 16) (S := fun w' => w'.cell? ⟨(ad.add (k * 2)).block, (ad.add (k * 2)).off + 1, none⟩ = some (.int .i64 (j : Int)) ∧ w'.cell? (att.add j) = some (.int .i64 tv) ∧ w'.cell? ⟨B, 0, none⟩ = some (.slice A5 n5 c5) ∧ w'.cell? ⟨B, 1, none⟩ = some (.int .i64 sy)) (ds := []) (bm 16 0) (by kernel_rfl) rfl rfl ⟨e1', p0, k0, k1⟩ (fun hHeld => ?_); refine pure_ (i := 0) (N := some 64) (v:=?_) (a':=?_) (bm 16 1) rfl rfl (by kernel_rfl) (fun _ _ _ h => h) (Or.inl ⟨by rfl, ?_⟩) ?_ ?_; rotate_left
            · intro w'; go_simp; with_reducible rfl
            rotate_left
            · simp only [Act.put,s_a,s_b,s_c,i64_w,i32_w]; rfl
            refine pure_ (i := 1) (N := some 65) (v:=?_) (a':=?_) (bm 16 3) rfl rfl (by kernel_rfl) (fun _ _ _ h => h) (Or.inl ⟨by rfl, ?_⟩) ?_ ?_; rotate_left
            · intro w'; go_simp; with_reducible rfl
            rotate_left
            · simp only [Act.put,s_a,s_b,s_c,i64_w,i32_w]; rfl
            refine pure_ (i := 2) (N := some 66) (v:=?_) (a':=?_) (bm 16 7) rfl rfl (by kernel_rfl) (fun _ _ _ h => h) (Or.inl ⟨by rfl, ?_⟩) ?_ ?_; rotate_left
            · intro w'; go_simp; with_reducible rfl
            rotate_left
            · simp only [Act.put,s_a,s_b,s_c,i64_w,i32_w]; rfl
            refine pure_ (i := 3) (N := some 67) (v:=?_) (a':=?_) (bm 16 15) rfl rfl (by kernel_rfl) (fun _ _ _ h => h) (Or.inl ⟨by rfl, ?_⟩) ?_ ?_; rotate_left
            · intro w'; go_simp; with_reducible rfl
            rotate_left
            · simp only [Act.put,s_a,s_b,s_c,i64_w,i32_w]; rfl
            refine pure_ (i := 4) (N := some 68) (v:=?_) (a':=?_) (bm 16 31) rfl rfl (by kernel_rfl) (fun _ _ _ h => h) (Or.inl ⟨by rfl, ?_⟩) ?_ ?_; rotate_left
            · intro w'; go_simp; with_reducible rfl
            rotate_left
            · simp only [Act.put,s_a,s_b,s_c,i64_w,i32_w]; rfl
            refine pure_ (i := 8) (N := some 72) (v:=?_) (a':=?_) (bm 16 287) rfl rfl (by kernel_rfl) (fun _ _ _ h => h) (Or.inl ⟨by rfl, ?_⟩) ?_ ?_; rotate_left
            · intro w'; go_simp; with_reducible rfl
            rotate_left
            · simp only [Act.put,s_a,s_b,s_c,i64_w,i32_w]; rfl
            refine pure_ (i := 11) (N := some 75) (v:=?_) (a':=?_) (bm 16 2335) rfl rfl (by kernel_rfl) (fun _ _ _ h => h) (Or.inl ⟨by rfl, ?_⟩) ?_ ?_; rotate_left
            · intro w'; go_simp; with_reducible rfl
            rotate_left
            · simp only [Act.put,s_a,s_b,s_c,i64_w,i32_w]; rfl
            refine take_ (i := 5) (N := some 69) (v:=?_) (a':=?_) (bm 16 2367) rfl rfl (by kernel_rfl) (fun _ _ _ h => h) (Or.inl ⟨by rfl, ?_⟩) hHeld ?_ ?_; rotate_left
            · rintro w' ⟨s0, s1, s2, s3⟩; go_simp; with_reducible rfl
            rotate_left
            · simp only [Act.put,s_a,s_b,s_c,i64_w,i32_w]; rfl
            refine pure_ (i := 6) (N := some 70) (v:=?_) (a':=?_) (bm 16 2431) rfl rfl (by kernel_rfl) (fun _ _ _ h => h) (Or.inl ⟨by rfl, ?_⟩) ?_ ?_; rotate_left
            · intro w'; go_simp; with_reducible rfl
            rotate_left
            · simp only [Act.put,s_a,s_b,s_c,i64_w,i32_w]; rfl
            refine take_ (i := 7) (N := some 71) (v:=?_) (a':=?_) (bm 16 2559) rfl rfl (by kernel_rfl) (fun _ _ _ h => h) (Or.inl ⟨by rfl, ?_⟩) hHeld ?_ ?_; rotate_left
            · rintro w' ⟨s0, s1, s2, s3⟩; go_simp; with_reducible rfl
            rotate_left
            · simp only [Act.put,s_a,s_b,s_c,i64_w,i32_w]; rfl
            refine take_ (i := 9) (N := some 73) (v:=?_) (a':=?_) (bm 16 3071) rfl rfl (by kernel_rfl) (fun _ _ _ h => h) (Or.inl ⟨by rfl, ?_⟩) hHeld ?_ ?_; rotate_left
            · rintro w' ⟨s0, s1, s2, s3⟩; go_simp; with_reducible rfl
            rotate_left
            · simp only [Act.put,s_a,s_b,s_c,i64_w,i32_w]; rfl
            refine pure_ (i := 10) (N := some 74) (v:=?_) (a':=?_) (bm 16 4095) rfl rfl (by kernel_rfl) (fun _ _ _ h => h) (Or.inl ⟨by rfl, ?_⟩) ?_ ?_; rotate_left
            · intro w'; go_simp; with_reducible rfl
            rotate_left
            · simp only [Act.put,s_a,s_b,s_c,i64_w,i32_w]; rfl
            refine take_ (i := 12) (N := some 76) (v:=?_) (a':=?_) (bm 16 8191) rfl rfl (by kernel_rfl) (fun _ _ _ h => h) (Or.inl ⟨by rfl, ?_⟩) hHeld ?_ ?_; rotate_left
            · rintro w' ⟨s0, s1, s2, s3⟩; go_simp; with_reducible rfl
            rotate_left
            · simp only [Act.put,s_a,s_b,s_c,i64_w,i32_w]; rfl
            refine pure_ (i := 13) (N := some 77) (v:=?_) (a':=?_) (bm 16 16383) rfl rfl (by kernel_rfl) (fun _ _ _ h => h) (Or.inl ⟨by rfl, ?_⟩) ?_ ?_; rotate_left
            · intro w'; go_simp; with_reducible rfl
            rotate_left
            · simp only [Act.put,s_a,s_b,s_c,i64_w,i32_w]; rfl
            refine one_ (i := 14) (N := some 78) (bm 16 32767) rfl rfl (by kernel_rfl) (by decide) (fun K hK => ?_); refine goes_ Try.func70 (by kernel_rfl) rfl #[.int .i64 tv, .int .i64 (wrap64 ((n5 : Int) - sy))] (by rfl) rfl rfl (by simp only [List.map_toArray, List.map_cons, List.map_nil]; rfl) ?_; with_reducible refine (wicketref05_part.calls tv (wrap64 ((n5 : Int) - sy)) kk _ HKK.out).mono ?_
            rintro e w10 ⟨rfl, hd⟩; have HB10 := Aside0.mk (below_step (below_drew1 (Below.refl w9.heap.size w9)) hd.below); clear hd; refine ⟨_, rfl, ?_⟩; refine hK.out _ _ ⟨pw_cell_below HB10.out e1', pw_cell_below HB10.out p0, pw_cell_below HB10.out k0, pw_cell_below HB10.out k1⟩ (fun hHeld => ?_); clear hK K; refine norm_ (a' := ?_) ?_ ?_; rotate_left
            · show Act.put _ (some 78) _ = _; simp only [Act.put,s_a,s_b,s_c,i64_w,i32_w]; rfl
            refine pure_ (i := 15) (N := some 13) (v:=?_) (a':=?_) (bm 16 65535) rfl rfl (by kernel_rfl) (fun _ _ _ h => h) (Or.inl ⟨by rfl, ?_⟩) ?_ ?_; rotate_left
            · intro w'; go_simp; with_reducible rfl
            rotate_left
            · simp only [Act.put,s_a,s_b,s_c,i64_w,i32_w]; rfl
            refine done_ (by kernel_rfl) ?_; clear t1 p0 k0 k1 e0' e1'; have e0 := pw_cell_below HB10.out e0q.out; have BK10 := Aside0.mk (blk_below BK9.out HB10.out); have k0 := (blk_cell BK10.out 0).trans rfl; have k1 := (blk_cell BK10.out 1).trans rfl; have HFQ : Aside0 (n5 ≤ 4194304 ∧ 0 ≤ sy + kk ∧ sy + kk ≤ n5) := ⟨by have := HFL.out; omega⟩; have hw2 : wrap64 (sy + kk) = sy + kk := by have := HFQ.out; rw [w64L (by omega) (by omega)]
            have hcut2 := HCUT.out (sy + kk) HFQ.out.2.1 HFQ.out.2.2; obtain ⟨mm, hmm⟩ : ∃ mm, mm = (sy + kk).toNat := ⟨_, rfl⟩; have hmn : mm ≤ n5 := by have := HFQ.out; omega
            rw [← hmm] at hcut2 HKM; have hcut4 : ∀ W : World, (Instr.slice 53 (.slice A5 n5 c5) none (some (.int .i64 (wrap64 (sy + kk)))) none).run Try.prog W = .ok (.slice A5 mm c5) W := by rw [hw2]; exact hcut2
            have HBW : Aside0 (Below wr.heap.size wr w10) := ⟨below_step HB9.out HB10.out⟩; clear hkb hmm; go_upto_region 15 with (fail)
            refine start_ (n := 19) (S := fun w' => w'.cell? (ad.add (k * 2)) = some (.string nk) ∧ w'.cell? ⟨B, 0, none⟩ = some (.slice A5 n5 c5) ∧ w'.cell? ⟨B, 1, none⟩ = some (.int .i64 sy)) (ds := [16, 17]) (bm 19 0) (by kernel_rfl) rfl rfl ⟨e0, k0, k1⟩ (fun hHeld => ?_); refine pure_ (i := 0) (N := some 79) (v:=?_) (a':=?_) (bm 19 1) rfl rfl (by kernel_rfl) (fun _ _ _ h => h) (Or.inl ⟨by rfl, ?_⟩) ?_ ?_; rotate_left
            · intro w'; go_simp; with_reducible rfl
            rotate_left
            · simp only [Act.put,s_a,s_b,s_c,i64_w,i32_w]; rfl
            refine pure_ (i := 1) (N := some 80) (v:=?_) (a':=?_) (bm 19 3) rfl rfl (by kernel_rfl) (fun _ _ _ h => h) (Or.inl ⟨by rfl, ?_⟩) ?_ ?_; rotate_left
            · intro w'; go_simp; with_reducible rfl
            rotate_left
            · simp only [Act.put,s_a,s_b,s_c,i64_w,i32_w]; rfl
            refine pure_ (i := 2) (N := some 81) (v:=?_) (a':=?_) (bm 19 7) rfl rfl (by kernel_rfl) (fun _ _ _ h => h) (Or.inl ⟨by rfl, ?_⟩) ?_ ?_; rotate_left
            · intro w'; go_simp; with_reducible rfl
            rotate_left
            · simp only [Act.put,s_a,s_b,s_c,i64_w,i32_w]; rfl
            refine pure_ (i := 3) (N := some 82) (v:=?_) (a':=?_) (bm 19 15) rfl rfl (by kernel_rfl) (fun _ _ _ h => h) (Or.inl ⟨by rfl, ?_⟩) ?_ ?_; rotate_left
            · intro w'; go_simp; with_reducible rfl
            rotate_left
            · simp only [Act.put,s_a,s_b,s_c,i64_w,i32_w]; rfl
            refine pure_ (i := 4) (N := some 83) (v:=?_) (a':=?_) (bm 19 31) rfl rfl (by kernel_rfl) (fun _ _ _ h => h) (Or.inl ⟨by rfl, ?_⟩) ?_ ?_; rotate_left
            · intro w'; go_simp; with_reducible rfl
            rotate_left
            · simp only [Act.put,s_a,s_b,s_c,i64_w,i32_w]; rfl
            refine pure_ (i := 7) (N := some 86) (v:=?_) (a':=?_) (bm 19 159) rfl rfl (by kernel_rfl) (fun _ _ _ h => h) (Or.inl ⟨by rfl, ?_⟩) ?_ ?_; rotate_left
            · intro w'; go_simp; with_reducible rfl
            rotate_left
            · simp only [Act.put,s_a,s_b,s_c,i64_w,i32_w]; rfl
            refine pure_ (i := 9) (N := some 88) (v:=?_) (a':=?_) (bm 19 671) rfl rfl (by kernel_rfl) (fun _ _ _ h => h) (Or.inl ⟨by rfl, ?_⟩) ?_ ?_; rotate_left
            · intro w'; go_simp; with_reducible rfl
            rotate_left
            · simp only [Act.put,s_a,s_b,s_c,i64_w,i32_w]; rfl
            refine pure_ (i := 11) (N := some 90) (v:=?_) (a':=?_) (bm 19 2719) rfl rfl (by kernel_rfl) (fun _ _ _ h => h) (Or.inl ⟨by rfl, ?_⟩) ?_ ?_; rotate_left
            · intro w'; go_simp; with_reducible rfl
            rotate_left
            · simp only [Act.put,s_a,s_b,s_c,i64_w,i32_w]; rfl
            refine take_ (i := 5) (N := some 84) (v:=?_) (a':=?_) (bm 19 2751) rfl rfl (by kernel_rfl) (fun _ _ _ h => h) (Or.inl ⟨by rfl, ?_⟩) hHeld ?_ ?_; rotate_left
            · rintro w' ⟨s0, s1, s2⟩; go_simp; with_reducible rfl
            rotate_left
            · simp only [Act.put,s_a,s_b,s_c,i64_w,i32_w]; rfl
            refine take_ (i := 8) (N := some 87) (v:=?_) (a':=?_) (bm 19 3007) rfl rfl (by kernel_rfl) (fun _ _ _ h => h) (Or.inl ⟨by rfl, ?_⟩) hHeld ?_ ?_; rotate_left
            · rintro w' ⟨s0, s1, s2⟩; go_simp; with_reducible rfl
            rotate_left
            · simp only [Act.put,s_a,s_b,s_c,i64_w,i32_w]; rfl
            refine take_ (i := 10) (N := some 89) (v:=?_) (a':=?_) (bm 19 4031) rfl rfl (by kernel_rfl) (fun _ _ _ h => h) (Or.inl ⟨by rfl, ?_⟩) hHeld ?_ ?_; rotate_left
            · rintro w' ⟨s0, s1, s2⟩; go_simp; with_reducible rfl
            rotate_left
            · simp only [Act.put,s_a,s_b,s_c,i64_w,i32_w]; rfl
            refine pure_ (i := 12) (N := some 91) (v:=?_) (a':=?_) (bm 19 8127) rfl rfl (by kernel_rfl) (fun _ _ _ h => h) (Or.inl ⟨by rfl, ?_⟩) ?_ ?_; rotate_left
            · intro w'; go_simp; with_reducible rfl
            rotate_left
            · simp only [Act.put,s_a,s_b,s_c,i64_w,i32_w]; rfl
            refine pure_ (i := 13) (N := some 92) (v:=?_) (a':=?_) (bm 19 16319) rfl rfl (by kernel_rfl) (fun _ _ _ h => h) (Or.inl ⟨by rfl, ?_⟩) ?_ ?_; rotate_left
            · intro w'; go_simp; with_reducible rfl
            rotate_left
            · simp only [Act.put,s_a,s_b,s_c,i64_w,i32_w]; rfl
            refine one_ (i := 6) (N := some 85) (bm 19 16383) rfl rfl (by kernel_rfl) (by decide) (fun K hK => ?_); refine Kd.R_lit_step (Kd.int .u8) (w0 := w10) w10.heap.size 5 (by rfl) rfl (xs := ([] : List Int)) (inner := []) (ok := fun _ => True) (okp := fun _ => True) ?hr (Reps.none _ _) (fun _ hk => hk) trivial (below_drew1 (Below.refl _ _)) (Nat.le_refl _) (by simp) ?_
            case hr => first | (go_simp; done) | (go_simp; rfl)
            intro v7 w7 ho7 hb7 hg7 hn7; have HO7 := Aside0.mk ho7; have HB7 := Aside0.mk hb7; clear ho7 hb7 hg7 hn7; refine hK.out _ _ ⟨pw_cell_below HB7.out e0, pw_cell_below HB7.out k0, pw_cell_below HB7.out k1⟩ (fun hHeld => ?_); clear hK K; refine norm_ (a' := ?_) ?_ ?_; rotate_left
            · show Act.put _ (some 85) _ = _; simp only [Act.put,s_a,s_b,s_c,i64_w,i32_w]; rfl
            refine one_ (i := 14) (N := some 93) (bm 19 32767) rfl rfl (by kernel_rfl) (by decide) (fun K hK => ?_); refine Kd.R_append_rows_step (Kd.int .u8) (w0 := w10) w10.heap.size (by rfl) (.tmp 85) (.tmp 92) 53 5 (.int .u8 0) 1 rfl Try.underlying53 infoB rfl (by decide) (by decide) v7 ([] : List Int) (fj.1.take mm) A5 mm c5 (fun _ => True) (fun _ => False) rfl rfl HO7.out (take_len (by rw [List.length_take, ← HFO.out.2.2]; omega) (Kd.C_take (m := mm) (by rw [← HFO.out.2.2]; exact Kd.C_below HC5.out (below_step HBW.out HB7.out)) (by rw [← HFO.out.2.2]; exact hmn))) (fun _ _ h => h) (fun _ h => h.elim) (fun _ _ => trivial) HB7.out HB7.out.size (by simp only [List.length_nil]; have := HFL.out; omega) ?_; intro v8 w8 ho8 hb8 hg8 hat8; rw [List.nil_append] at ho8; obtain ⟨A8, c8, hv8⟩ := Kd.R_slice ho8; obtain ⟨n8, hn8⟩ : ∃ n8, n8 = (List.take mm fj.1).length := ⟨_, rfl⟩; rw [← hn8] at hv8; clear hn8; subst hv8; have HO8 := Aside0.mk ho8; have HB8 := Aside0.mk hb8; clear ho8 hb8 hg8 hat8; refine hK.out _ _ ⟨pw_cell_below HB8.out e0, pw_cell_below HB8.out k0, pw_cell_below HB8.out k1⟩ (fun hHeld => ?_); clear hK K; refine norm_ (a' := ?_) ?_ ?_; rotate_left
            · show Act.put _ (some 93) _ = _; simp only [Act.put,s_a,s_b,s_c,i64_w,i32_w]; rfl
            refine pure_ (i := 15) (N := some 94) (v:=?_) (a':=?_) (bm 19 65535) rfl rfl (by kernel_rfl) (fun _ _ _ h => h) (Or.inl ⟨by rfl, ?_⟩) ?_ ?_; rotate_left
            · intro w'; go_simp; with_reducible rfl
            rotate_left
            · simp only [Act.put,s_a,s_b,s_c,i64_w,i32_w]; rfl
            refine last_ (i := 16) (N := some 95) (bm 19 131071) rfl rfl (by kernel_rfl) (by decide) (fun K hK => ?_); refine value_ (w1 := w8.alloc (.cells #[.string nk, .slice A8 n8 c8] 101)) (v := .slice (some ⟨w8.heap.size, 0, none⟩) 1 1) (by rfl) rfl ?_ ?_
            · go_simp
              try rfl
            refine hK.out _ _ ?_; clear hK K; refine norm_ (a' := ?_) ?_ ?_; rotate_left
            · show Act.put _ (some 95) _ = _; simp only [Act.put,s_a,s_b,s_c,i64_w,i32_w]; rfl
            refine last_ (i := 17) (N := some 96) (bm 19 262143) rfl rfl (by kernel_rfl) (by decide) (fun K hK => ?_); refine Kd.R_append_step kRFl (w0 := w5) (W := w8) w5.heap.size (by rfl) (.tmp 79) (.tmp 95) 45 101 (.agg #[.string ⟨#[]⟩, .slice none 0 0]) 40 (by rfl) Try.underlying45 info101 rfl (by decide) (by decide) (.slice Ao no co) (((L.take k).map (leftF S ts)).map mkRF) (mkRF (nk, fj.1.take mm)) [.string nk, .slice A8 n8 c8] (fun _ => True) (fun k => some k ≠ (Value.slice Ao no co).ownBlock) (by rfl) (by rfl) ?aP (fun k hk => ⟨trivial, hk⟩) (fun _ _ => trivial) ?aO ?aB ?aS ?aL ?_
            case aP => exact k101_mkM _ _ _ (mkRF (nk, fj.1.take mm)) (Kd.R_lower (Kd.R_mono (Kd.R_bound HO8.out) (fun k hk e => by have h1 := Kd.R_lt HJ.out.1 k e.symm; have h2 := hk.2.1; have h3 := HBW.out.size; omega)) (Nat.le_trans HJ.out.2.size HBW.out.size))
            case aO => exact Kd.R_below HJ.out.1 (below_step HBW.out HB8.out)
            case aB => exact below_step HJ.out.2 (below_step HBW.out HB8.out)
            case aS => exact Nat.le_trans HJ.out.2.size (below_step HBW.out HB8.out).size
            case aL => have := HXL.out; omega
            intro v9 w11 ho hb hg hat; have hN : Kd.R kRFl 101 w11 w5.heap.size (fun _ => True) v9 (((L.take (k + 1)).map (leftF S ts)).map mkRF) ∧ Below w5.heap.size w5 w11 := (by rw [HGE.out, List.map_append, List.map_append]; simp only [List.map_cons, List.map_nil]; rw [HKM.out]; exact ⟨ho, hb⟩); obtain ⟨Ax, cx, hvx⟩ := Kd.R_slice hN.1; obtain ⟨nx, hnx⟩ : ∃ nx, nx = (((L.take (k + 1)).map (leftF S ts)).map mkRF).length := ⟨_, rfl⟩; rw [← hnx] at hvx; clear hnx; subst hvx; have HN := Aside0.mk hN; clear ho hb hg hat hN; refine hK.out _ _ ?_; clear hK K; refine norm_ (a' := ?_) ?_ ?_; rotate_left
            · show Act.put _ (some 96) _ = _; simp only [Act.put,s_a,s_b,s_c,i64_w,i32_w]; rfl
            refine pure_ (i := 18) (N := some 10) (v:=?_) (a':=?_) (bm 19 524287) rfl rfl (by kernel_rfl) (fun _ _ _ h => h) (Or.inl ⟨by rfl, ?_⟩) ?_ ?_; rotate_left
            · intro w'; go_simp; with_reducible rfl
            rotate_left
            · simp only [Act.put,s_a,s_b,s_c,i64_w,i32_w]; rfl
            refine done_ (by kernel_rfl) ?_; clear k0 k1 hcut2 hcut4 hmn e0 hw2; go_wp2_with fail
            go_roundw
            case rel => exact ⟨k + 1, by omega, by go_num, Ax, nx, cx, rfl, HN⟩
            case measure => simp [intOf]; omega
          · have t1 : decide ((j : Int) < (TL : Int)) = false := decide_eq_false (by omega)
            have HKM : Aside0 (leftF S ts (nk, (j : Int)) = (nk, fj.1.take sy.toNat)) := ⟨by
              unfold leftF; rw [HFO.out.1]; show (nk, _) = _; rw [if_neg (show ¬ (j : Int) < (ts.length : Int) by rw [← HTL.out]; omega), ← HFO.out.2.1, Int.add_zero]⟩
            have hw2 : wrap64 sy = sy := by have := HFL.out; rw [w64L (by omega) (by omega)]
            have hcut2 := HCUT.out sy HFL.out.2.1 HFL.out.2.2; obtain ⟨mm, hmm⟩ : ∃ mm, mm = sy.toNat := ⟨_, rfl⟩; have hmn : mm ≤ n5 := by have := HFL.out; omega
            rw [← hmm] at hcut2 HKM; have hcut4 : ∀ W : World, (Instr.slice 53 (.slice A5 n5 c5) none (some (.int .i64 (wrap64 sy))) none).run Try.prog W = .ok (.slice A5 mm c5) W := by rw [hw2]; exact hcut2
            obtain ⟨w10, hw10⟩ : ∃ w10, w10 = w9 := ⟨_, rfl⟩; have HBW : Aside0 (Below wr.heap.size wr w10) := ⟨by rw [hw10]; exact HB9.out⟩; subst hw10; have e0 := e0'; clear hmm hw1; go_upto_region 15 with (fail)
            clear e0' e1' t1; refine start_ (n := 19) (S := fun w' => w'.cell? (ad.add (k * 2)) = some (.string nk) ∧ w'.cell? ⟨B, 0, none⟩ = some (.slice A5 n5 c5) ∧ w'.cell? ⟨B, 1, none⟩ = some (.int .i64 sy)) (ds := [16, 17]) (bm 19 0) (by kernel_rfl) rfl rfl ⟨e0, k0, k1⟩ (fun hHeld => ?_); refine pure_ (i := 0) (N := some 79) (v:=?_) (a':=?_) (bm 19 1) rfl rfl (by kernel_rfl) (fun _ _ _ h => h) (Or.inl ⟨by rfl, ?_⟩) ?_ ?_; rotate_left
            · intro w'; go_simp; with_reducible rfl
            rotate_left
            · simp only [Act.put,s_a,s_b,s_c,i64_w,i32_w]; rfl
            refine pure_ (i := 1) (N := some 80) (v:=?_) (a':=?_) (bm 19 3) rfl rfl (by kernel_rfl) (fun _ _ _ h => h) (Or.inl ⟨by rfl, ?_⟩) ?_ ?_; rotate_left
            · intro w'; go_simp; with_reducible rfl
            rotate_left
            · simp only [Act.put,s_a,s_b,s_c,i64_w,i32_w]; rfl
            refine pure_ (i := 2) (N := some 81) (v:=?_) (a':=?_) (bm 19 7) rfl rfl (by kernel_rfl) (fun _ _ _ h => h) (Or.inl ⟨by rfl, ?_⟩) ?_ ?_; rotate_left
            · intro w'; go_simp; with_reducible rfl
            rotate_left
            · simp only [Act.put,s_a,s_b,s_c,i64_w,i32_w]; rfl
            refine pure_ (i := 3) (N := some 82) (v:=?_) (a':=?_) (bm 19 15) rfl rfl (by kernel_rfl) (fun _ _ _ h => h) (Or.inl ⟨by rfl, ?_⟩) ?_ ?_; rotate_left
            · intro w'; go_simp; with_reducible rfl
            rotate_left
            · simp only [Act.put,s_a,s_b,s_c,i64_w,i32_w]; rfl
            refine pure_ (i := 4) (N := some 83) (v:=?_) (a':=?_) (bm 19 31) rfl rfl (by kernel_rfl) (fun _ _ _ h => h) (Or.inl ⟨by rfl, ?_⟩) ?_ ?_; rotate_left
            · intro w'; go_simp; with_reducible rfl
            rotate_left
            · simp only [Act.put,s_a,s_b,s_c,i64_w,i32_w]; rfl
            refine pure_ (i := 7) (N := some 86) (v:=?_) (a':=?_) (bm 19 159) rfl rfl (by kernel_rfl) (fun _ _ _ h => h) (Or.inl ⟨by rfl, ?_⟩) ?_ ?_; rotate_left
            · intro w'; go_simp; with_reducible rfl
            rotate_left
            · simp only [Act.put,s_a,s_b,s_c,i64_w,i32_w]; rfl
            refine pure_ (i := 9) (N := some 88) (v:=?_) (a':=?_) (bm 19 671) rfl rfl (by kernel_rfl) (fun _ _ _ h => h) (Or.inl ⟨by rfl, ?_⟩) ?_ ?_; rotate_left
            · intro w'; go_simp; with_reducible rfl
            rotate_left
            · simp only [Act.put,s_a,s_b,s_c,i64_w,i32_w]; rfl
            refine pure_ (i := 11) (N := some 90) (v:=?_) (a':=?_) (bm 19 2719) rfl rfl (by kernel_rfl) (fun _ _ _ h => h) (Or.inl ⟨by rfl, ?_⟩) ?_ ?_; rotate_left
            · intro w'; go_simp; with_reducible rfl
            rotate_left
            · simp only [Act.put,s_a,s_b,s_c,i64_w,i32_w]; rfl
            refine take_ (i := 5) (N := some 84) (v:=?_) (a':=?_) (bm 19 2751) rfl rfl (by kernel_rfl) (fun _ _ _ h => h) (Or.inl ⟨by rfl, ?_⟩) hHeld ?_ ?_; rotate_left
            · rintro w' ⟨s0, s1, s2⟩; go_simp; with_reducible rfl
            rotate_left
            · simp only [Act.put,s_a,s_b,s_c,i64_w,i32_w]; rfl
            refine take_ (i := 8) (N := some 87) (v:=?_) (a':=?_) (bm 19 3007) rfl rfl (by kernel_rfl) (fun _ _ _ h => h) (Or.inl ⟨by rfl, ?_⟩) hHeld ?_ ?_; rotate_left
            · rintro w' ⟨s0, s1, s2⟩; go_simp; with_reducible rfl
            rotate_left
            · simp only [Act.put,s_a,s_b,s_c,i64_w,i32_w]; rfl
            refine take_ (i := 10) (N := some 89) (v:=?_) (a':=?_) (bm 19 4031) rfl rfl (by kernel_rfl) (fun _ _ _ h => h) (Or.inl ⟨by rfl, ?_⟩) hHeld ?_ ?_; rotate_left
            · rintro w' ⟨s0, s1, s2⟩; go_simp; with_reducible rfl
            rotate_left
            · simp only [Act.put,s_a,s_b,s_c,i64_w,i32_w]; rfl
            refine pure_ (i := 12) (N := some 91) (v:=?_) (a':=?_) (bm 19 8127) rfl rfl (by kernel_rfl) (fun _ _ _ h => h) (Or.inl ⟨by rfl, ?_⟩) ?_ ?_; rotate_left
            · intro w'; go_simp; with_reducible rfl
            rotate_left
            · simp only [Act.put,s_a,s_b,s_c,i64_w,i32_w]; rfl
            refine pure_ (i := 13) (N := some 92) (v:=?_) (a':=?_) (bm 19 16319) rfl rfl (by kernel_rfl) (fun _ _ _ h => h) (Or.inl ⟨by rfl, ?_⟩) ?_ ?_; rotate_left
            · intro w'; go_simp; with_reducible rfl
            rotate_left
            · simp only [Act.put,s_a,s_b,s_c,i64_w,i32_w]; rfl
            refine one_ (i := 6) (N := some 85) (bm 19 16383) rfl rfl (by kernel_rfl) (by decide) (fun K hK => ?_); refine Kd.R_lit_step (Kd.int .u8) (w0 := w10) w10.heap.size 5 (by rfl) rfl (xs := ([] : List Int)) (inner := []) (ok := fun _ => True) (okp := fun _ => True) ?hr (Reps.none _ _) (fun _ hk => hk) trivial (below_drew1 (Below.refl _ _)) (Nat.le_refl _) (by simp) ?_
            case hr => first | (go_simp; done) | (go_simp; rfl)
            intro v7 w7 ho7 hb7 hg7 hn7; have HO7 := Aside0.mk ho7; have HB7 := Aside0.mk hb7; clear ho7 hb7 hg7 hn7; refine hK.out _ _ ⟨pw_cell_below HB7.out e0, pw_cell_below HB7.out k0, pw_cell_below HB7.out k1⟩ (fun hHeld => ?_); clear hK K; refine norm_ (a' := ?_) ?_ ?_; rotate_left
            · show Act.put _ (some 85) _ = _; simp only [Act.put,s_a,s_b,s_c,i64_w,i32_w]; rfl
            refine one_ (i := 14) (N := some 93) (bm 19 32767) rfl rfl (by kernel_rfl) (by decide) (fun K hK => ?_); refine Kd.R_append_rows_step (Kd.int .u8) (w0 := w10) w10.heap.size (by rfl) (.tmp 85) (.tmp 92) 53 5 (.int .u8 0) 1 rfl Try.underlying53 infoB rfl (by decide) (by decide) v7 ([] : List Int) (fj.1.take mm) A5 mm c5 (fun _ => True) (fun _ => False) rfl rfl HO7.out (take_len (by rw [List.length_take, ← HFO.out.2.2]; omega) (Kd.C_take (m := mm) (by rw [← HFO.out.2.2]; exact Kd.C_below HC5.out (below_step HBW.out HB7.out)) (by rw [← HFO.out.2.2]; exact hmn))) (fun _ _ h => h) (fun _ h => h.elim) (fun _ _ => trivial) HB7.out HB7.out.size (by simp only [List.length_nil]; have := HFL.out; omega) ?_; intro v8 w8 ho8 hb8 hg8 hat8; rw [List.nil_append] at ho8; obtain ⟨A8, c8, hv8⟩ := Kd.R_slice ho8; obtain ⟨n8, hn8⟩ : ∃ n8, n8 = (List.take mm fj.1).length := ⟨_, rfl⟩; rw [← hn8] at hv8; clear hn8; subst hv8; have HO8 := Aside0.mk ho8; have HB8 := Aside0.mk hb8; clear ho8 hb8 hg8 hat8; refine hK.out _ _ ⟨pw_cell_below HB8.out e0, pw_cell_below HB8.out k0, pw_cell_below HB8.out k1⟩ (fun hHeld => ?_); clear hK K; refine norm_ (a' := ?_) ?_ ?_; rotate_left
            · show Act.put _ (some 93) _ = _; simp only [Act.put,s_a,s_b,s_c,i64_w,i32_w]; rfl
            refine pure_ (i := 15) (N := some 94) (v:=?_) (a':=?_) (bm 19 65535) rfl rfl (by kernel_rfl) (fun _ _ _ h => h) (Or.inl ⟨by rfl, ?_⟩) ?_ ?_; rotate_left
            · intro w'; go_simp; with_reducible rfl
            rotate_left
            · simp only [Act.put,s_a,s_b,s_c,i64_w,i32_w]; rfl
            refine last_ (i := 16) (N := some 95) (bm 19 131071) rfl rfl (by kernel_rfl) (by decide) (fun K hK => ?_); refine value_ (w1 := w8.alloc (.cells #[.string nk, .slice A8 n8 c8] 101)) (v := .slice (some ⟨w8.heap.size, 0, none⟩) 1 1) (by rfl) rfl ?_ ?_
            · go_simp
              try rfl
            refine hK.out _ _ ?_; clear hK K; refine norm_ (a' := ?_) ?_ ?_; rotate_left
            · show Act.put _ (some 95) _ = _; simp only [Act.put,s_a,s_b,s_c,i64_w,i32_w]; rfl
            refine last_ (i := 17) (N := some 96) (bm 19 262143) rfl rfl (by kernel_rfl) (by decide) (fun K hK => ?_); refine Kd.R_append_step kRFl (w0 := w5) (W := w8) w5.heap.size (by rfl) (.tmp 79) (.tmp 95) 45 101 (.agg #[.string ⟨#[]⟩, .slice none 0 0]) 40 (by rfl) Try.underlying45 info101 rfl (by decide) (by decide) (.slice Ao no co) (((L.take k).map (leftF S ts)).map mkRF) (mkRF (nk, fj.1.take mm)) [.string nk, .slice A8 n8 c8] (fun _ => True) (fun k => some k ≠ (Value.slice Ao no co).ownBlock) (by rfl) (by rfl) ?aP (fun k hk => ⟨trivial, hk⟩) (fun _ _ => trivial) ?aO ?aB ?aS ?aL ?_
            case aP => exact k101_mkM _ _ _ (mkRF (nk, fj.1.take mm)) (Kd.R_lower (Kd.R_mono (Kd.R_bound HO8.out) (fun k hk e => by have h1 := Kd.R_lt HJ.out.1 k e.symm; have h2 := hk.2.1; have h3 := HBW.out.size; omega)) (Nat.le_trans HJ.out.2.size HBW.out.size))
            case aO => exact Kd.R_below HJ.out.1 (below_step HBW.out HB8.out)
            case aB => exact below_step HJ.out.2 (below_step HBW.out HB8.out)
            case aS => exact Nat.le_trans HJ.out.2.size (below_step HBW.out HB8.out).size
            case aL => have := HXL.out; omega
            intro v9 w11 ho hb hg hat; have hN : Kd.R kRFl 101 w11 w5.heap.size (fun _ => True) v9 (((L.take (k + 1)).map (leftF S ts)).map mkRF) ∧ Below w5.heap.size w5 w11 := (by rw [HGE.out, List.map_append, List.map_append]; simp only [List.map_cons, List.map_nil]; rw [HKM.out]; exact ⟨ho, hb⟩); obtain ⟨Ax, cx, hvx⟩ := Kd.R_slice hN.1; obtain ⟨nx, hnx⟩ : ∃ nx, nx = (((L.take (k + 1)).map (leftF S ts)).map mkRF).length := ⟨_, rfl⟩; rw [← hnx] at hvx; clear hnx; subst hvx; have HN := Aside0.mk hN; clear ho hb hg hat hN; refine hK.out _ _ ?_; clear hK K; refine norm_ (a' := ?_) ?_ ?_; rotate_left
            · show Act.put _ (some 96) _ = _; simp only [Act.put,s_a,s_b,s_c,i64_w,i32_w]; rfl
            refine pure_ (i := 18) (N := some 10) (v:=?_) (a':=?_) (bm 19 524287) rfl rfl (by kernel_rfl) (fun _ _ _ h => h) (Or.inl ⟨by rfl, ?_⟩) ?_ ?_; rotate_left
            · intro w'; go_simp; with_reducible rfl
            rotate_left
            · simp only [Act.put,s_a,s_b,s_c,i64_w,i32_w]; rfl
            refine done_ (by kernel_rfl) ?_; clear k0 k1 hcut2 hcut4 hmn e0 hw2; go_wp2_with fail
            go_roundw
            case rel => exact ⟨k + 1, by omega, by go_num, Ax, nx, cx, rfl, HN⟩
            case measure => simp [intOf]; omega
        · obtain rfl : k = NL := by omega
          have HFIN : Aside0 (Kd.R kRFl 101 wr w.heap.size (fun _ => True) (.slice Ao no co) ((leftOf S dN ts).map mkRF) ∧ Below w.heap.size w wr) := ⟨by
            have e : leftOf S dN ts = (L.take k).map (leftF S ts) := by unfold leftOf; rw [HP.out, ← HL.out, HNL.out, List.take_length]
            rw [e]; exact ⟨Kd.R_lower HJ.out.1 HCL.out.2.2.size, below_step HCL.out.2.2 HJ.out.2⟩⟩
          clear HJ; go_wp2_with fail
          go_ret; exact ⟨_, rfl, HFIN.out.1, HFIN.out.2⟩
end Go.Proofs.Ytdekcjopgnfmdaa.Hand
