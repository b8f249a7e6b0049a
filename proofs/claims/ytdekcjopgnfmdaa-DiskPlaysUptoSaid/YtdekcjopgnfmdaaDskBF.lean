/- The document's disk: Create, Read. -/
import Derived.Test.YtdekcjopgnfmdaaDskBD
namespace Go.Proofs.Ytdekcjopgnfmdaa.Hand
open Go.RowKit Go.Maps Go.Proofs.YtdekcjopgnfmdaaW.PrintWords Go.Proofs.YtdekcjopgnfmdaaW.PrintLast Go.Proofs.YtdekcjopgnfmdaaW.PrintMore Go.Proofs.Ytdekcjopgnfmdaa.Q
set_option linter.unusedVariables false
set_option linter.unusedSimpArgs false
theorem kBd_nil (w : World) (base : Nat) (ok : Nat → Prop) : kBd.M w base ok ([], 0) [.slice none 0 0, .int .i64 0] := ⟨[.slice none 0 0], [.int .i64 0], rfl, ⟨.slice none 0 0, rfl, Kd.R_nil _ _ _ _ _⟩, rfl⟩
set_option maxHeartbeats 2000000 in
set_option maxRecDepth 100000 in
theorem ref_Create.calls {w : World} {F : Nat → Prop} {d : Nat} {S : DS} (h : RskAt w F d S) (n : ByteArray) (hn : n.size ≤ 9223372036854775807) :
    Calls Try.prog 55 #[.pointer (some ⟨d, 0, none⟩), .string n] w fun e w' => e = .returned (.int .i64 (opCreate S n).2) ∧ RskAt w' (grow F w w') d (opCreate S n).1 ∧ KeptL F w w' := by
  have HA := Aside0.mk h; obtain ⟨hI, hlt0, vf, vd, vs, vc, h1⟩ := h; have HLT := Aside0.mk hlt0; have HI := Aside0.mk hI; have H := Aside0.mk h1; have c7 := (blk_cell h1.blk 7).trans rfl; have HNN := Aside0.mk hn
  cases hd : S.dead with
  | true =>
    rw [hd] at c7; have HOP : Aside0 (opCreate S n = (S, 51)) := ⟨by unfold opCreate; rw [hd]; rfl⟩; clear h1 hd hI hlt0; go_enter Try.func55, Try.ntmps55
    go_wp2_with fail
    go_ret; rw [HOP.out]; exact ⟨rfl, HA.out.unmoved (Below.refl _ _)⟩
  | false =>
    rw [hd] at c7; have HDD := Aside0.mk hd; clear hd hI hlt0; obtain ⟨kk, hkk⟩ := (name_ev n hn).rounds; have HKK := Aside0.mk hkk; obtain ⟨r, hr⟩ : ∃ r, r = nameOk n := ⟨_, rfl⟩; have HR := Aside0.mk hr; rw [← hr] at HKK; obtain ⟨Ad, cd, hvd, hcd, hCd⟩ := h1.dirRow; subst hvd; have HCD := Aside0.mk (And.intro hcd hCd); clear h1 hkk hr hcd hCd hn; go_enter Try.func55, Try.ntmps55
    go_wp2_with fail
    refine (wicketref05_Name.calls kk n r w HKK.out).mono ?_; rintro x w1 ⟨rfl, hd1⟩; have HB1 := Aside0.mk hd1.below; have H1 := Aside0.mk (H.out.below hd1.below); clear hd1 c7
    cases r with
    | false =>
      have HOP : Aside0 (opCreate S n = (S, 50)) := ⟨by unfold opCreate; rw [HDD.out, ← HR.out]; rfl⟩; go_wp2_with fail
      go_ret; rw [HOP.out]; exact ⟨rfl, HA.out.unmoved HB1.out⟩
    | true =>
      have c2 := (blk_cell H1.out.blk 2).trans rfl; go_wp2_with fail
      refine (ref_find.at (Kd.C_below HCD.out.2 HB1.out) HCD.out.1 (by have := HI.out.lenD; omega) n).mono ?_; rintro x w2 ⟨hb2, ⟨rfl, hh⟩ | ⟨ji, hji, rfl, hh⟩⟩; rotate_left
      · have HOP : Aside0 (opCreate S n = (S, 8)) := ⟨by unfold opCreate; rw [HDD.out, ← HR.out, hh, if_neg (by decide), if_neg (by decide)]; rfl⟩; have HB2 := Aside0.mk (below_step HB1.out hb2); clear hh hb2 c2; go_wp2_with fail
        go_ret; rw [HOP.out]; exact ⟨rfl, HA.out.unmoved HB2.out⟩
      · have HHS := Aside0.mk hh; have HB2 := Aside0.mk (below_step HB1.out hb2); have H2 := Aside0.mk (H1.out.below hb2); clear hh hb2 c2; have c2 := (blk_cell H2.out.blk 2).trans rfl; have c5 := (blk_cell H2.out.blk 5).trans rfl; by_cases hf : S.dir.length ≥ 64 ∨ S.ops ≥ 1048576
        · have HOP : Aside0 (opCreate S n = (S, 5)) := ⟨by unfold opCreate; rw [HDD.out, ← HR.out, HHS.out, if_neg (by decide), if_neg (by decide), if_neg (by decide), if_pos hf]⟩; by_cases h64 : S.dir.length ≥ 64
          · have b1 : decide ((S.dir.length : Int) ≥ 64) = true := decide_eq_true (by omega); clear hf h64; go_wp2_with fail
            go_ret; rw [HOP.out]; exact ⟨rfl, HA.out.unmoved HB2.out⟩
          · have b1 : decide ((S.dir.length : Int) ≥ 64) = false := decide_eq_false (by omega); have b2 : decide (S.ops ≥ 1048576) = true := decide_eq_true (by omega); clear hf h64; go_wp2_with fail
            go_ret; rw [HOP.out]; exact ⟨rfl, HA.out.unmoved HB2.out⟩
        · have b0 : decide ((S.dir.length : Int) ≥ 64) = false := decide_eq_false (by omega); have ho : ¬ S.ops ≥ 1048576 := fun h => hf (.inr h); have hd64 : S.dir.length < 64 := by omega
          have HD64 := Aside0.mk hd64; have hop : opCreate S n = ifGoes S fun T => note { T with files := T.files ++ [([], 0)] } (ByteArray.empty, n, (S.files.length : Int)) := by unfold opCreate; rw [HDD.out, ← HR.out, HHS.out, if_neg (by decide), if_neg (by decide), if_neg (by decide), if_neg hf]
          have HOPX := Aside0.mk hop; clear hf hd64 hop; have b1 : decide (S.ops ≥ 1048576) = false := decide_eq_false ho; have HOB : Aside0 (0 ≤ S.ops ∧ S.ops < 1048576) := ⟨by have := HI.out.opsB; omega⟩; have HOP : Aside0 (opCreate S n = ifGoes S fun T => note { T with files := T.files ++ [([], 0)] } (ByteArray.empty, n, (S.files.length : Int))) := ⟨HOPX.out⟩; clear ho; go_wp2_with fail
          clear b1; refine (ref_goes.calls H2.out HI.out.armB HOB.out).mono ?_; rintro x w4 ⟨rfl, h4, hk4⟩; have H4 := Aside0.mk h4; have HK4 : Aside0 (KeptL F w w4) := ⟨(KeptL.of_below HB2.out).trans (hk4.mono (fun k e => by rw [e]; exact H.out.fd))⟩; have HG := Aside0.mk (HI.out.goes HOB.out.2); obtain ⟨T, hT⟩ : ∃ T, T = (goes S).1 := ⟨_, rfl⟩; obtain ⟨g, hg⟩ : ∃ g, g = (goes S).2 := ⟨_, rfl⟩; rw [← hT] at H4 HG; rw [← hg] at HG; have hOP := HOP.out; rw [goes_eq, ← hT, ← hg] at hOP; replace HOP := Aside0.mk hOP; rw [← hg]; clear h4 hk4 hT hg hOP; by_cases hg0 : g = 0
          · subst hg0; have hOP := HOP.out; rw [if_pos rfl] at hOP; replace HOP := Aside0.mk hOP; clear hOP; have c1 := (blk_cell H4.out.blk 1).trans rfl; have z1 := blk_frozen H4.out.blk 1; obtain ⟨Af, cf, hvf, hcf, _⟩ := H4.out.filRow; have hTF : T.files.length = S.files.length := by rw [HG.out.2.1]
            rw [hTF] at hvf; subst hvf; obtain ⟨N, hN⟩ : ∃ N, N = S.files.length := ⟨_, rfl⟩; have HNF := Aside0.mk hN; rw [← hN] at c1 H4; have hN9 : (N : Int) ≤ 1048640 := by have h2 := HI.out.lenF; have h3 := HI.out.opsB; omega
            have HLN : Aside0 ((T.files.length + 1) * 32 ≤ 140737488355328) := ⟨by rw [hTF]; omega⟩; have HLE : Aside0 ((T.files ++ [(([], 0) : Fil)]).length = N + 1) := ⟨by rw [List.length_append, hTF, hN]; rfl⟩; have HIC := Aside0.mk (HI.out.create n); have HLL : Aside0 (T.dir.length ≤ 1048640 ∧ T.chg.length ≤ 1048640) := ⟨by rw [HG.out.2.2.1]; have := HI.out.lenD; omega, by rw [HG.out.2.2.2.2.1]; have := HI.out.lenC; have := HI.out.opsB; omega⟩; clear hcf hTF hN b0 c2 c5; go_wp2_with (first | ((with_reducible refine gate_builtin (b := .append) (xs := #[.tmp 45, .tmp 47]) rfl ?_); at_builtin; refine Kd.R_append kBd (w0 := w4) 0 rfl (.tmp 45) (.tmp 47) 75 113 (.agg #[.slice none 0 0, .int .i64 0]) 32 rfl Try.underlying75 infoBd rfl (by decide) (by decide) (.slice Af N cf) T.files ([], 0) [.slice none 0 0, .int .i64 0] (fun k => F k ∨ w.heap.size ≤ k) (fun _ => False) rfl rfl (kBd_nil _ _ _) (fun _ h => h.elim) (fun k hk => .inr (Nat.le_trans HK4.out.size hk)) (Kd.R_mono H4.out.fil (fun _ h => .inl h)) (Below.refl _ _) (Nat.zero_le _) HLN.out ?_; intro v7 w7 ho7 hb7 hg7 hat7; obtain ⟨A7, c7, hv7⟩ := Kd.R_slice ho7; rw [HLE.out] at hv7; subst hv7; have HR7 := Aside0.mk ho7; have HG7 := Aside0.mk hg7; have BD7 := Aside0.mk (blk_grown H4.out.blk hg7 (fun e => Kd.R_ne H4.out.fil H4.out.blk (by decide) e)); have x1 := (blk_cell BD7.out 1).trans rfl; have xz1 := blk_frozen BD7.out 1; have y1 := (blk_cell (blkR_put BD7.out 1 (.slice A7 (N + 1) c7) rfl) 1).trans rfl; clear ho7 hb7 hg7 hat7))
            have hk8 := (KeptL.refl (fun k => k = d) w7).setCell ⟨d, 1, none⟩ (.slice A7 (N + 1) c7) (.inl rfl); have h8 := RskM.put (F := fun k => F k ∨ w.heap.size ≤ k) (S := { T with files := T.files ++ [([], 0)] }) BD7.out hk8 (blkR_put BD7.out 1 _ rfl) HR7.out (R_grow (Kd.R_mono H4.out.dir (fun _ h => .inl h)) H4.out.fil (by decide) HG7.out) (R_grow (Kd.R_mono H4.out.safe (fun _ h => .inl h)) H4.out.fil (by decide) HG7.out) (R_grow (Kd.R_mono H4.out.chg (fun _ h => .inl h)) H4.out.fil (by decide) HG7.out) (.inl H4.out.fd); have hk : KeptL (fun k => F k ∨ w.heap.size ≤ k) w (w7.setCell ⟨d, 1, none⟩ (.slice A7 (N + 1) c7)) := ((HK4.out.mono (S' := fun k => F k ∨ w.heap.size ≤ k) (fun _ h => .inl h)).grown HG7.out (fun k e => .inl (.inl (H4.out.fil.1 k e)))).setCell _ _ (.inl (.inl H4.out.fd)); have H8 := Aside0.mk h8; have HK8 := Aside0.mk hk; obtain ⟨w8, hw8⟩ : ∃ w8, w8 = w7.setCell ⟨d, 1, none⟩ (.slice A7 (N + 1) c7) := ⟨_, rfl⟩; rw [← hw8] at H8 HK8; have hw9 : wrap64 (((N + 1 : Nat) : Int) - 1) = (N : Int) := by rw [w64L (by omega) (by omega)]; omega
            have hw10 : wrap64 ((N : Int) + 1 - 1) = (N : Int) := by rw [w64L (by omega) (by omega)]; omega
            refine (ref_change.calls (F := fun k => F k ∨ w.heap.size ≤ k) (S := { T with files := T.files ++ [([], 0)] }) (hw8 ▸ H8.out) HLL.out.1 HLL.out.2 ⟨#[]⟩ n (N : Int)).mono ?_; rintro x w9 ⟨⟨v9, rfl⟩, hk9, vd9, vc9, h9⟩; rw [← hw8] at hk9 h9
            have HFIN : Aside0 (RskAt w9 (grow F w w9) d (opCreate S n).1 ∧ KeptL F w w9) := ⟨RskM.fin HIC.out HLT.out ((HK8.out.trans hk9).wide (fun k hl hk => by
                rcases hk with hk | hk
                · exact hk
                · omega)) (by
              rw [HOP.out, ← HNF.out]
              exact h9.wide (fun k hk => by
                rcases hk with (hk | hk) | hk
                · exact .inl hk
                · exact .inr hk
                · exact .inr (Nat.le_trans HK8.out.size hk.1)))⟩
            clear hk9 h9 hw8 hk8 h8 hk x1 xz1 y1 c1 z1 hw9 hw10; go_wp2_with fail
            go_ret; exact ⟨by rw [HOP.out]; rfl, HFIN.out⟩
          · have bg : (g == 0) = false := beq_eq_false_iff_ne.mpr hg0; have hOP := HOP.out; rw [if_neg hg0] at hOP; replace HOP := Aside0.mk hOP; clear hOP hg0; go_wp2_with fail
            go_ret; rw [HOP.out]; exact ⟨rfl, RskM.fin HG.out.1 HLT.out HK4.out (H4.out.wide (fun k hk => .inl hk))⟩
set_option maxHeartbeats 2000000 in
set_option maxRecDepth 100000 in
theorem ref_Read.calls {w : World} {F : Nat → Prop} {d : Nat} {S : DS} (h : RskAt w F d S) (n : ByteArray) :
    Calls Try.prog 63 #[.pointer (some ⟨d, 0, none⟩), .string n] w fun e w' => ∃ v, e = .returned (.tuple #[v, .int .i64 (rdFile S n).2]) ∧ Kd.R kB 5 w' w.heap.size (fun _ => True) v (rdFile S n).1 ∧ Below w.heap.size w w' := by
  obtain ⟨hI, hlt0, vf, vd, vs, vc, h1⟩ := h; have HI := Aside0.mk hI; have H := Aside0.mk h1; have c7 := (blk_cell h1.blk 7).trans rfl
  cases hd : S.dead with
  | true =>
    rw [hd] at c7; have HOP : Aside0 (rdFile S n = ([], 51)) := ⟨by unfold rdFile; rw [hd]; rfl⟩; clear h1 hd hI hlt0; go_enter Try.func63, Try.ntmps63
    go_wp2_with fail
    go_ret2; rw [HOP.out]; exact ⟨_, rfl, Kd.R_nil _ _ _ _ _, Below.refl _ _⟩
  | false =>
    rw [hd] at c7; have HDD := Aside0.mk hd; obtain ⟨Ad, cd, hvd, hcd, hCd⟩ := h1.dirRow; subst hvd; have HCD := Aside0.mk (And.intro hcd hCd); have c2 := (blk_cell h1.blk 2).trans rfl; clear h1 hcd hCd hd hI hlt0; go_enter Try.func63, Try.ntmps63
    go_wp2_with fail
    refine (ref_find.at HCD.out.2 HCD.out.1 (by have := HI.out.lenD; omega) n).mono ?_; rintro x w2 ⟨hb2, ⟨rfl, hh⟩ | ⟨ji, hji, rfl, hh⟩⟩
    · have HOP : Aside0 (rdFile S n = ([], 7)) := ⟨by unfold rdFile; rw [HDD.out, hh]; rfl⟩; have HB2 := Aside0.mk hb2; clear hh hb2 c2; go_wp2_with fail
      go_ret2; rw [HOP.out]; exact ⟨_, rfl, Kd.R_nil _ _ _ _ _, HB2.out⟩
    · have HOP : Aside0 (rdFile S n = ((fileOf S S.dir[ji].2).1, 0)) := ⟨by unfold rdFile; rw [HDD.out, hh]; rfl⟩; have HH := Aside0.mk hh; have HJI := Aside0.mk hji; have HB2 := Aside0.mk hb2; have H2 := Aside0.mk (H.out.below hb2); obtain ⟨en, hen⟩ : ∃ en, en = S.dir[ji] := ⟨_, rfl⟩; rw [← hen] at HH HOP; have HEN := Aside0.mk hen; clear hh hb2 hen c2; have hen := HI.out.okD en (has_some HH.out).1; have hjn := HJI.out; obtain ⟨j, hj⟩ : ∃ j : Nat, (j : Int) = en.2 := ⟨en.2.toNat, by omega⟩; have hjS : j < S.files.length := by omega
      obtain ⟨fj, hfj⟩ : ∃ fj, fj = S.files.getD j ([], 0) := ⟨_, rfl⟩; have hfo : fileOf S en.2 = fj := by unfold fileOf; rw [hfj, show en.2.toNat = j by omega]
      have HFO := Aside0.mk hfo; have hfl := HI.out.fil _ (fileOf_mem hen.1 hen.2.1); rw [hfo] at hfl; have HFL := Aside0.mk hfl; have HFJ := Aside0.mk hfj; have HJS := Aside0.mk hjS; have HJE := Aside0.mk hj; have HJN : Aside0 (en.2.toNat = j) := ⟨by omega⟩; clear hen hfj hj; obtain ⟨ad, q0, rfl⟩ : ∃ ad, (∃ z, z = Ad) ∧ Ad = some ad := by obtain ⟨ad, hA, _, _⟩ := ent_at HCD.out.2 ji HJI.out; exact ⟨ad, ⟨_, rfl⟩, hA⟩
      clear q0; obtain ⟨ad', hA', q0, q1⟩ := ent_at (Kd.R_reads' H2.out.dir).2.2 ji HJI.out
      cases hA'
      rw [← HEN.out, ← HJE.out] at q1; obtain ⟨Af, cf, hvf, hcf, _⟩ := H2.out.filRow; subst hvf; obtain ⟨af, A5, c5', hA, k0, k1, z0, z1, hk5, hC5, hx1, hx2, hx3, hx4, hx5⟩ := bod_own H2.out.fil j HJS.out; clear hx1 hx2 hx3 hx4 hx5; subst hA; rw [← HFJ.out] at k0 hk5 hC5; obtain ⟨n5, hn5⟩ : ∃ n5, n5 = fj.1.length := ⟨_, rfl⟩; have HN5 := Aside0.mk hn5; rw [← hn5] at k0; have HC5 := Aside0.mk hC5; have c1 := (blk_cell H2.out.blk 1).trans rfl; have c2 := (blk_cell H2.out.blk 2).trans rfl; clear hcf hk5 hC5 hn5 q0 k1 z0 z1 hfl hfo; go_upto_region 6 with (fail)
      refine start_ (n := 19) (S := fun w' => w'.cell? ⟨d, 1, none⟩ = some (.slice (some af) S.files.length cf) ∧ w'.cell? ⟨d, 2, none⟩ = some (.slice (some ad) S.dir.length cd) ∧ w'.cell? ⟨(ad.add (ji * 2)).block, (ad.add (ji * 2)).off + 1, none⟩ = some (.int .i64 (j : Int)) ∧ w'.cell? (af.add (j * 2)) = some (.slice A5 n5 c5')) (ds := []) (bm 19 0) (by kernel_rfl) rfl rfl ⟨c1, c2, q1, k0⟩ (fun hHeld => ?_); refine pure_ (i := 1) (N := some 20) (v:=?_) (a':=?_) (bm 19 2) rfl rfl (by kernel_rfl) (fun _ _ _ h => h) (Or.inl ⟨by rfl, ?_⟩) ?_ ?_; rotate_left
      · intro w'; go_simp; with_reducible rfl
      rotate_left
      · simp only [Act.put,s_a,s_b,s_c,i64_w,i32_w]; rfl
      refine pure_ (i := 2) (N := some 21) (v:=?_) (a':=?_) (bm 19 6) rfl rfl (by kernel_rfl) (fun _ _ _ h => h) (Or.inl ⟨by rfl, ?_⟩) ?_ ?_; rotate_left
      · intro w'; go_simp; with_reducible rfl
      rotate_left
      · simp only [Act.put,s_a,s_b,s_c,i64_w,i32_w]; rfl
      refine pure_ (i := 3) (N := some 22) (v:=?_) (a':=?_) (bm 19 14) rfl rfl (by kernel_rfl) (fun _ _ _ h => h) (Or.inl ⟨by rfl, ?_⟩) ?_ ?_; rotate_left
      · intro w'; go_simp; with_reducible rfl
      rotate_left
      · simp only [Act.put,s_a,s_b,s_c,i64_w,i32_w]; rfl
      refine pure_ (i := 5) (N := some 24) (v:=?_) (a':=?_) (bm 19 46) rfl rfl (by kernel_rfl) (fun _ _ _ h => h) (Or.inl ⟨by rfl, ?_⟩) ?_ ?_; rotate_left
      · intro w'; go_simp; with_reducible rfl
      rotate_left
      · simp only [Act.put,s_a,s_b,s_c,i64_w,i32_w]; rfl
      refine pure_ (i := 6) (N := some 25) (v:=?_) (a':=?_) (bm 19 110) rfl rfl (by kernel_rfl) (fun _ _ _ h => h) (Or.inl ⟨by rfl, ?_⟩) ?_ ?_; rotate_left
      · intro w'; go_simp; with_reducible rfl
      rotate_left
      · simp only [Act.put,s_a,s_b,s_c,i64_w,i32_w]; rfl
      refine pure_ (i := 7) (N := some 26) (v:=?_) (a':=?_) (bm 19 238) rfl rfl (by kernel_rfl) (fun _ _ _ h => h) (Or.inl ⟨by rfl, ?_⟩) ?_ ?_; rotate_left
      · intro w'; go_simp; with_reducible rfl
      rotate_left
      · simp only [Act.put,s_a,s_b,s_c,i64_w,i32_w]; rfl
      refine pure_ (i := 9) (N := some 28) (v:=?_) (a':=?_) (bm 19 750) rfl rfl (by kernel_rfl) (fun _ _ _ h => h) (Or.inl ⟨by rfl, ?_⟩) ?_ ?_; rotate_left
      · intro w'; go_simp; with_reducible rfl
      rotate_left
      · simp only [Act.put,s_a,s_b,s_c,i64_w,i32_w]; rfl
      refine take_ (i := 4) (N := some 23) (v:=?_) (a':=?_) (bm 19 766) rfl rfl (by kernel_rfl) (fun _ _ _ h => h) (Or.inl ⟨by rfl, ?_⟩) hHeld ?_ ?_; rotate_left
      · rintro w' ⟨s0, s1, s2, s3⟩; go_simp; with_reducible rfl
      rotate_left
      · simp only [Act.put,s_a,s_b,s_c,i64_w,i32_w]; rfl
      refine take_ (i := 8) (N := some 27) (v:=?_) (a':=?_) (bm 19 1022) rfl rfl (by kernel_rfl) (fun _ _ _ h => h) (Or.inl ⟨by rfl, ?_⟩) hHeld ?_ ?_; rotate_left
      · rintro w' ⟨s0, s1, s2, s3⟩; go_simp; with_reducible rfl
      rotate_left
      · simp only [Act.put,s_a,s_b,s_c,i64_w,i32_w]; rfl
      refine pure_ (i := 10) (N := some 29) (v:=?_) (a':=?_) (bm 19 2046) rfl rfl (by kernel_rfl) (fun _ _ _ h => h) (Or.inl ⟨by rfl, ?_⟩) ?_ ?_; rotate_left
      · intro w'; go_simp; with_reducible rfl
      rotate_left
      · simp only [Act.put,s_a,s_b,s_c,i64_w,i32_w]; rfl
      refine pure_ (i := 11) (N := some 30) (v:=?_) (a':=?_) (bm 19 4094) rfl rfl (by kernel_rfl) (fun _ _ _ h => h) (Or.inl ⟨by rfl, ?_⟩) ?_ ?_; rotate_left
      · intro w'; go_simp; with_reducible rfl
      rotate_left
      · simp only [Act.put,s_a,s_b,s_c,i64_w,i32_w]; rfl
      refine take_ (i := 12) (N := some 31) (v:=?_) (a':=?_) (bm 19 8190) rfl rfl (by kernel_rfl) (fun _ _ _ h => h) (Or.inl ⟨by rfl, ?_⟩) hHeld ?_ ?_; rotate_left
      · rintro w' ⟨s0, s1, s2, s3⟩; go_simp; with_reducible rfl
      rotate_left
      · simp only [Act.put,s_a,s_b,s_c,i64_w,i32_w]; rfl
      refine pure_ (i := 13) (N := some 32) (v:=?_) (a':=?_) (bm 19 16382) rfl rfl (by kernel_rfl) (fun _ _ _ h => h) (Or.inl ⟨by rfl, ?_⟩) ?_ ?_; rotate_left
      · intro w'; go_simp; with_reducible rfl
      rotate_left
      · simp only [Act.put,s_a,s_b,s_c,i64_w,i32_w]; rfl
      refine pure_ (i := 14) (N := some 33) (v:=?_) (a':=?_) (bm 19 32766) rfl rfl (by kernel_rfl) (fun _ _ _ h => h) (Or.inl ⟨by rfl, ?_⟩) ?_ ?_; rotate_left
      · intro w'; go_simp; with_reducible rfl
      rotate_left
      · simp only [Act.put,s_a,s_b,s_c,i64_w,i32_w]; rfl
      refine take_ (i := 15) (N := some 34) (v:=?_) (a':=?_) (bm 19 65534) rfl rfl (by kernel_rfl) (fun _ _ _ h => h) (Or.inl ⟨by rfl, ?_⟩) hHeld ?_ ?_; rotate_left
      · rintro w' ⟨s0, s1, s2, s3⟩; go_simp; with_reducible rfl
      rotate_left
      · simp only [Act.put,s_a,s_b,s_c,i64_w,i32_w]; rfl
      refine one_ (i := 0) (N := some 19) (bm 19 65535) rfl rfl (by kernel_rfl) (by decide) (fun K hK => ?_); refine Kd.R_lit_step (Kd.int .u8) (w0 := w2) w2.heap.size 5 (by rfl) rfl (xs := ([] : List Int)) (inner := []) (ok := fun _ => True) (okp := fun _ => True) ?hr (Reps.none _ _) (fun _ hk => hk) trivial (below_drew1 (Below.refl _ _)) (Nat.le_refl _) (by simp) ?_
      case hr => first | (go_simp; done) | (go_simp; rfl)
      intro v7 w7 ho7 hb7 hg7 hn7; have HO7 := Aside0.mk ho7; have HB7 := Aside0.mk hb7; clear ho7 hb7 hg7 hn7; refine hK.out _ _ ⟨pw_cell_below HB7.out c1, pw_cell_below HB7.out c2, pw_cell_below HB7.out q1, pw_cell_below HB7.out k0⟩ (fun hHeld => ?_); clear hK K; refine norm_ (a' := ?_) ?_ ?_; rotate_left
      · show Act.put _ (some 19) _ = _; simp only [Act.put,s_a,s_b,s_c,i64_w,i32_w]; rfl
      refine one_ (i := 16) (N := some 35) (bm 19 131071) rfl rfl (by kernel_rfl) (by decide) (fun K hK => ?_); refine Kd.R_append_rows_step (Kd.int .u8) (w0 := w2) w2.heap.size (by rfl) (.tmp 19) (.tmp 34) 53 5 (.int .u8 0) 1 rfl Try.underlying53 infoB rfl (by decide) (by decide) v7 ([] : List Int) fj.1 A5 n5 c5' (fun _ => True) (fun _ => False) rfl rfl HO7.out (HN5.out ▸ Kd.C_below HC5.out HB7.out) (fun _ _ h => h) (fun _ h => h.elim) (fun _ _ => trivial) HB7.out HB7.out.size (by simp only [List.length_nil]; have := HFL.out.1; have := HN5.out; omega) ?_; intro v8 w8 ho8 hb8 hg8 hat8; rw [List.nil_append] at ho8; have HO8 := Aside0.mk ho8; have HB8 := Aside0.mk hb8; clear ho8 hb8 hg8 hat8; refine hK.out _ _ ⟨pw_cell_below HB8.out c1, pw_cell_below HB8.out c2, pw_cell_below HB8.out q1, pw_cell_below HB8.out k0⟩ (fun hHeld => ?_); clear hK K; refine norm_ (a' := ?_) ?_ ?_; rotate_left
      · show Act.put _ (some 35) _ = _; simp only [Act.put,s_a,s_b,s_c,i64_w,i32_w]; rfl
      refine pure_ (i := 17) (N := some 4) (v:=?_) (a':=?_) (bm 19 262143) rfl rfl (by kernel_rfl) (fun _ _ _ h => h) (Or.inl ⟨by rfl, ?_⟩) ?_ ?_; rotate_left
      · intro w'; go_simp; with_reducible rfl
      rotate_left
      · simp only [Act.put,s_a,s_b,s_c,i64_w,i32_w]; rfl
      refine pure_ (i := 18) (N := some 5) (v:=?_) (a':=?_) (bm 19 524287) rfl rfl (by kernel_rfl) (fun _ _ _ h => h) (Or.inl ⟨by rfl, ?_⟩) ?_ ?_; rotate_left
      · intro w'; go_simp; with_reducible rfl
      rotate_left
      · simp only [Act.put,s_a,s_b,s_c,i64_w,i32_w]; rfl
      refine done_ (by kernel_rfl) ?_; have HOF : Aside0 (rdFile S n = (fj.1, 0)) := ⟨by rw [HOP.out, HFO.out]⟩; clear c1 c2 q1 k0; go_wp2_with fail
      go_ret2; rw [HOF.out]; exact ⟨_, rfl, Kd.R_lower HO8.out HB2.out.size, below_step HB2.out HB8.out⟩
end Go.Proofs.Ytdekcjopgnfmdaa.Hand
