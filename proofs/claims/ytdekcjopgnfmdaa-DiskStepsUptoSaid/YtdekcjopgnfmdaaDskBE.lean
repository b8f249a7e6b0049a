/- The document's disk: Append, Create, Read. -/
import Derived.Test.YtdekcjopgnfmdaaDskBD
namespace Go.Proofs.Ytdekcjopgnfmdaa.Hand
open Go.RowKit Go.Maps Go.Proofs.YtdekcjopgnfmdaaW.PrintWords Go.Proofs.YtdekcjopgnfmdaaW.PrintLast Go.Proofs.YtdekcjopgnfmdaaW.PrintMore Go.Proofs.Ytdekcjopgnfmdaa.Q
set_option linter.unusedVariables false
set_option linter.unusedSimpArgs false
theorem bod_frozen {w4 w9 : World} {af : Addr} {j : Nat} (hpl : af = ⟨af.block, 0, none⟩) (hb : ∃ cells, w4.heap[af.block]? = some (.cells cells 113 (0, 0))) (hl : af.block < w4.heap.size) (hB : Below w4.heap.size w4 w9) : w9.frozen? (af.add (j * 2)) = false := by
  obtain ⟨cells, hb⟩ := hb; rw [hpl, add_two]; exact blk_frozen ((hB.block _ hl).trans hb) _
set_option maxHeartbeats 2000000 in
set_option maxRecDepth 100000 in
theorem ref_Append.calls {w : World} {F : Nat → Prop} {d : Nat} {S : DS} (h : RskAt w F d S) (n : ByteArray) (hn : n.size ≤ 9223372036854775807) (A : Option Addr) (c : Nat) (p : List Int) (hC : Kd.C kB w A p.length p) (hpl : (p.length : Int) ≤ 1073741824) (hpb : ∀ x, x ∈ p → 0 ≤ x ∧ x ≤ 255) (hnf : ∀ ad, A = some ad → 0 < p.length → ¬ F ad.block) :
    Calls Try.prog 56 #[.pointer (some ⟨d, 0, none⟩), .string n, .slice A p.length c] w fun e w' => e = .returned (.int .i64 (opAppend S n p).2) ∧ RskAt w' (grow F w w') d (opAppend S n p).1 ∧ KeptL F w w' := by
  have HA := Aside0.mk h; obtain ⟨hI, hlt0, vf, vd, vs, vc, h1⟩ := h; have HLT := Aside0.mk hlt0; have HI := Aside0.mk hI; have H := Aside0.mk h1; have c7 := (blk_cell h1.blk 7).trans rfl; have HCW := Aside0.mk hC; have HPL := Aside0.mk hpl; have HPB := Aside0.mk hpb; have HNF := Aside0.mk hnf; obtain ⟨L, hL⟩ : ∃ L, L = p.length := ⟨_, rfl⟩; have HL := Aside0.mk hL; rw [← hL]; clear hC hpb hnf hL hpl
  cases hd : S.dead with
  | true =>
    rw [hd] at c7; have HOP : Aside0 (opAppend S n p = (S, 51)) := ⟨by unfold opAppend; rw [hd]; rfl⟩; clear h1 hd hI hlt0; go_enter Try.func56, Try.ntmps56
    go_wp2_with fail
    go_ret; rw [HOP.out]; exact ⟨rfl, HA.out.unmoved (Below.refl _ _)⟩
  | false =>
    rw [hd] at c7; have HDD := Aside0.mk hd; clear hd hI hlt0; obtain ⟨Ad, cd, hvd, hcd, hCd⟩ := h1.dirRow; subst hvd; have HCD := Aside0.mk (And.intro hcd hCd); have c2 := (blk_cell h1.blk 2).trans rfl; clear h1 hcd hCd; go_enter Try.func56, Try.ntmps56
    go_wp2_with fail
    refine (ref_find.at HCD.out.2 HCD.out.1 (by have := HI.out.lenD; omega) n).mono ?_; rintro x w2 ⟨hb2, ⟨rfl, hh⟩ | ⟨ji, hji, rfl, hh⟩⟩
    · have HOP : Aside0 (opAppend S n p = (S, 7)) := ⟨by unfold opAppend; rw [HDD.out, hh]; rfl⟩; have HB2 := Aside0.mk hb2; clear hh hb2 c2; go_wp2_with fail
      go_ret; rw [HOP.out]; exact ⟨rfl, HA.out.unmoved HB2.out⟩
    · have HH := Aside0.mk hh; have HJI := Aside0.mk hji; have HB2 := Aside0.mk hb2; have H2 := Aside0.mk (H.out.below hb2); have c5 := (blk_cell H2.out.blk 5).trans rfl; obtain ⟨en, hen⟩ : ∃ en, en = S.dir[ji] := ⟨_, rfl⟩; rw [← hen] at HH; have HEN := Aside0.mk hen; clear hh hb2 hen c2; have hen := HI.out.okD en (has_some HH.out).1; have hjn := HJI.out; obtain ⟨j, hj⟩ : ∃ j : Nat, (j : Int) = en.2 := ⟨en.2.toNat, by omega⟩; have hjS : j < S.files.length := by omega
      obtain ⟨fj, hfj⟩ : ∃ fj, fj = S.files.getD j ([], 0) := ⟨_, rfl⟩; have hfo : fileOf S en.2 = fj := by unfold fileOf; rw [hfj, show en.2.toNat = j by omega]
      have HFO := Aside0.mk hfo; have hfl := HI.out.fil _ (fileOf_mem hen.1 hen.2.1); rw [hfo] at hfl; have HFL := Aside0.mk hfl; have HFJ := Aside0.mk hfj; have HJS := Aside0.mk hjS; have HJE := Aside0.mk hj; have HJN : Aside0 (en.2.toNat = j) := ⟨by omega⟩; clear hen hfj hj; obtain ⟨ad, hA, _, _⟩ := ent_at HCD.out.2 ji HJI.out; subst hA; obtain ⟨ad', hA', q0, q1⟩ := ent_at (Kd.R_reads' H2.out.dir).2.2 ji HJI.out
      cases hA'
      rw [← HEN.out, ← HJE.out] at q1; obtain ⟨Af, cf, hvf, hcf, _⟩ := H2.out.filRow; subst hvf; obtain ⟨af, A5, c5', hA, k0, k1, z0, z1, hk5, hC5, ⟨cells5, hb5⟩, hpl5, hF5, hsB, hsS⟩ := bod_own H2.out.fil j HJS.out; subst hA; rw [← HFJ.out] at k0 k1 hk5 hC5 hsB hsS; obtain ⟨n5, hn5⟩ : ∃ n5, n5 = fj.1.length := ⟨_, rfl⟩; have HN5 := Aside0.mk hn5; rw [← hn5] at k0 hfl; have c0 := (blk_cell H2.out.blk 0).trans rfl; have c1 := (blk_cell H2.out.blk 1).trans rfl; have c2 := (blk_cell H2.out.blk 2).trans rfl; have hub := HI.out.usedB; have hrb := HI.out.roomB; have hpl := HPL.out; have HAT2 : Aside0 (RskAt w2 F d S) := ⟨HI.out, fun k hk => Nat.lt_of_lt_of_le (HLT.out k hk) HB2.out.size, _, _, _, _, H2.out⟩; rw [← HL.out] at hpl; have e1 : wrap64 ((n5 : Int) + (L : Int)) = (n5 : Int) + (L : Int) := w64L (by omega) (by omega); have e2 : wrap64 (S.room - used S) = S.room - used S := w64L (by omega) (by omega); clear hcf hk5 hC5 hb5 hpl5 hF5 hsB hsS hn5 q0 k1 z0 z1; go_upto_region 7 with (fail)
      clear c2 q1 hjn; by_cases t1 : (n5 : Int) + (L : Int) > 4194304
      · have q1 : decide (wrap64 ((n5 : Int) + (L : Int)) > 4194304) = true := by rw [e1]; exact decide_eq_true t1
        have hX : (fj.1.length : Int) + p.length > 4194304 := by rw [← HN5.out, ← HL.out]; exact t1
        have HOP : Aside0 (opAppend S n p = (S, 5)) := ⟨opAppend_full HDD.out HH.out (.inl (by rw [HFO.out]; exact hX))⟩; clear t1 hX hfl hub hrb hpl e1 e2 hfo; refine start_ (n := 32) (S := fun w' => w'.cell? ⟨d, 0, none⟩ = some (.int .i64 S.room) ∧ w'.cell? ⟨d, 1, none⟩ = some (.slice (some af) S.files.length cf) ∧ w'.cell? ⟨d, 5, none⟩ = some (.int .i64 S.ops) ∧ w'.cell? (af.add (j * 2)) = some (.slice A5 n5 c5')) (ds := []) (bm 32 0) (by kernel_rfl) rfl rfl ⟨c0, c1, c5, k0⟩ (fun hHeld => ?_); refine pure_ (i := 0) (N := some 30) (v:=?_) (a':=?_) (bm 32 1) rfl rfl (by kernel_rfl) (fun _ _ _ h => h) (Or.inl ⟨by rfl, ?_⟩) ?_ ?_; rotate_left
        · intro w'; go_simp; with_reducible rfl
        rotate_left
        · simp only [Act.put,s_a,s_b,s_c,i64_w,i32_w]; rfl
        refine pure_ (i := 1) (N := some 31) (v:=?_) (a':=?_) (bm 32 3) rfl rfl (by kernel_rfl) (fun _ _ _ h => h) (Or.inl ⟨by rfl, ?_⟩) ?_ ?_; rotate_left
        · intro w'; go_simp; with_reducible rfl
        rotate_left
        · simp only [Act.put,s_a,s_b,s_c,i64_w,i32_w]; rfl
        refine pure_ (i := 2) (N := some 32) (v:=?_) (a':=?_) (bm 32 7) rfl rfl (by kernel_rfl) (fun _ _ _ h => h) (Or.inl ⟨by rfl, ?_⟩) ?_ ?_; rotate_left
        · intro w'; go_simp; with_reducible rfl
        rotate_left
        · simp only [Act.put,s_a,s_b,s_c,i64_w,i32_w]; rfl
        refine pure_ (i := 4) (N := some 34) (v:=?_) (a':=?_) (bm 32 23) rfl rfl (by kernel_rfl) (fun _ _ _ h => h) (Or.inl ⟨by rfl, ?_⟩) ?_ ?_; rotate_left
        · intro w'; go_simp; with_reducible rfl
        rotate_left
        · simp only [Act.put,s_a,s_b,s_c,i64_w,i32_w]; rfl
        refine pure_ (i := 9) (N := some 39) (v:=?_) (a':=?_) (bm 32 535) rfl rfl (by kernel_rfl) (fun _ _ _ h => h) (Or.inl ⟨by rfl, ?_⟩) ?_ ?_; rotate_left
        · intro w'; go_simp; with_reducible rfl
        rotate_left
        · simp only [Act.put,s_a,s_b,s_c,i64_w,i32_w]; rfl
        refine pure_ (i := 10) (N := some 40) (v:=?_) (a':=?_) (bm 32 1559) rfl rfl (by kernel_rfl) (fun _ _ _ h => h) (Or.inl ⟨by rfl, ?_⟩) ?_ ?_; rotate_left
        · intro w'; go_simp; with_reducible rfl
        rotate_left
        · simp only [Act.put,s_a,s_b,s_c,i64_w,i32_w]; rfl
        refine take_ (i := 3) (N := some 33) (v:=?_) (a':=?_) (bm 32 1567) rfl rfl (by kernel_rfl) (fun _ _ _ h => h) (Or.inl ⟨by rfl, ?_⟩) hHeld ?_ ?_; rotate_left
        · rintro w' ⟨s0, s1, s2, s3⟩; go_simp; with_reducible rfl
        rotate_left
        · simp only [Act.put,s_a,s_b,s_c,i64_w,i32_w]; rfl
        refine pure_ (i := 5) (N := some 35) (v:=?_) (a':=?_) (bm 32 1599) rfl rfl (by kernel_rfl) (fun _ _ _ h => h) (Or.inl ⟨by rfl, ?_⟩) ?_ ?_; rotate_left
        · intro w'; go_simp; with_reducible rfl
        rotate_left
        · simp only [Act.put,s_a,s_b,s_c,i64_w,i32_w]; rfl
        refine pure_ (i := 6) (N := some 36) (v:=?_) (a':=?_) (bm 32 1663) rfl rfl (by kernel_rfl) (fun _ _ _ h => h) (Or.inl ⟨by rfl, ?_⟩) ?_ ?_; rotate_left
        · intro w'; go_simp; with_reducible rfl
        rotate_left
        · simp only [Act.put,s_a,s_b,s_c,i64_w,i32_w]; rfl
        refine take_ (i := 7) (N := some 37) (v:=?_) (a':=?_) (bm 32 1791) rfl rfl (by kernel_rfl) (fun _ _ _ h => h) (Or.inl ⟨by rfl, ?_⟩) hHeld ?_ ?_; rotate_left
        · rintro w' ⟨s0, s1, s2, s3⟩; go_simp; with_reducible rfl
        rotate_left
        · simp only [Act.put,s_a,s_b,s_c,i64_w,i32_w]; rfl
        refine pure_ (i := 8) (N := some 38) (v:=?_) (a':=?_) (bm 32 2047) rfl rfl (by kernel_rfl) (fun _ _ _ h => h) (Or.inl ⟨by rfl, ?_⟩) ?_ ?_; rotate_left
        · intro w'; go_simp; with_reducible rfl
        rotate_left
        · simp only [Act.put,s_a,s_b,s_c,i64_w,i32_w]; rfl
        refine pure_ (i := 11) (N := some 41) (v:=?_) (a':=?_) (bm 32 4095) rfl rfl (by kernel_rfl) (fun _ _ _ h => h) (Or.inl ⟨by rfl, ?_⟩) ?_ ?_; rotate_left
        · intro w'; go_simp; with_reducible rfl
        rotate_left
        · simp only [Act.put,s_a,s_b,s_c,i64_w,i32_w]; rfl
        refine pure_ (i := 12) (N := some 42) (v:=?_) (a':=?_) (bm 32 8191) rfl rfl (by kernel_rfl) (fun _ _ _ h => h) (Or.inl ⟨by rfl, ?_⟩) ?_ ?_; rotate_left
        · intro w'; go_simp; with_reducible rfl
        rotate_left
        · simp only [Act.put,s_a,s_b,s_c,i64_w,i32_w]; rfl
        refine pure_ (i := 13) (N := some 43) (v:=?_) (a':=?_) (bm 32 16383) rfl rfl (by kernel_rfl) (fun _ _ _ h => h) (Or.inl ⟨by rfl, ?_⟩) ?_ ?_; rotate_left
        · intro w'; go_simp; with_reducible rfl
        rotate_left
        · simp only [Act.put,s_a,s_b,s_c,i64_w,i32_w]; rfl
        refine pure_ (i := 14) (N := some 44) (v := undef) (a' := ?_) (bm 32 32767) rfl rfl (by kernel_rfl) (fun _ _ _ h => h) (Or.inr ⟨by rfl, rfl⟩) ?_ ?_; rotate_left
        · simp only [Act.put,s_a,s_b,s_c,i64_w,i32_w]; rfl
        refine pure_ (i := 15) (N := some 45) (v := undef) (a' := ?_) (bm 32 65535) rfl rfl (by kernel_rfl) (fun _ _ _ h => h) (Or.inr ⟨by rfl, rfl⟩) ?_ ?_; rotate_left
        · simp only [Act.put,s_a,s_b,s_c,i64_w,i32_w]; rfl
        refine pure_ (i := 16) (N := some 46) (v := undef) (a' := ?_) (bm 32 131071) rfl rfl (by kernel_rfl) (fun _ _ _ h => h) (Or.inr ⟨by rfl, rfl⟩) ?_ ?_; rotate_left
        · simp only [Act.put,s_a,s_b,s_c,i64_w,i32_w]; rfl
        refine pure_ (i := 17) (N := some 47) (v := undef) (a' := ?_) (bm 32 262143) rfl rfl (by kernel_rfl) (fun _ _ _ h => h) (Or.inr ⟨by rfl, rfl⟩) ?_ ?_; rotate_left
        · simp only [Act.put,s_a,s_b,s_c,i64_w,i32_w]; rfl
        refine pure_ (i := 18) (N := some 48) (v := undef) (a' := ?_) (bm 32 524287) rfl rfl (by kernel_rfl) (fun _ _ _ h => h) (Or.inr ⟨by rfl, rfl⟩) ?_ ?_; rotate_left
        · simp only [Act.put,s_a,s_b,s_c,i64_w,i32_w]; rfl
        refine pure_ (i := 19) (N := some 49) (v := undef) (a' := ?_) (bm 32 1048575) rfl rfl (by kernel_rfl) (fun _ _ _ h => h) (Or.inr ⟨by rfl, rfl⟩) ?_ ?_; rotate_left
        · simp only [Act.put,s_a,s_b,s_c,i64_w,i32_w]; rfl
        refine pure_ (i := 20) (N := some 50) (v := undef) (a' := ?_) (bm 32 2097151) rfl rfl (by kernel_rfl) (fun _ _ _ h => h) (Or.inr ⟨by rfl, rfl⟩) ?_ ?_; rotate_left
        · simp only [Act.put,s_a,s_b,s_c,i64_w,i32_w]; rfl
        refine pure_ (i := 21) (N := some 51) (v := undef) (a' := ?_) (bm 32 4194303) rfl rfl (by kernel_rfl) (fun _ _ _ h => h) (Or.inr ⟨by rfl, rfl⟩) ?_ ?_; rotate_left
        · simp only [Act.put,s_a,s_b,s_c,i64_w,i32_w]; rfl
        refine pure_ (i := 22) (N := some 52) (v := undef) (a' := ?_) (bm 32 8388607) rfl rfl (by kernel_rfl) (fun _ _ _ h => h) (Or.inr ⟨by rfl, rfl⟩) ?_ ?_; rotate_left
        · simp only [Act.put,s_a,s_b,s_c,i64_w,i32_w]; rfl
        refine pure_ (i := 23) (N := some 53) (v := undef) (a' := ?_) (bm 32 16777215) rfl rfl (by kernel_rfl) (fun _ _ _ h => h) (Or.inr ⟨by rfl, rfl⟩) ?_ ?_; rotate_left
        · simp only [Act.put,s_a,s_b,s_c,i64_w,i32_w]; rfl
        refine pure_ (i := 24) (N := some 54) (v:=?_) (a':=?_) (bm 32 33554431) rfl rfl (by kernel_rfl) (fun _ _ _ h => h) (Or.inl ⟨by rfl, ?_⟩) ?_ ?_; rotate_left
        · intro w'; go_simp; with_reducible rfl
        rotate_left
        · simp only [Act.put,s_a,s_b,s_c,i64_w,i32_w]; rfl
        refine pure_ (i := 25) (N := some 55) (v:=?_) (a':=?_) (bm 32 67108863) rfl rfl (by kernel_rfl) (fun _ _ _ h => h) (Or.inl ⟨by rfl, ?_⟩) ?_ ?_; rotate_left
        · intro w'; go_simp; with_reducible rfl
        rotate_left
        · simp only [Act.put,s_a,s_b,s_c,i64_w,i32_w]; rfl
        refine pure_ (i := 26) (N := some 56) (v := undef) (a' := ?_) (bm 32 134217727) rfl rfl (by kernel_rfl) (fun _ _ _ h => h) (Or.inr ⟨by rfl, rfl⟩) ?_ ?_; rotate_left
        · simp only [Act.put,s_a,s_b,s_c,i64_w,i32_w]; rfl
        refine pure_ (i := 27) (N := some 57) (v := undef) (a' := ?_) (bm 32 268435455) rfl rfl (by kernel_rfl) (fun _ _ _ h => h) (Or.inr ⟨by rfl, rfl⟩) ?_ ?_; rotate_left
        · simp only [Act.put,s_a,s_b,s_c,i64_w,i32_w]; rfl
        refine pure_ (i := 28) (N := some 58) (v := undef) (a' := ?_) (bm 32 536870911) rfl rfl (by kernel_rfl) (fun _ _ _ h => h) (Or.inr ⟨by rfl, rfl⟩) ?_ ?_; rotate_left
        · simp only [Act.put,s_a,s_b,s_c,i64_w,i32_w]; rfl
        refine pure_ (i := 29) (N := some 59) (v := undef) (a' := ?_) (bm 32 1073741823) rfl rfl (by kernel_rfl) (fun _ _ _ h => h) (Or.inr ⟨by rfl, rfl⟩) ?_ ?_; rotate_left
        · simp only [Act.put,s_a,s_b,s_c,i64_w,i32_w]; rfl
        refine pure_ (i := 30) (N := some 60) (v := undef) (a' := ?_) (bm 32 2147483647) rfl rfl (by kernel_rfl) (fun _ _ _ h => h) (Or.inr ⟨by rfl, rfl⟩) ?_ ?_; rotate_left
        · simp only [Act.put,s_a,s_b,s_c,i64_w,i32_w]; rfl
        refine pure_ (i := 31) (N := some 61) (v:=?_) (a':=?_) (bm 32 4294967295) rfl rfl (by kernel_rfl) (fun _ _ _ h => h) (Or.inl ⟨by rfl, ?_⟩) ?_ ?_; rotate_left
        · intro w'; go_simp; with_reducible rfl
        rotate_left
        · simp only [Act.put,s_a,s_b,s_c,i64_w,i32_w]; rfl
        refine done_ (by kernel_rfl) ?_; go_wp2_with fail
        go_ret; rw [HOP.out]; exact ⟨rfl, HA.out.unmoved (below_step HB2.out (below_drew1 (Below.refl _ _)))⟩
      · have q1 : decide (wrap64 ((n5 : Int) + (L : Int)) > 4194304) = false := by rw [e1]; exact decide_eq_false t1
        by_cases t2 : (L : Int) > S.room - used S
        · have q2 : decide ((L : Int) > wrap64 (S.room - used S)) = true := by rw [e2]; exact decide_eq_true t2
          have HOP : Aside0 (opAppend S n p = (S, 5)) := ⟨opAppend_full HDD.out HH.out (.inr (.inl (by rw [← HL.out]; exact t2)))⟩; clear t1 t2 hfl hub hrb hpl e1 e2 hfo; refine start_ (n := 32) (S := fun w' => w'.cell? ⟨d, 0, none⟩ = some (.int .i64 S.room) ∧ w'.cell? ⟨d, 1, none⟩ = some (.slice (some af) S.files.length cf) ∧ w'.cell? ⟨d, 5, none⟩ = some (.int .i64 S.ops) ∧ w'.cell? (af.add (j * 2)) = some (.slice A5 n5 c5')) (ds := []) (bm 32 0) (by kernel_rfl) rfl rfl ⟨c0, c1, c5, k0⟩ (fun hHeld => ?_); refine pure_ (i := 0) (N := some 30) (v:=?_) (a':=?_) (bm 32 1) rfl rfl (by kernel_rfl) (fun _ _ _ h => h) (Or.inl ⟨by rfl, ?_⟩) ?_ ?_; rotate_left
          · intro w'; go_simp; with_reducible rfl
          rotate_left
          · simp only [Act.put,s_a,s_b,s_c,i64_w,i32_w]; rfl
          refine pure_ (i := 1) (N := some 31) (v:=?_) (a':=?_) (bm 32 3) rfl rfl (by kernel_rfl) (fun _ _ _ h => h) (Or.inl ⟨by rfl, ?_⟩) ?_ ?_; rotate_left
          · intro w'; go_simp; with_reducible rfl
          rotate_left
          · simp only [Act.put,s_a,s_b,s_c,i64_w,i32_w]; rfl
          refine pure_ (i := 2) (N := some 32) (v:=?_) (a':=?_) (bm 32 7) rfl rfl (by kernel_rfl) (fun _ _ _ h => h) (Or.inl ⟨by rfl, ?_⟩) ?_ ?_; rotate_left
          · intro w'; go_simp; with_reducible rfl
          rotate_left
          · simp only [Act.put,s_a,s_b,s_c,i64_w,i32_w]; rfl
          refine pure_ (i := 4) (N := some 34) (v:=?_) (a':=?_) (bm 32 23) rfl rfl (by kernel_rfl) (fun _ _ _ h => h) (Or.inl ⟨by rfl, ?_⟩) ?_ ?_; rotate_left
          · intro w'; go_simp; with_reducible rfl
          rotate_left
          · simp only [Act.put,s_a,s_b,s_c,i64_w,i32_w]; rfl
          refine pure_ (i := 9) (N := some 39) (v:=?_) (a':=?_) (bm 32 535) rfl rfl (by kernel_rfl) (fun _ _ _ h => h) (Or.inl ⟨by rfl, ?_⟩) ?_ ?_; rotate_left
          · intro w'; go_simp; with_reducible rfl
          rotate_left
          · simp only [Act.put,s_a,s_b,s_c,i64_w,i32_w]; rfl
          refine pure_ (i := 10) (N := some 40) (v:=?_) (a':=?_) (bm 32 1559) rfl rfl (by kernel_rfl) (fun _ _ _ h => h) (Or.inl ⟨by rfl, ?_⟩) ?_ ?_; rotate_left
          · intro w'; go_simp; with_reducible rfl
          rotate_left
          · simp only [Act.put,s_a,s_b,s_c,i64_w,i32_w]; rfl
          refine take_ (i := 3) (N := some 33) (v:=?_) (a':=?_) (bm 32 1567) rfl rfl (by kernel_rfl) (fun _ _ _ h => h) (Or.inl ⟨by rfl, ?_⟩) hHeld ?_ ?_; rotate_left
          · rintro w' ⟨s0, s1, s2, s3⟩; go_simp; with_reducible rfl
          rotate_left
          · simp only [Act.put,s_a,s_b,s_c,i64_w,i32_w]; rfl
          refine pure_ (i := 5) (N := some 35) (v:=?_) (a':=?_) (bm 32 1599) rfl rfl (by kernel_rfl) (fun _ _ _ h => h) (Or.inl ⟨by rfl, ?_⟩) ?_ ?_; rotate_left
          · intro w'; go_simp; with_reducible rfl
          rotate_left
          · simp only [Act.put,s_a,s_b,s_c,i64_w,i32_w]; rfl
          refine pure_ (i := 6) (N := some 36) (v:=?_) (a':=?_) (bm 32 1663) rfl rfl (by kernel_rfl) (fun _ _ _ h => h) (Or.inl ⟨by rfl, ?_⟩) ?_ ?_; rotate_left
          · intro w'; go_simp; with_reducible rfl
          rotate_left
          · simp only [Act.put,s_a,s_b,s_c,i64_w,i32_w]; rfl
          refine take_ (i := 7) (N := some 37) (v:=?_) (a':=?_) (bm 32 1791) rfl rfl (by kernel_rfl) (fun _ _ _ h => h) (Or.inl ⟨by rfl, ?_⟩) hHeld ?_ ?_; rotate_left
          · rintro w' ⟨s0, s1, s2, s3⟩; go_simp; with_reducible rfl
          rotate_left
          · simp only [Act.put,s_a,s_b,s_c,i64_w,i32_w]; rfl
          refine pure_ (i := 8) (N := some 38) (v:=?_) (a':=?_) (bm 32 2047) rfl rfl (by kernel_rfl) (fun _ _ _ h => h) (Or.inl ⟨by rfl, ?_⟩) ?_ ?_; rotate_left
          · intro w'; go_simp; with_reducible rfl
          rotate_left
          · simp only [Act.put,s_a,s_b,s_c,i64_w,i32_w]; rfl
          refine pure_ (i := 11) (N := some 41) (v:=?_) (a':=?_) (bm 32 4095) rfl rfl (by kernel_rfl) (fun _ _ _ h => h) (Or.inl ⟨by rfl, ?_⟩) ?_ ?_; rotate_left
          · intro w'; go_simp; with_reducible rfl
          rotate_left
          · simp only [Act.put,s_a,s_b,s_c,i64_w,i32_w]; rfl
          refine pure_ (i := 12) (N := some 42) (v:=?_) (a':=?_) (bm 32 8191) rfl rfl (by kernel_rfl) (fun _ _ _ h => h) (Or.inl ⟨by rfl, ?_⟩) ?_ ?_; rotate_left
          · intro w'; go_simp; with_reducible rfl
          rotate_left
          · simp only [Act.put,s_a,s_b,s_c,i64_w,i32_w]; rfl
          refine pure_ (i := 13) (N := some 43) (v:=?_) (a':=?_) (bm 32 16383) rfl rfl (by kernel_rfl) (fun _ _ _ h => h) (Or.inl ⟨by rfl, ?_⟩) ?_ ?_; rotate_left
          · intro w'; go_simp; with_reducible rfl
          rotate_left
          · simp only [Act.put,s_a,s_b,s_c,i64_w,i32_w]; rfl
          refine pure_ (i := 14) (N := some 44) (v:=?_) (a':=?_) (bm 32 32767) rfl rfl (by kernel_rfl) (fun _ _ _ h => h) (Or.inl ⟨by rfl, ?_⟩) ?_ ?_; rotate_left
          · intro w'; go_simp; with_reducible rfl
          rotate_left
          · simp only [Act.put,s_a,s_b,s_c,i64_w,i32_w]; rfl
          refine pure_ (i := 15) (N := some 45) (v:=?_) (a':=?_) (bm 32 65535) rfl rfl (by kernel_rfl) (fun _ _ _ h => h) (Or.inl ⟨by rfl, ?_⟩) ?_ ?_; rotate_left
          · intro w'; go_simp; with_reducible rfl
          rotate_left
          · simp only [Act.put,s_a,s_b,s_c,i64_w,i32_w]; rfl
          refine pure_ (i := 16) (N := some 46) (v:=?_) (a':=?_) (bm 32 131071) rfl rfl (by kernel_rfl) (fun _ _ _ h => h) (Or.inl ⟨by rfl, ?_⟩) ?_ ?_; rotate_left
          · intro w'; go_simp; with_reducible rfl
          rotate_left
          · simp only [Act.put,s_a,s_b,s_c,i64_w,i32_w]; rfl
          refine pure_ (i := 17) (N := some 47) (v:=?_) (a':=?_) (bm 32 262143) rfl rfl (by kernel_rfl) (fun _ _ _ h => h) (Or.inl ⟨by rfl, ?_⟩) ?_ ?_; rotate_left
          · intro w'; go_simp; with_reducible rfl
          rotate_left
          · simp only [Act.put,s_a,s_b,s_c,i64_w,i32_w]; rfl
          refine pure_ (i := 18) (N := some 48) (v:=?_) (a':=?_) (bm 32 524287) rfl rfl (by kernel_rfl) (fun _ _ _ h => h) (Or.inl ⟨by rfl, ?_⟩) ?_ ?_; rotate_left
          · intro w'; go_simp; with_reducible rfl
          rotate_left
          · simp only [Act.put,s_a,s_b,s_c,i64_w,i32_w]; rfl
          refine pure_ (i := 20) (N := some 50) (v:=?_) (a':=?_) (bm 32 1572863) rfl rfl (by kernel_rfl) (fun _ _ _ h => h) (Or.inl ⟨by rfl, ?_⟩) ?_ ?_; rotate_left
          · intro w'; go_simp; with_reducible rfl
          rotate_left
          · simp only [Act.put,s_a,s_b,s_c,i64_w,i32_w]; rfl
          refine take_ (i := 19) (N := some 49) (v:=?_) (a':=?_) (bm 32 2097151) rfl rfl (by kernel_rfl) (fun _ _ _ h => h) (Or.inl ⟨by rfl, ?_⟩) hHeld ?_ ?_; rotate_left
          · rintro w' ⟨s0, s1, s2, s3⟩; go_simp; with_reducible rfl
          rotate_left
          · simp only [Act.put,s_a,s_b,s_c,i64_w,i32_w]; rfl
          refine one_ (i := 21) (N := some 51) (bm 32 4194303) rfl rfl (by kernel_rfl) (by decide) (fun K hK => ?_); refine goes_ Try.func69 (by kernel_rfl) rfl #[.pointer (some ⟨d, 0, none⟩)] (by rfl) rfl rfl (by simp only [List.map_toArray, List.map_cons, List.map_nil]; rfl) ?_; refine (ref_used.calls (HAT2.out.below (below_drew1 (Below.refl _ _)))).mono ?_; rintro e w3 ⟨rfl, hb⟩; have HB3 := Aside0.mk (below_step (below_drew1 (Below.refl w2.heap.size w2)) hb); clear hb; refine ⟨_, rfl, ?_⟩; refine hK.out _ _ ⟨pw_cell_below HB3.out c0, pw_cell_below HB3.out c1, pw_cell_below HB3.out c5, pw_cell_below HB3.out k0⟩ (fun hHeld => ?_); clear hK K; refine norm_ (a' := ?_) ?_ ?_; rotate_left
          · show Act.put _ (some 51) _ = _; simp only [Act.put,s_a,s_b,s_c,i64_w,i32_w]; rfl
          refine pure_ (i := 22) (N := some 52) (v:=?_) (a':=?_) (bm 32 8388607) rfl rfl (by kernel_rfl) (fun _ _ _ h => h) (Or.inl ⟨by rfl, ?_⟩) ?_ ?_; rotate_left
          · intro w'; go_simp; with_reducible rfl
          rotate_left
          · simp only [Act.put,s_a,s_b,s_c,i64_w,i32_w]; rfl
          refine pure_ (i := 23) (N := some 53) (v:=?_) (a':=?_) (bm 32 16777215) rfl rfl (by kernel_rfl) (fun _ _ _ h => h) (Or.inl ⟨by rfl, ?_⟩) ?_ ?_; rotate_left
          · intro w'; go_simp; with_reducible rfl
          rotate_left
          · simp only [Act.put,s_a,s_b,s_c,i64_w,i32_w]; rfl
          refine pure_ (i := 24) (N := some 54) (v:=?_) (a':=?_) (bm 32 33554431) rfl rfl (by kernel_rfl) (fun _ _ _ h => h) (Or.inl ⟨by rfl, ?_⟩) ?_ ?_; rotate_left
          · intro w'; go_simp; with_reducible rfl
          rotate_left
          · simp only [Act.put,s_a,s_b,s_c,i64_w,i32_w]; rfl
          refine pure_ (i := 25) (N := some 55) (v:=?_) (a':=?_) (bm 32 67108863) rfl rfl (by kernel_rfl) (fun _ _ _ h => h) (Or.inl ⟨by rfl, ?_⟩) ?_ ?_; rotate_left
          · intro w'; go_simp; with_reducible rfl
          rotate_left
          · simp only [Act.put,s_a,s_b,s_c,i64_w,i32_w]; rfl
          refine pure_ (i := 26) (N := some 56) (v := undef) (a' := ?_) (bm 32 134217727) rfl rfl (by kernel_rfl) (fun _ _ _ h => h) (Or.inr ⟨by rfl, rfl⟩) ?_ ?_; rotate_left
          · simp only [Act.put,s_a,s_b,s_c,i64_w,i32_w]; rfl
          refine pure_ (i := 27) (N := some 57) (v := undef) (a' := ?_) (bm 32 268435455) rfl rfl (by kernel_rfl) (fun _ _ _ h => h) (Or.inr ⟨by rfl, rfl⟩) ?_ ?_; rotate_left
          · simp only [Act.put,s_a,s_b,s_c,i64_w,i32_w]; rfl
          refine pure_ (i := 28) (N := some 58) (v := undef) (a' := ?_) (bm 32 536870911) rfl rfl (by kernel_rfl) (fun _ _ _ h => h) (Or.inr ⟨by rfl, rfl⟩) ?_ ?_; rotate_left
          · simp only [Act.put,s_a,s_b,s_c,i64_w,i32_w]; rfl
          refine pure_ (i := 29) (N := some 59) (v := undef) (a' := ?_) (bm 32 1073741823) rfl rfl (by kernel_rfl) (fun _ _ _ h => h) (Or.inr ⟨by rfl, rfl⟩) ?_ ?_; rotate_left
          · simp only [Act.put,s_a,s_b,s_c,i64_w,i32_w]; rfl
          refine pure_ (i := 30) (N := some 60) (v := undef) (a' := ?_) (bm 32 2147483647) rfl rfl (by kernel_rfl) (fun _ _ _ h => h) (Or.inr ⟨by rfl, rfl⟩) ?_ ?_; rotate_left
          · simp only [Act.put,s_a,s_b,s_c,i64_w,i32_w]; rfl
          refine pure_ (i := 31) (N := some 61) (v:=?_) (a':=?_) (bm 32 4294967295) rfl rfl (by kernel_rfl) (fun _ _ _ h => h) (Or.inl ⟨by rfl, ?_⟩) ?_ ?_; rotate_left
          · intro w'; go_simp; with_reducible rfl
          rotate_left
          · simp only [Act.put,s_a,s_b,s_c,i64_w,i32_w]; rfl
          refine done_ (by kernel_rfl) ?_; go_wp2_with fail
          go_ret; rw [HOP.out]; exact ⟨rfl, HA.out.unmoved (below_step HB2.out HB3.out)⟩
        · have q2 : decide ((L : Int) > wrap64 (S.room - used S)) = false := by rw [e2]; exact decide_eq_false t2
          by_cases t3 : S.ops ≥ 1048576
          · have q3 : decide (S.ops ≥ 1048576) = true := decide_eq_true t3; have HOP : Aside0 (opAppend S n p = (S, 5)) := ⟨opAppend_full HDD.out HH.out (.inr (.inr t3))⟩; clear t1 t2 t3 hfl hub hrb hpl e1 e2 hfo; refine start_ (n := 32) (S := fun w' => w'.cell? ⟨d, 0, none⟩ = some (.int .i64 S.room) ∧ w'.cell? ⟨d, 1, none⟩ = some (.slice (some af) S.files.length cf) ∧ w'.cell? ⟨d, 5, none⟩ = some (.int .i64 S.ops) ∧ w'.cell? (af.add (j * 2)) = some (.slice A5 n5 c5')) (ds := []) (bm 32 0) (by kernel_rfl) rfl rfl ⟨c0, c1, c5, k0⟩ (fun hHeld => ?_); refine pure_ (i := 0) (N := some 30) (v:=?_) (a':=?_) (bm 32 1) rfl rfl (by kernel_rfl) (fun _ _ _ h => h) (Or.inl ⟨by rfl, ?_⟩) ?_ ?_; rotate_left
            · intro w'; go_simp; with_reducible rfl
            rotate_left
            · simp only [Act.put,s_a,s_b,s_c,i64_w,i32_w]; rfl
            refine pure_ (i := 1) (N := some 31) (v:=?_) (a':=?_) (bm 32 3) rfl rfl (by kernel_rfl) (fun _ _ _ h => h) (Or.inl ⟨by rfl, ?_⟩) ?_ ?_; rotate_left
            · intro w'; go_simp; with_reducible rfl
            rotate_left
            · simp only [Act.put,s_a,s_b,s_c,i64_w,i32_w]; rfl
            refine pure_ (i := 2) (N := some 32) (v:=?_) (a':=?_) (bm 32 7) rfl rfl (by kernel_rfl) (fun _ _ _ h => h) (Or.inl ⟨by rfl, ?_⟩) ?_ ?_; rotate_left
            · intro w'; go_simp; with_reducible rfl
            rotate_left
            · simp only [Act.put,s_a,s_b,s_c,i64_w,i32_w]; rfl
            refine pure_ (i := 4) (N := some 34) (v:=?_) (a':=?_) (bm 32 23) rfl rfl (by kernel_rfl) (fun _ _ _ h => h) (Or.inl ⟨by rfl, ?_⟩) ?_ ?_; rotate_left
            · intro w'; go_simp; with_reducible rfl
            rotate_left
            · simp only [Act.put,s_a,s_b,s_c,i64_w,i32_w]; rfl
            refine pure_ (i := 9) (N := some 39) (v:=?_) (a':=?_) (bm 32 535) rfl rfl (by kernel_rfl) (fun _ _ _ h => h) (Or.inl ⟨by rfl, ?_⟩) ?_ ?_; rotate_left
            · intro w'; go_simp; with_reducible rfl
            rotate_left
            · simp only [Act.put,s_a,s_b,s_c,i64_w,i32_w]; rfl
            refine pure_ (i := 10) (N := some 40) (v:=?_) (a':=?_) (bm 32 1559) rfl rfl (by kernel_rfl) (fun _ _ _ h => h) (Or.inl ⟨by rfl, ?_⟩) ?_ ?_; rotate_left
            · intro w'; go_simp; with_reducible rfl
            rotate_left
            · simp only [Act.put,s_a,s_b,s_c,i64_w,i32_w]; rfl
            refine take_ (i := 3) (N := some 33) (v:=?_) (a':=?_) (bm 32 1567) rfl rfl (by kernel_rfl) (fun _ _ _ h => h) (Or.inl ⟨by rfl, ?_⟩) hHeld ?_ ?_; rotate_left
            · rintro w' ⟨s0, s1, s2, s3⟩; go_simp; with_reducible rfl
            rotate_left
            · simp only [Act.put,s_a,s_b,s_c,i64_w,i32_w]; rfl
            refine pure_ (i := 5) (N := some 35) (v:=?_) (a':=?_) (bm 32 1599) rfl rfl (by kernel_rfl) (fun _ _ _ h => h) (Or.inl ⟨by rfl, ?_⟩) ?_ ?_; rotate_left
            · intro w'; go_simp; with_reducible rfl
            rotate_left
            · simp only [Act.put,s_a,s_b,s_c,i64_w,i32_w]; rfl
            refine pure_ (i := 6) (N := some 36) (v:=?_) (a':=?_) (bm 32 1663) rfl rfl (by kernel_rfl) (fun _ _ _ h => h) (Or.inl ⟨by rfl, ?_⟩) ?_ ?_; rotate_left
            · intro w'; go_simp; with_reducible rfl
            rotate_left
            · simp only [Act.put,s_a,s_b,s_c,i64_w,i32_w]; rfl
            refine take_ (i := 7) (N := some 37) (v:=?_) (a':=?_) (bm 32 1791) rfl rfl (by kernel_rfl) (fun _ _ _ h => h) (Or.inl ⟨by rfl, ?_⟩) hHeld ?_ ?_; rotate_left
            · rintro w' ⟨s0, s1, s2, s3⟩; go_simp; with_reducible rfl
            rotate_left
            · simp only [Act.put,s_a,s_b,s_c,i64_w,i32_w]; rfl
            refine pure_ (i := 8) (N := some 38) (v:=?_) (a':=?_) (bm 32 2047) rfl rfl (by kernel_rfl) (fun _ _ _ h => h) (Or.inl ⟨by rfl, ?_⟩) ?_ ?_; rotate_left
            · intro w'; go_simp; with_reducible rfl
            rotate_left
            · simp only [Act.put,s_a,s_b,s_c,i64_w,i32_w]; rfl
            refine pure_ (i := 11) (N := some 41) (v:=?_) (a':=?_) (bm 32 4095) rfl rfl (by kernel_rfl) (fun _ _ _ h => h) (Or.inl ⟨by rfl, ?_⟩) ?_ ?_; rotate_left
            · intro w'; go_simp; with_reducible rfl
            rotate_left
            · simp only [Act.put,s_a,s_b,s_c,i64_w,i32_w]; rfl
            refine pure_ (i := 12) (N := some 42) (v:=?_) (a':=?_) (bm 32 8191) rfl rfl (by kernel_rfl) (fun _ _ _ h => h) (Or.inl ⟨by rfl, ?_⟩) ?_ ?_; rotate_left
            · intro w'; go_simp; with_reducible rfl
            rotate_left
            · simp only [Act.put,s_a,s_b,s_c,i64_w,i32_w]; rfl
            refine pure_ (i := 13) (N := some 43) (v:=?_) (a':=?_) (bm 32 16383) rfl rfl (by kernel_rfl) (fun _ _ _ h => h) (Or.inl ⟨by rfl, ?_⟩) ?_ ?_; rotate_left
            · intro w'; go_simp; with_reducible rfl
            rotate_left
            · simp only [Act.put,s_a,s_b,s_c,i64_w,i32_w]; rfl
            refine pure_ (i := 14) (N := some 44) (v:=?_) (a':=?_) (bm 32 32767) rfl rfl (by kernel_rfl) (fun _ _ _ h => h) (Or.inl ⟨by rfl, ?_⟩) ?_ ?_; rotate_left
            · intro w'; go_simp; with_reducible rfl
            rotate_left
            · simp only [Act.put,s_a,s_b,s_c,i64_w,i32_w]; rfl
            refine pure_ (i := 15) (N := some 45) (v:=?_) (a':=?_) (bm 32 65535) rfl rfl (by kernel_rfl) (fun _ _ _ h => h) (Or.inl ⟨by rfl, ?_⟩) ?_ ?_; rotate_left
            · intro w'; go_simp; with_reducible rfl
            rotate_left
            · simp only [Act.put,s_a,s_b,s_c,i64_w,i32_w]; rfl
            refine pure_ (i := 16) (N := some 46) (v:=?_) (a':=?_) (bm 32 131071) rfl rfl (by kernel_rfl) (fun _ _ _ h => h) (Or.inl ⟨by rfl, ?_⟩) ?_ ?_; rotate_left
            · intro w'; go_simp; with_reducible rfl
            rotate_left
            · simp only [Act.put,s_a,s_b,s_c,i64_w,i32_w]; rfl
            refine pure_ (i := 17) (N := some 47) (v:=?_) (a':=?_) (bm 32 262143) rfl rfl (by kernel_rfl) (fun _ _ _ h => h) (Or.inl ⟨by rfl, ?_⟩) ?_ ?_; rotate_left
            · intro w'; go_simp; with_reducible rfl
            rotate_left
            · simp only [Act.put,s_a,s_b,s_c,i64_w,i32_w]; rfl
            refine pure_ (i := 18) (N := some 48) (v:=?_) (a':=?_) (bm 32 524287) rfl rfl (by kernel_rfl) (fun _ _ _ h => h) (Or.inl ⟨by rfl, ?_⟩) ?_ ?_; rotate_left
            · intro w'; go_simp; with_reducible rfl
            rotate_left
            · simp only [Act.put,s_a,s_b,s_c,i64_w,i32_w]; rfl
            refine pure_ (i := 20) (N := some 50) (v:=?_) (a':=?_) (bm 32 1572863) rfl rfl (by kernel_rfl) (fun _ _ _ h => h) (Or.inl ⟨by rfl, ?_⟩) ?_ ?_; rotate_left
            · intro w'; go_simp; with_reducible rfl
            rotate_left
            · simp only [Act.put,s_a,s_b,s_c,i64_w,i32_w]; rfl
            refine take_ (i := 19) (N := some 49) (v:=?_) (a':=?_) (bm 32 2097151) rfl rfl (by kernel_rfl) (fun _ _ _ h => h) (Or.inl ⟨by rfl, ?_⟩) hHeld ?_ ?_; rotate_left
            · rintro w' ⟨s0, s1, s2, s3⟩; go_simp; with_reducible rfl
            rotate_left
            · simp only [Act.put,s_a,s_b,s_c,i64_w,i32_w]; rfl
            refine one_ (i := 21) (N := some 51) (bm 32 4194303) rfl rfl (by kernel_rfl) (by decide) (fun K hK => ?_); refine goes_ Try.func69 (by kernel_rfl) rfl #[.pointer (some ⟨d, 0, none⟩)] (by rfl) rfl rfl (by simp only [List.map_toArray, List.map_cons, List.map_nil]; rfl) ?_; refine (ref_used.calls (HAT2.out.below (below_drew1 (Below.refl _ _)))).mono ?_; rintro e w3 ⟨rfl, hb⟩; have HB3 := Aside0.mk (below_step (below_drew1 (Below.refl w2.heap.size w2)) hb); clear hb; refine ⟨_, rfl, ?_⟩; refine hK.out _ _ ⟨pw_cell_below HB3.out c0, pw_cell_below HB3.out c1, pw_cell_below HB3.out c5, pw_cell_below HB3.out k0⟩ (fun hHeld => ?_); clear hK K; refine norm_ (a' := ?_) ?_ ?_; rotate_left
            · show Act.put _ (some 51) _ = _; simp only [Act.put,s_a,s_b,s_c,i64_w,i32_w]; rfl
            refine pure_ (i := 22) (N := some 52) (v:=?_) (a':=?_) (bm 32 8388607) rfl rfl (by kernel_rfl) (fun _ _ _ h => h) (Or.inl ⟨by rfl, ?_⟩) ?_ ?_; rotate_left
            · intro w'; go_simp; with_reducible rfl
            rotate_left
            · simp only [Act.put,s_a,s_b,s_c,i64_w,i32_w]; rfl
            refine pure_ (i := 23) (N := some 53) (v:=?_) (a':=?_) (bm 32 16777215) rfl rfl (by kernel_rfl) (fun _ _ _ h => h) (Or.inl ⟨by rfl, ?_⟩) ?_ ?_; rotate_left
            · intro w'; go_simp; with_reducible rfl
            rotate_left
            · simp only [Act.put,s_a,s_b,s_c,i64_w,i32_w]; rfl
            refine pure_ (i := 24) (N := some 54) (v:=?_) (a':=?_) (bm 32 33554431) rfl rfl (by kernel_rfl) (fun _ _ _ h => h) (Or.inl ⟨by rfl, ?_⟩) ?_ ?_; rotate_left
            · intro w'; go_simp; with_reducible rfl
            rotate_left
            · simp only [Act.put,s_a,s_b,s_c,i64_w,i32_w]; rfl
            refine pure_ (i := 25) (N := some 55) (v:=?_) (a':=?_) (bm 32 67108863) rfl rfl (by kernel_rfl) (fun _ _ _ h => h) (Or.inl ⟨by rfl, ?_⟩) ?_ ?_; rotate_left
            · intro w'; go_simp; with_reducible rfl
            rotate_left
            · simp only [Act.put,s_a,s_b,s_c,i64_w,i32_w]; rfl
            refine pure_ (i := 26) (N := some 56) (v:=?_) (a':=?_) (bm 32 134217727) rfl rfl (by kernel_rfl) (fun _ _ _ h => h) (Or.inl ⟨by rfl, ?_⟩) ?_ ?_; rotate_left
            · intro w'; go_simp; with_reducible rfl
            rotate_left
            · simp only [Act.put,s_a,s_b,s_c,i64_w,i32_w]; rfl
            refine pure_ (i := 27) (N := some 57) (v:=?_) (a':=?_) (bm 32 268435455) rfl rfl (by kernel_rfl) (fun _ _ _ h => h) (Or.inl ⟨by rfl, ?_⟩) ?_ ?_; rotate_left
            · intro w'; go_simp; with_reducible rfl
            rotate_left
            · simp only [Act.put,s_a,s_b,s_c,i64_w,i32_w]; rfl
            refine pure_ (i := 28) (N := some 58) (v:=?_) (a':=?_) (bm 32 536870911) rfl rfl (by kernel_rfl) (fun _ _ _ h => h) (Or.inl ⟨by rfl, ?_⟩) ?_ ?_; rotate_left
            · intro w'; go_simp; with_reducible rfl
            rotate_left
            · simp only [Act.put,s_a,s_b,s_c,i64_w,i32_w]; rfl
            refine take_ (i := 29) (N := some 59) (v:=?_) (a':=?_) (bm 32 1073741823) rfl rfl (by kernel_rfl) (fun _ _ _ h => h) (Or.inl ⟨by rfl, ?_⟩) hHeld ?_ ?_; rotate_left
            · rintro w' ⟨s0, s1, s2, s3⟩; go_simp; with_reducible rfl
            rotate_left
            · simp only [Act.put,s_a,s_b,s_c,i64_w,i32_w]; rfl
            refine pure_ (i := 30) (N := some 60) (v:=?_) (a':=?_) (bm 32 2147483647) rfl rfl (by kernel_rfl) (fun _ _ _ h => h) (Or.inl ⟨by rfl, ?_⟩) ?_ ?_; rotate_left
            · intro w'; go_simp; with_reducible rfl
            rotate_left
            · simp only [Act.put,s_a,s_b,s_c,i64_w,i32_w]; rfl
            refine pure_ (i := 31) (N := some 61) (v:=?_) (a':=?_) (bm 32 4294967295) rfl rfl (by kernel_rfl) (fun _ _ _ h => h) (Or.inl ⟨by rfl, ?_⟩) ?_ ?_; rotate_left
            · intro w'; go_simp; with_reducible rfl
            rotate_left
            · simp only [Act.put,s_a,s_b,s_c,i64_w,i32_w]; rfl
            refine done_ (by kernel_rfl) ?_; go_wp2_with fail
            go_ret; rw [HOP.out]; exact ⟨rfl, HA.out.unmoved (below_step HB2.out HB3.out)⟩
          · have q3 : decide (S.ops ≥ 1048576) = false := decide_eq_false t3; have HOB : Aside0 (0 ≤ S.ops ∧ S.ops < 1048576) := ⟨by have := HI.out.opsB; omega⟩; have HBD : Aside0 ((fj.1.length : Int) + p.length ≤ 4194304) := ⟨by rw [← HN5.out, ← HL.out]; exact Int.not_lt.1 t1⟩; have HOP : Aside0 (opAppend S n p = ifGoes S fun T => setFil T en.2 ((fileOf S en.2).1 ++ p, (fileOf S en.2).2)) := ⟨opAppend_goes HDD.out HH.out (by rw [HFO.out, ← HN5.out, ← HL.out]; exact fun h => h.elim t1 (fun h => h.elim t2 t3))⟩; clear t1 t2 t3 hfl hub hrb hpl e1 e2 hfo; refine start_ (n := 32) (S := fun w' => w'.cell? ⟨d, 0, none⟩ = some (.int .i64 S.room) ∧ w'.cell? ⟨d, 1, none⟩ = some (.slice (some af) S.files.length cf) ∧ w'.cell? ⟨d, 5, none⟩ = some (.int .i64 S.ops) ∧ w'.cell? (af.add (j * 2)) = some (.slice A5 n5 c5')) (ds := []) (bm 32 0) (by kernel_rfl) rfl rfl ⟨c0, c1, c5, k0⟩ (fun hHeld => ?_); refine pure_ (i := 0) (N := some 30) (v:=?_) (a':=?_) (bm 32 1) rfl rfl (by kernel_rfl) (fun _ _ _ h => h) (Or.inl ⟨by rfl, ?_⟩) ?_ ?_; rotate_left
            · intro w'; go_simp; with_reducible rfl
            rotate_left
            · simp only [Act.put,s_a,s_b,s_c,i64_w,i32_w]; rfl
            refine pure_ (i := 1) (N := some 31) (v:=?_) (a':=?_) (bm 32 3) rfl rfl (by kernel_rfl) (fun _ _ _ h => h) (Or.inl ⟨by rfl, ?_⟩) ?_ ?_; rotate_left
            · intro w'; go_simp; with_reducible rfl
            rotate_left
            · simp only [Act.put,s_a,s_b,s_c,i64_w,i32_w]; rfl
            refine pure_ (i := 2) (N := some 32) (v:=?_) (a':=?_) (bm 32 7) rfl rfl (by kernel_rfl) (fun _ _ _ h => h) (Or.inl ⟨by rfl, ?_⟩) ?_ ?_; rotate_left
            · intro w'; go_simp; with_reducible rfl
            rotate_left
            · simp only [Act.put,s_a,s_b,s_c,i64_w,i32_w]; rfl
            refine pure_ (i := 4) (N := some 34) (v:=?_) (a':=?_) (bm 32 23) rfl rfl (by kernel_rfl) (fun _ _ _ h => h) (Or.inl ⟨by rfl, ?_⟩) ?_ ?_; rotate_left
            · intro w'; go_simp; with_reducible rfl
            rotate_left
            · simp only [Act.put,s_a,s_b,s_c,i64_w,i32_w]; rfl
            refine pure_ (i := 9) (N := some 39) (v:=?_) (a':=?_) (bm 32 535) rfl rfl (by kernel_rfl) (fun _ _ _ h => h) (Or.inl ⟨by rfl, ?_⟩) ?_ ?_; rotate_left
            · intro w'; go_simp; with_reducible rfl
            rotate_left
            · simp only [Act.put,s_a,s_b,s_c,i64_w,i32_w]; rfl
            refine pure_ (i := 10) (N := some 40) (v:=?_) (a':=?_) (bm 32 1559) rfl rfl (by kernel_rfl) (fun _ _ _ h => h) (Or.inl ⟨by rfl, ?_⟩) ?_ ?_; rotate_left
            · intro w'; go_simp; with_reducible rfl
            rotate_left
            · simp only [Act.put,s_a,s_b,s_c,i64_w,i32_w]; rfl
            refine take_ (i := 3) (N := some 33) (v:=?_) (a':=?_) (bm 32 1567) rfl rfl (by kernel_rfl) (fun _ _ _ h => h) (Or.inl ⟨by rfl, ?_⟩) hHeld ?_ ?_; rotate_left
            · rintro w' ⟨s0, s1, s2, s3⟩; go_simp; with_reducible rfl
            rotate_left
            · simp only [Act.put,s_a,s_b,s_c,i64_w,i32_w]; rfl
            refine pure_ (i := 5) (N := some 35) (v:=?_) (a':=?_) (bm 32 1599) rfl rfl (by kernel_rfl) (fun _ _ _ h => h) (Or.inl ⟨by rfl, ?_⟩) ?_ ?_; rotate_left
            · intro w'; go_simp; with_reducible rfl
            rotate_left
            · simp only [Act.put,s_a,s_b,s_c,i64_w,i32_w]; rfl
            refine pure_ (i := 6) (N := some 36) (v:=?_) (a':=?_) (bm 32 1663) rfl rfl (by kernel_rfl) (fun _ _ _ h => h) (Or.inl ⟨by rfl, ?_⟩) ?_ ?_; rotate_left
            · intro w'; go_simp; with_reducible rfl
            rotate_left
            · simp only [Act.put,s_a,s_b,s_c,i64_w,i32_w]; rfl
            refine take_ (i := 7) (N := some 37) (v:=?_) (a':=?_) (bm 32 1791) rfl rfl (by kernel_rfl) (fun _ _ _ h => h) (Or.inl ⟨by rfl, ?_⟩) hHeld ?_ ?_; rotate_left
            · rintro w' ⟨s0, s1, s2, s3⟩; go_simp; with_reducible rfl
            rotate_left
            · simp only [Act.put,s_a,s_b,s_c,i64_w,i32_w]; rfl
            refine pure_ (i := 8) (N := some 38) (v:=?_) (a':=?_) (bm 32 2047) rfl rfl (by kernel_rfl) (fun _ _ _ h => h) (Or.inl ⟨by rfl, ?_⟩) ?_ ?_; rotate_left
            · intro w'; go_simp; with_reducible rfl
            rotate_left
            · simp only [Act.put,s_a,s_b,s_c,i64_w,i32_w]; rfl
            refine pure_ (i := 11) (N := some 41) (v:=?_) (a':=?_) (bm 32 4095) rfl rfl (by kernel_rfl) (fun _ _ _ h => h) (Or.inl ⟨by rfl, ?_⟩) ?_ ?_; rotate_left
            · intro w'; go_simp; with_reducible rfl
            rotate_left
            · simp only [Act.put,s_a,s_b,s_c,i64_w,i32_w]; rfl
            refine pure_ (i := 12) (N := some 42) (v:=?_) (a':=?_) (bm 32 8191) rfl rfl (by kernel_rfl) (fun _ _ _ h => h) (Or.inl ⟨by rfl, ?_⟩) ?_ ?_; rotate_left
            · intro w'; go_simp; with_reducible rfl
            rotate_left
            · simp only [Act.put,s_a,s_b,s_c,i64_w,i32_w]; rfl
            refine pure_ (i := 13) (N := some 43) (v:=?_) (a':=?_) (bm 32 16383) rfl rfl (by kernel_rfl) (fun _ _ _ h => h) (Or.inl ⟨by rfl, ?_⟩) ?_ ?_; rotate_left
            · intro w'; go_simp; with_reducible rfl
            rotate_left
            · simp only [Act.put,s_a,s_b,s_c,i64_w,i32_w]; rfl
            refine pure_ (i := 14) (N := some 44) (v:=?_) (a':=?_) (bm 32 32767) rfl rfl (by kernel_rfl) (fun _ _ _ h => h) (Or.inl ⟨by rfl, ?_⟩) ?_ ?_; rotate_left
            · intro w'; go_simp; with_reducible rfl
            rotate_left
            · simp only [Act.put,s_a,s_b,s_c,i64_w,i32_w]; rfl
            refine pure_ (i := 15) (N := some 45) (v:=?_) (a':=?_) (bm 32 65535) rfl rfl (by kernel_rfl) (fun _ _ _ h => h) (Or.inl ⟨by rfl, ?_⟩) ?_ ?_; rotate_left
            · intro w'; go_simp; with_reducible rfl
            rotate_left
            · simp only [Act.put,s_a,s_b,s_c,i64_w,i32_w]; rfl
            refine pure_ (i := 16) (N := some 46) (v:=?_) (a':=?_) (bm 32 131071) rfl rfl (by kernel_rfl) (fun _ _ _ h => h) (Or.inl ⟨by rfl, ?_⟩) ?_ ?_; rotate_left
            · intro w'; go_simp; with_reducible rfl
            rotate_left
            · simp only [Act.put,s_a,s_b,s_c,i64_w,i32_w]; rfl
            refine pure_ (i := 17) (N := some 47) (v:=?_) (a':=?_) (bm 32 262143) rfl rfl (by kernel_rfl) (fun _ _ _ h => h) (Or.inl ⟨by rfl, ?_⟩) ?_ ?_; rotate_left
            · intro w'; go_simp; with_reducible rfl
            rotate_left
            · simp only [Act.put,s_a,s_b,s_c,i64_w,i32_w]; rfl
            refine pure_ (i := 18) (N := some 48) (v:=?_) (a':=?_) (bm 32 524287) rfl rfl (by kernel_rfl) (fun _ _ _ h => h) (Or.inl ⟨by rfl, ?_⟩) ?_ ?_; rotate_left
            · intro w'; go_simp; with_reducible rfl
            rotate_left
            · simp only [Act.put,s_a,s_b,s_c,i64_w,i32_w]; rfl
            refine pure_ (i := 20) (N := some 50) (v:=?_) (a':=?_) (bm 32 1572863) rfl rfl (by kernel_rfl) (fun _ _ _ h => h) (Or.inl ⟨by rfl, ?_⟩) ?_ ?_; rotate_left
            · intro w'; go_simp; with_reducible rfl
            rotate_left
            · simp only [Act.put,s_a,s_b,s_c,i64_w,i32_w]; rfl
            refine take_ (i := 19) (N := some 49) (v:=?_) (a':=?_) (bm 32 2097151) rfl rfl (by kernel_rfl) (fun _ _ _ h => h) (Or.inl ⟨by rfl, ?_⟩) hHeld ?_ ?_; rotate_left
            · rintro w' ⟨s0, s1, s2, s3⟩; go_simp; with_reducible rfl
            rotate_left
            · simp only [Act.put,s_a,s_b,s_c,i64_w,i32_w]; rfl
            refine one_ (i := 21) (N := some 51) (bm 32 4194303) rfl rfl (by kernel_rfl) (by decide) (fun K hK => ?_); refine goes_ Try.func69 (by kernel_rfl) rfl #[.pointer (some ⟨d, 0, none⟩)] (by rfl) rfl rfl (by simp only [List.map_toArray, List.map_cons, List.map_nil]; rfl) ?_; refine (ref_used.calls (HAT2.out.below (below_drew1 (Below.refl _ _)))).mono ?_; rintro e w3 ⟨rfl, hb⟩; have HB3 := Aside0.mk (below_step (below_drew1 (Below.refl w2.heap.size w2)) hb); clear hb; refine ⟨_, rfl, ?_⟩; refine hK.out _ _ ⟨pw_cell_below HB3.out c0, pw_cell_below HB3.out c1, pw_cell_below HB3.out c5, pw_cell_below HB3.out k0⟩ (fun hHeld => ?_); clear hK K; refine norm_ (a' := ?_) ?_ ?_; rotate_left
            · show Act.put _ (some 51) _ = _; simp only [Act.put,s_a,s_b,s_c,i64_w,i32_w]; rfl
            refine pure_ (i := 22) (N := some 52) (v:=?_) (a':=?_) (bm 32 8388607) rfl rfl (by kernel_rfl) (fun _ _ _ h => h) (Or.inl ⟨by rfl, ?_⟩) ?_ ?_; rotate_left
            · intro w'; go_simp; with_reducible rfl
            rotate_left
            · simp only [Act.put,s_a,s_b,s_c,i64_w,i32_w]; rfl
            refine pure_ (i := 23) (N := some 53) (v:=?_) (a':=?_) (bm 32 16777215) rfl rfl (by kernel_rfl) (fun _ _ _ h => h) (Or.inl ⟨by rfl, ?_⟩) ?_ ?_; rotate_left
            · intro w'; go_simp; with_reducible rfl
            rotate_left
            · simp only [Act.put,s_a,s_b,s_c,i64_w,i32_w]; rfl
            refine pure_ (i := 24) (N := some 54) (v:=?_) (a':=?_) (bm 32 33554431) rfl rfl (by kernel_rfl) (fun _ _ _ h => h) (Or.inl ⟨by rfl, ?_⟩) ?_ ?_; rotate_left
            · intro w'; go_simp; with_reducible rfl
            rotate_left
            · simp only [Act.put,s_a,s_b,s_c,i64_w,i32_w]; rfl
            refine pure_ (i := 25) (N := some 55) (v:=?_) (a':=?_) (bm 32 67108863) rfl rfl (by kernel_rfl) (fun _ _ _ h => h) (Or.inl ⟨by rfl, ?_⟩) ?_ ?_; rotate_left
            · intro w'; go_simp; with_reducible rfl
            rotate_left
            · simp only [Act.put,s_a,s_b,s_c,i64_w,i32_w]; rfl
            refine pure_ (i := 26) (N := some 56) (v:=?_) (a':=?_) (bm 32 134217727) rfl rfl (by kernel_rfl) (fun _ _ _ h => h) (Or.inl ⟨by rfl, ?_⟩) ?_ ?_; rotate_left
            · intro w'; go_simp; with_reducible rfl
            rotate_left
            · simp only [Act.put,s_a,s_b,s_c,i64_w,i32_w]; rfl
            refine pure_ (i := 27) (N := some 57) (v:=?_) (a':=?_) (bm 32 268435455) rfl rfl (by kernel_rfl) (fun _ _ _ h => h) (Or.inl ⟨by rfl, ?_⟩) ?_ ?_; rotate_left
            · intro w'; go_simp; with_reducible rfl
            rotate_left
            · simp only [Act.put,s_a,s_b,s_c,i64_w,i32_w]; rfl
            refine pure_ (i := 28) (N := some 58) (v:=?_) (a':=?_) (bm 32 536870911) rfl rfl (by kernel_rfl) (fun _ _ _ h => h) (Or.inl ⟨by rfl, ?_⟩) ?_ ?_; rotate_left
            · intro w'; go_simp; with_reducible rfl
            rotate_left
            · simp only [Act.put,s_a,s_b,s_c,i64_w,i32_w]; rfl
            refine take_ (i := 29) (N := some 59) (v:=?_) (a':=?_) (bm 32 1073741823) rfl rfl (by kernel_rfl) (fun _ _ _ h => h) (Or.inl ⟨by rfl, ?_⟩) hHeld ?_ ?_; rotate_left
            · rintro w' ⟨s0, s1, s2, s3⟩; go_simp; with_reducible rfl
            rotate_left
            · simp only [Act.put,s_a,s_b,s_c,i64_w,i32_w]; rfl
            refine pure_ (i := 30) (N := some 60) (v:=?_) (a':=?_) (bm 32 2147483647) rfl rfl (by kernel_rfl) (fun _ _ _ h => h) (Or.inl ⟨by rfl, ?_⟩) ?_ ?_; rotate_left
            · intro w'; go_simp; with_reducible rfl
            rotate_left
            · simp only [Act.put,s_a,s_b,s_c,i64_w,i32_w]; rfl
            refine pure_ (i := 31) (N := some 61) (v:=?_) (a':=?_) (bm 32 4294967295) rfl rfl (by kernel_rfl) (fun _ _ _ h => h) (Or.inl ⟨by rfl, ?_⟩) ?_ ?_; rotate_left
            · intro w'; go_simp; with_reducible rfl
            rotate_left
            · simp only [Act.put,s_a,s_b,s_c,i64_w,i32_w]; rfl
            refine done_ (by kernel_rfl) ?_; go_wp2_with fail
            clear q1 q2 q3 k0 c0 c1 c5; have H3 := Aside0.mk (H2.out.below HB3.out); refine (ref_goes.calls H3.out HI.out.armB HOB.out).mono ?_; rintro x w4 ⟨rfl, h4, hk4⟩; have H4 := Aside0.mk h4; have HK3 : Aside0 (KeptL F w w3) := ⟨KeptL.of_below (below_step HB2.out HB3.out)⟩; have HK4 : Aside0 (KeptL F w w4) := ⟨HK3.out.trans (hk4.mono (fun k e => by rw [e]; exact H.out.fd))⟩; have HG := Aside0.mk (HI.out.goes HOB.out.2); obtain ⟨T, hT⟩ : ∃ T, T = (goes S).1 := ⟨_, rfl⟩; obtain ⟨g, hg⟩ : ∃ g, g = (goes S).2 := ⟨_, rfl⟩; rw [← hT] at H4 HG; rw [← hg] at HG; have hOP := HOP.out; rw [goes_eq, ← hT, ← hg] at hOP; replace HOP := Aside0.mk hOP; rw [← hg]; clear h4 hk4 hT hg hOP; by_cases hg0 : g = 0
            · subst hg0; have hOP := HOP.out; rw [if_pos rfl] at hOP; replace HOP := Aside0.mk hOP; clear hOP; have HCP : Aside0 (Kd.C kB w4 A p.length p) := ⟨C_keptL HCW.out HK4.out (fun ad e hl => HNF.out ad e hl)⟩; have hfil := H4.out.fil; rw [HG.out.2.1] at hfil; obtain ⟨af', A6, c6', hA, k0, k1, z0, z1, hk5, hC5, ⟨cells5, hb5⟩, hpl5, hF5, hsB, hsS⟩ := bod_own hfil j HJS.out
              cases hA
              rw [← HFJ.out] at k0 k1 hk5 hC5 hsB hsS; have HC5 := Aside0.mk hC5; rw [← HN5.out] at k0; have c1 := (blk_cell H4.out.blk 1).trans rfl; have HB5 : Aside0 (∃ cells, w4.heap[af.block]? = some (.cells cells 113 (0, 0))) := ⟨cells5, hb5⟩; have HPL5 := Aside0.mk hpl5; have HF5 := Aside0.mk hF5; have HSB := Aside0.mk hsB; have HGB : Aside0 (af.block < w4.heap.size) := ⟨blk_lt hb5⟩; have HIC := Aside0.mk (HI.out.append n p HPB.out); have hjS := HJS.out; clear hfil hk5 hC5 hb5 hpl5 hF5 hsB hsS k1 z1; go_upto_region 11 with (fail)
              refine start_ (n := 20) (S := fun w' => w'.cell? ⟨d, 1, none⟩ = some (.slice (some af) S.files.length cf) ∧ w'.cell? (af.add (j * 2)) = some (.slice A6 n5 c6')) (ds := [19]) (bm 20 0) (by kernel_rfl) rfl rfl ⟨c1, k0⟩ (fun hHeld => ?_); refine pure_ (i := 0) (N := some 66) (v:=?_) (a':=?_) (bm 20 1) rfl rfl (by kernel_rfl) (fun _ _ _ h => h) (Or.inl ⟨by rfl, ?_⟩) ?_ ?_; rotate_left
              · intro w'; go_simp; with_reducible rfl
              rotate_left
              · simp only [Act.put,s_a,s_b,s_c,i64_w,i32_w]; rfl
              refine pure_ (i := 1) (N := some 67) (v:=?_) (a':=?_) (bm 20 3) rfl rfl (by kernel_rfl) (fun _ _ _ h => h) (Or.inl ⟨by rfl, ?_⟩) ?_ ?_; rotate_left
              · intro w'; go_simp; with_reducible rfl
              rotate_left
              · simp only [Act.put,s_a,s_b,s_c,i64_w,i32_w]; rfl
              refine pure_ (i := 2) (N := some 68) (v:=?_) (a':=?_) (bm 20 7) rfl rfl (by kernel_rfl) (fun _ _ _ h => h) (Or.inl ⟨by rfl, ?_⟩) ?_ ?_; rotate_left
              · intro w'; go_simp; with_reducible rfl
              rotate_left
              · simp only [Act.put,s_a,s_b,s_c,i64_w,i32_w]; rfl
              refine pure_ (i := 4) (N := some 70) (v:=?_) (a':=?_) (bm 20 23) rfl rfl (by kernel_rfl) (fun _ _ _ h => h) (Or.inl ⟨by rfl, ?_⟩) ?_ ?_; rotate_left
              · intro w'; go_simp; with_reducible rfl
              rotate_left
              · simp only [Act.put,s_a,s_b,s_c,i64_w,i32_w]; rfl
              refine pure_ (i := 6) (N := some 72) (v:=?_) (a':=?_) (bm 20 87) rfl rfl (by kernel_rfl) (fun _ _ _ h => h) (Or.inl ⟨by rfl, ?_⟩) ?_ ?_; rotate_left
              · intro w'; go_simp; with_reducible rfl
              rotate_left
              · simp only [Act.put,s_a,s_b,s_c,i64_w,i32_w]; rfl
              refine pure_ (i := 7) (N := some 73) (v:=?_) (a':=?_) (bm 20 215) rfl rfl (by kernel_rfl) (fun _ _ _ h => h) (Or.inl ⟨by rfl, ?_⟩) ?_ ?_; rotate_left
              · intro w'; go_simp; with_reducible rfl
              rotate_left
              · simp only [Act.put,s_a,s_b,s_c,i64_w,i32_w]; rfl
              refine pure_ (i := 8) (N := some 74) (v:=?_) (a':=?_) (bm 20 471) rfl rfl (by kernel_rfl) (fun _ _ _ h => h) (Or.inl ⟨by rfl, ?_⟩) ?_ ?_; rotate_left
              · intro w'; go_simp; with_reducible rfl
              rotate_left
              · simp only [Act.put,s_a,s_b,s_c,i64_w,i32_w]; rfl
              refine pure_ (i := 10) (N := some 76) (v:=?_) (a':=?_) (bm 20 1495) rfl rfl (by kernel_rfl) (fun _ _ _ h => h) (Or.inl ⟨by rfl, ?_⟩) ?_ ?_; rotate_left
              · intro w'; go_simp; with_reducible rfl
              rotate_left
              · simp only [Act.put,s_a,s_b,s_c,i64_w,i32_w]; rfl
              refine pure_ (i := 15) (N := some 81) (v:=?_) (a':=?_) (bm 20 34263) rfl rfl (by kernel_rfl) (fun _ _ _ h => h) (Or.inl ⟨by rfl, ?_⟩) ?_ ?_; rotate_left
              · intro w'; go_simp; with_reducible rfl
              rotate_left
              · simp only [Act.put,s_a,s_b,s_c,i64_w,i32_w]; rfl
              refine take_ (i := 3) (N := some 69) (v:=?_) (a':=?_) (bm 20 34271) rfl rfl (by kernel_rfl) (fun _ _ _ h => h) (Or.inl ⟨by rfl, ?_⟩) hHeld ?_ ?_; rotate_left
              · rintro w' ⟨s0, s1⟩; go_simp; with_reducible rfl
              rotate_left
              · simp only [Act.put,s_a,s_b,s_c,i64_w,i32_w]; rfl
              refine take_ (i := 9) (N := some 75) (v:=?_) (a':=?_) (bm 20 34783) rfl rfl (by kernel_rfl) (fun _ _ _ h => h) (Or.inl ⟨by rfl, ?_⟩) hHeld ?_ ?_; rotate_left
              · rintro w' ⟨s0, s1⟩; go_simp; with_reducible rfl
              rotate_left
              · simp only [Act.put,s_a,s_b,s_c,i64_w,i32_w]; rfl
              refine pure_ (i := 11) (N := some 77) (v:=?_) (a':=?_) (bm 20 36831) rfl rfl (by kernel_rfl) (fun _ _ _ h => h) (Or.inl ⟨by rfl, ?_⟩) ?_ ?_; rotate_left
              · intro w'; go_simp; with_reducible rfl
              rotate_left
              · simp only [Act.put,s_a,s_b,s_c,i64_w,i32_w]; rfl
              refine pure_ (i := 12) (N := some 78) (v:=?_) (a':=?_) (bm 20 40927) rfl rfl (by kernel_rfl) (fun _ _ _ h => h) (Or.inl ⟨by rfl, ?_⟩) ?_ ?_; rotate_left
              · intro w'; go_simp; with_reducible rfl
              rotate_left
              · simp only [Act.put,s_a,s_b,s_c,i64_w,i32_w]; rfl
              refine take_ (i := 13) (N := some 79) (v:=?_) (a':=?_) (bm 20 49119) rfl rfl (by kernel_rfl) (fun _ _ _ h => h) (Or.inl ⟨by rfl, ?_⟩) hHeld ?_ ?_; rotate_left
              · rintro w' ⟨s0, s1⟩; go_simp; with_reducible rfl
              rotate_left
              · simp only [Act.put,s_a,s_b,s_c,i64_w,i32_w]; rfl
              refine one_ (i := 5) (N := some 71) (bm 20 49151) rfl rfl (by kernel_rfl) (by decide) (fun K hK => ?_); refine Kd.R_lit_step (Kd.int .u8) (w0 := w4) w4.heap.size 5 (by rfl) rfl (xs := ([] : List Int)) (inner := []) (ok := fun _ => True) (okp := fun _ => True) ?hr (Reps.none _ _) (fun _ hk => hk) trivial (below_drew1 (Below.refl _ _)) (Nat.le_refl _) (by simp) ?_
              case hr => first | (go_simp; done) | (go_simp; rfl)
              intro v7 w7 ho7 hb7 hg7 hn7; have HO7 := Aside0.mk ho7; have HB7 := Aside0.mk hb7; clear ho7 hb7 hg7 hn7; refine hK.out _ _ ⟨pw_cell_below HB7.out c1, pw_cell_below HB7.out k0⟩ (fun hHeld => ?_); clear hK K; refine norm_ (a' := ?_) ?_ ?_; rotate_left
              · show Act.put _ (some 71) _ = _; simp only [Act.put,s_a,s_b,s_c,i64_w,i32_w]; rfl
              refine one_ (i := 14) (N := some 80) (bm 20 65535) rfl rfl (by kernel_rfl) (by decide) (fun K hK => ?_); refine Kd.R_append_rows_step (Kd.int .u8) (w0 := w4) w4.heap.size (by rfl) (.tmp 71) (.tmp 79) 53 5 (.int .u8 0) 1 rfl Try.underlying53 infoB rfl (by decide) (by decide) v7 ([] : List Int) fj.1 A6 n5 c6' (fun _ => True) (fun _ => False) rfl rfl HO7.out (HN5.out ▸ Kd.C_below HC5.out HB7.out) (fun _ _ h => h) (fun _ h => h.elim) (fun _ _ => trivial) HB7.out HB7.out.size (by simp only [List.length_nil]; have := HBD.out; have := HN5.out; omega) ?_; intro v8 w8 ho8 hb8 hg8 hat8; rw [List.nil_append] at ho8; have HO8 := Aside0.mk ho8; have HB8 := Aside0.mk hb8; clear ho8 hb8 hg8 hat8; refine hK.out _ _ ⟨pw_cell_below HB8.out c1, pw_cell_below HB8.out k0⟩ (fun hHeld => ?_); clear hK K; refine norm_ (a' := ?_) ?_ ?_; rotate_left
              · show Act.put _ (some 80) _ = _; simp only [Act.put,s_a,s_b,s_c,i64_w,i32_w]; rfl
              refine one_ (i := 16) (N := some 82) (bm 20 131071) rfl rfl (by kernel_rfl) (by decide) (fun K hK => ?_); refine Kd.R_append_rows_step (Kd.int .u8) (w0 := w4) w4.heap.size (by rfl) (.tmp 80) (.tmp 81) 53 5 (.int .u8 0) 1 rfl Try.underlying53 infoB rfl (by decide) (by decide) v8 fj.1 p A L c (fun _ => True) (fun _ => False) rfl rfl HO8.out (HL.out ▸ Kd.C_below HCP.out HB8.out) (fun _ _ h => h) (fun _ h => h.elim) (fun _ _ => trivial) HB8.out HB8.out.size (by have := HBD.out; have := HL.out; omega) ?_; intro v9 w9 ho9 hb9 hg9 hat9; obtain ⟨A9, c9, hv9⟩ := Kd.R_slice ho9; obtain ⟨n9, hn9⟩ : ∃ n9, n9 = (fj.1 ++ p).length := ⟨_, rfl⟩; rw [← hn9] at hv9; clear hn9; subst hv9; have HO9 := Aside0.mk ho9; have HB9 := Aside0.mk hb9; have x0 := pw_cell_below HB9.out k0; have H9 := Aside0.mk (H4.out.below HB9.out); have xz0 := bod_frozen (j := j) HPL5.out HB5.out HGB.out HB9.out; clear ho9 hb9 hg9 hat9; refine hK.out _ _ ⟨pw_cell_below HB9.out c1, pw_cell_below HB9.out k0⟩ (fun hHeld => ?_); clear hK K; refine norm_ (a' := ?_) ?_ ?_; rotate_left
              · show Act.put _ (some 82) _ = _; simp only [Act.put,s_a,s_b,s_c,i64_w,i32_w]; rfl
              refine pure_ (i := 17) (N := some 83) (v:=?_) (a':=?_) (bm 20 262143) rfl rfl (by kernel_rfl) (fun _ _ _ h => h) (Or.inl ⟨by rfl, ?_⟩) ?_ ?_; rotate_left
              · intro w'; go_simp; with_reducible rfl
              rotate_left
              · simp only [Act.put,s_a,s_b,s_c,i64_w,i32_w]; rfl
              refine pure_ (i := 18) (N := some 84) (v:=?_) (a':=?_) (bm 20 524287) rfl rfl (by kernel_rfl) (fun _ _ _ h => h) (Or.inl ⟨by rfl, ?_⟩) ?_ ?_; rotate_left
              · intro w'; go_simp; with_reducible rfl
              rotate_left
              · simp only [Act.put,s_a,s_b,s_c,i64_w,i32_w]; rfl
              refine last_ (i := 19) (N := none) (bm 20 1048575) rfl rfl (by kernel_rfl) (by decide) (fun K hK => ?_); refine skip_ (w1 := w9.setCell (af.add (j * 2)) (.slice A9 n9 c9)) (by rfl) rfl ?_ ?_
              · go_simp
                try rfl
              refine hK.out _ _ ?_; clear hK K; refine done_ (by kernel_rfl) ?_; obtain ⟨w5, hw5⟩ : ∃ w5, w5 = w9.setCell (af.add (j * 2)) (.slice A9 n9 c9) := ⟨_, rfl⟩; rw [← hw5]
              have HFIN : Aside0 (RskAt w5 (grow F w w5) d (opAppend S n p).1 ∧ KeptL F w w5) := ⟨by
                have hpl := HPL5.out; have hw5' : w5 = w9.setCell ⟨af.block, j * 2, none⟩ (.slice A9 n9 c9) := by rw [hw5, hpl, add_two]
                have hfr : Kd.R kBd 113 w5 0 (fun k => F k ∨ w.heap.size ≤ k) (.slice (some af) S.files.length cf) (S.files.set j (fj.1 ++ p, fj.2)) := by
                  have hfil := Kd.R_mono H9.out.fil (ok' := fun k => F k ∨ w.heap.size ≤ k) (fun k hk => .inl hk); rw [HG.out.2.1] at hfil; obtain ⟨af', _, _, hA', _, _, _, _, _, _, _, _, _, hB', _⟩ := bod_own hfil j HJS.out
                  cases hA'
                  have := hB' w5 (.slice A9 n9 c9) (fj.1 ++ p) (fun k => w4.heap.size ≤ k) (Kd.R_lower (Kd.R_mono (Kd.R_bound HO9.out) (fun k hk => hk.2.1)) (Nat.zero_le _)) (fun k hk => ⟨.inr (Nat.le_trans HK4.out.size hk), by have := HGB.out; omega⟩) hw5; rw [← HFJ.out] at this; exact this
                obtain ⟨cells, hcb⟩ := HB5.out
                have hm := RskM.setRow (S' := setFil T en.2 ((fileOf S en.2).1 ++ p, (fileOf S en.2).2)) (H9.out.wide (G := fun k => F k ∨ w.heap.size ≤ k) (fun k hk => .inl hk)) (q := j * 2) (g := af.block) ((HB9.out.block _ HGB.out).trans hcb) hw5' (by
                  show Kd.R kBd _ w5 0 _ _ (T.files.set en.2.toNat _); rw [HG.out.2.1, HJN.out, HFO.out]; exact hfr) rfl rfl rfl rfl rfl rfl rfl
                have hk : KeptL F w w5 := by
                  rw [hw5']; exact (HK4.out.step HB9.out).setCell _ _ (.inl HF5.out)
                have hi := HIC.out; rw [HOP.out] at hi; rw [HOP.out]; exact RskM.fin hi HLT.out hk hm⟩
              clear hw5 x0 xz0 z0 k0 c1; go_wp2_with fail
              go_ret; exact ⟨by rw [HOP.out]; rfl, HFIN.out⟩
            · have bg : (g == 0) = false := beq_eq_false_iff_ne.mpr hg0; have hOP := HOP.out; rw [if_neg hg0] at hOP; replace HOP := Aside0.mk hOP; clear hOP hg0; go_wp2_with fail
              go_ret; rw [HOP.out]; exact ⟨rfl, RskM.fin HG.out.1 HLT.out HK4.out (H4.out.wide (fun k hk => .inl hk))⟩
end Go.Proofs.Ytdekcjopgnfmdaa.Hand
