/- Disk: the program's Append. -/
import Derived.Test.YtdekcjopgnfmdaaDskJ
namespace Go.Proofs.Ytdekcjopgnfmdaa.Hand
open Go.RowKit Go.Maps Go.Proofs.YtdekcjopgnfmdaaW.PrintWords Go.Proofs.YtdekcjopgnfmdaaW.PrintLast Go.Proofs.YtdekcjopgnfmdaaW.PrintMore Go.Proofs.Ytdekcjopgnfmdaa.Q
set_option linter.unusedVariables false
set_option linter.unusedSimpArgs false
theorem infoB : (Try.prog.info? 5).map (fun i => (i.zero, i.size, i.bytes)) = some (some (.int .u8 0), 1, 1) := by kernel_rfl
theorem C_keptL {w w' : World} {G : Nat → Prop} {A : Option Addr} {n : Nat} {p : List Int} (h : Kd.C kB w A n p) (hk : KeptL G w w') (hA : ∀ ad, A = some ad → 0 < n → ¬ G ad.block) : Kd.C kB w' A n p :=
  ⟨h.1, h.2.1, fun hn => by
    obtain ⟨ad, he, hc⟩ := h.2.2 hn; refine ⟨ad, he, fun j x hj => ?_⟩; obtain ⟨cs, h1, h2, h3⟩ := hc j x hj; refine ⟨cs, h1, h2, fun i u hu => ?_⟩; have h4 := h3 i u hu; have := hk.block _ (World.block_lt_of_cell? w _ h4) (by rw [add_block]; exact hA ad he hn)
    simpa [World.cell?, this] using h4⟩
theorem opAppend_full {S : DS} {n : ByteArray} {p : List Int} {en : Ent} (hd : S.dead = false) (hh : has S.dir n = some en) (ho : ((fileOf S en.2).1.length : Int) + p.length > 4194304 ∨ (p.length : Int) > S.room - used S ∨ S.ops ≥ 1048576) : opAppend S n p = (S, 5) := by
  unfold opAppend; rw [hd, if_neg (by decide), hh]; simp only; rw [if_pos ho]
theorem opAppend_goes {S : DS} {n : ByteArray} {p : List Int} {en : Ent} (hd : S.dead = false) (hh : has S.dir n = some en) (ho : ¬ (((fileOf S en.2).1.length : Int) + p.length > 4194304 ∨ (p.length : Int) > S.room - used S ∨ S.ops ≥ 1048576)) : opAppend S n p = ifGoes S fun T => setFil T en.2 ((fileOf S en.2).1 ++ p, (fileOf S en.2).2) := by
  unfold opAppend; rw [hd, if_neg (by decide), hh]; simp only; rw [if_neg ho]
set_option maxHeartbeats 2000000 in
set_option maxRecDepth 100000 in
theorem disk_Append.calls {w : World} {F : Nat → Prop} {d : Nat} {S : DS} (h : DskAt w F d S) (n : ByteArray) (hn : n.size ≤ 9223372036854775807) (A : Option Addr) (c : Nat) (p : List Int) (hC : Kd.C kB w A p.length p) (hpb : ∀ x, x ∈ p → 0 ≤ x ∧ x ≤ 255) (hpl : (p.length : Int) ≤ 1073741824) (hnf : ∀ ad, A = some ad → 0 < p.length → ¬ F ad.block) :
    Calls Try.prog 39 #[.pointer (some ⟨d, 0, none⟩), .string n, .slice A p.length c] w fun e w' => e = .returned (.int .i64 (opAppend S n p).2) ∧ DskAt w' (grow F w w') d (opAppend S n p).1 ∧ KeptL F w w' := by
  have HA := Aside0.mk h; obtain ⟨hI, md, ms, vf, vc, fm, h1⟩ := h; have c8 := (blk_cell h1.blk 8).trans rfl; have HN := Aside0.mk hn; have HCW := Aside0.mk hC; have HPB := Aside0.mk hpb; have HPL := Aside0.mk hpl; have HNF := Aside0.mk hnf; clear hC hpb hpl hnf; have HI := Aside0.mk hI; have H := Aside0.mk h1
  cases hd : S.dead with
  | true =>
    rw [hd] at c8; have HOP : Aside0 (opAppend S n p = (S, 51)) := ⟨by unfold opAppend; rw [hd]; rfl⟩; clear h1 hd hI; go_enter Try.func39, Try.ntmps39
    go_wp2_with fail
    go_ret; rw [HOP.out]; exact ⟨rfl, HA.out.unmoved (Below.refl _ _)⟩
  | false =>
    rw [hd] at c8; have HDD := Aside0.mk hd; clear h1 hd hI; go_enter Try.func39, Try.ntmps39
    go_wp2_with fail
    refine (disk_find.calls H.out (fun e he => ⟨(HI.out.okD e he).1, (HI.out.okD e he).2.1⟩) n HN.out).mono ?_; rintro x w2 ⟨rfl, ⟨hh, rfl⟩ | ⟨en, hh, rfl⟩⟩
    · have HOP : Aside0 (opAppend S n p = (S, 7)) := ⟨by unfold opAppend; rw [HDD.out, hh]; rfl⟩; clear hh; go_wp2_with fail
      go_ret; rw [HOP.out]; exact ⟨rfl, HA.out.unmoved (Below.refl _ _)⟩
    · have HH := Aside0.mk hh; have hen := HI.out.okD en (has_some HH.out).1; obtain ⟨j, hj⟩ : ∃ j : Nat, (j : Int) = en.2 := ⟨en.2.toNat, by omega⟩; have hjS : j < S.files.length := by omega
      obtain ⟨b5, hbb⟩ : ∃ b5, b5 = (fm.getD j fm0).1 := ⟨_, rfl⟩; rw [show en.2.toNat = j by omega, ← hbb]; obtain ⟨fj, hfj⟩ : ∃ fj, fj = S.files.getD j ([], 0) := ⟨_, rfl⟩; have hfo : fileOf S en.2 = fj := by unfold fileOf; rw [hfj, show en.2.toNat = j by omega]
      have HFO := Aside0.mk hfo; have hfl := HI.out.fil _ (fileOf_mem hen.1 hen.2.1); rw [hfo] at hfl; have HBB := Aside0.mk hbb; have HFJ := Aside0.mk hfj; have HJS := Aside0.mk hjS; have HJE := Aside0.mk hj; obtain ⟨A5, c5, _, hb5, _, _⟩ := H.out.fileCell j hjS; rw [← hfj, ← hbb] at hb5; obtain ⟨n5, hn5⟩ : ∃ n5, n5 = fj.1.length := ⟨_, rfl⟩; rw [← hn5] at hb5 hfl; have k0 := (blk_cell hb5 0).trans rfl; have c0 := (blk_cell H.out.blk 0).trans rfl; have c1 := (blk_cell H.out.blk 1).trans rfl; have c6 := (blk_cell H.out.blk 6).trans rfl; have hub := HI.out.usedB; have hrb := HI.out.roomB; have hpl := HPL.out; have e1 : wrap64 ((n5 : Int) + (p.length : Int)) = (n5 : Int) + (p.length : Int) := w64L (by omega) (by omega); have e2 : wrap64 (S.room - used S) = S.room - used S := w64L (by omega) (by omega); clear hh hb5 hen hj hjS hbb hfj; by_cases t1 : (n5 : Int) + (p.length : Int) > 4194304
      · have q1 : decide (wrap64 ((n5 : Int) + (p.length : Int)) > 4194304) = true := by rw [e1]; exact decide_eq_true t1
        have hX : (fj.1.length : Int) + p.length > 4194304 := by omega
        have HOP : Aside0 (opAppend S n p = (S, 5)) := ⟨opAppend_full HDD.out HH.out (.inl (by rw [hfo]; exact hX))⟩; clear hfo t1 hX hfl hub hrb hpl e1 e2 hn5; go_wp2_with fail
        refine start_ (n := 31) (S := fun w' => w'.cell? ⟨b5, 0, none⟩ = some (.slice A5 n5 c5) ∧ w'.cell? ⟨d, 0, none⟩ = some (.int .i64 S.room) ∧ w'.cell? ⟨d, 1, none⟩ = some (.int .i64 (used S)) ∧ w'.cell? ⟨d, 6, none⟩ = some (.int .i64 S.ops)) (ds := []) (bm 31 0) (by kernel_rfl) rfl rfl ⟨k0, c0, c1, c6⟩ (fun hHeld => ?_); refine pure_ (i := 0) (N := some 24) (v:=?_) (a':=?_) (bm 31 1) rfl rfl (by kernel_rfl) (fun _ _ _ h => h) (Or.inl ⟨by rfl, ?_⟩) ?_ ?_; rotate_left
        · intro w'; go_simp; with_reducible rfl
        rotate_left
        · simp only [Act.put,s_a,s_b,s_c,i64_w,i32_w]; rfl
        refine pure_ (i := 1) (N := some 25) (v:=?_) (a':=?_) (bm 31 3) rfl rfl (by kernel_rfl) (fun _ _ _ h => h) (Or.inl ⟨by rfl, ?_⟩) ?_ ?_; rotate_left
        · intro w'; go_simp; with_reducible rfl
        rotate_left
        · simp only [Act.put,s_a,s_b,s_c,i64_w,i32_w]; rfl
        refine pure_ (i := 2) (N := some 26) (v:=?_) (a':=?_) (bm 31 7) rfl rfl (by kernel_rfl) (fun _ _ _ h => h) (Or.inl ⟨by rfl, ?_⟩) ?_ ?_; rotate_left
        · intro w'; go_simp; with_reducible rfl
        rotate_left
        · simp only [Act.put,s_a,s_b,s_c,i64_w,i32_w]; rfl
        refine pure_ (i := 5) (N := some 29) (v:=?_) (a':=?_) (bm 31 39) rfl rfl (by kernel_rfl) (fun _ _ _ h => h) (Or.inl ⟨by rfl, ?_⟩) ?_ ?_; rotate_left
        · intro w'; go_simp; with_reducible rfl
        rotate_left
        · simp only [Act.put,s_a,s_b,s_c,i64_w,i32_w]; rfl
        refine pure_ (i := 6) (N := some 30) (v:=?_) (a':=?_) (bm 31 103) rfl rfl (by kernel_rfl) (fun _ _ _ h => h) (Or.inl ⟨by rfl, ?_⟩) ?_ ?_; rotate_left
        · intro w'; go_simp; with_reducible rfl
        rotate_left
        · simp only [Act.put,s_a,s_b,s_c,i64_w,i32_w]; rfl
        refine take_ (i := 3) (N := some 27) (v:=?_) (a':=?_) (bm 31 111) rfl rfl (by kernel_rfl) (fun _ _ _ h => h) (Or.inl ⟨by rfl, ?_⟩) hHeld ?_ ?_; rotate_left
        · rintro w' ⟨s0, s1, s2, s3⟩; go_simp; with_reducible rfl
        rotate_left
        · simp only [Act.put,s_a,s_b,s_c,i64_w,i32_w]; rfl
        refine pure_ (i := 4) (N := some 28) (v:=?_) (a':=?_) (bm 31 127) rfl rfl (by kernel_rfl) (fun _ _ _ h => h) (Or.inl ⟨by rfl, ?_⟩) ?_ ?_; rotate_left
        · intro w'; go_simp; with_reducible rfl
        rotate_left
        · simp only [Act.put,s_a,s_b,s_c,i64_w,i32_w]; rfl
        refine pure_ (i := 7) (N := some 31) (v:=?_) (a':=?_) (bm 31 255) rfl rfl (by kernel_rfl) (fun _ _ _ h => h) (Or.inl ⟨by rfl, ?_⟩) ?_ ?_; rotate_left
        · intro w'; go_simp; with_reducible rfl
        rotate_left
        · simp only [Act.put,s_a,s_b,s_c,i64_w,i32_w]; rfl
        refine pure_ (i := 8) (N := some 32) (v:=?_) (a':=?_) (bm 31 511) rfl rfl (by kernel_rfl) (fun _ _ _ h => h) (Or.inl ⟨by rfl, ?_⟩) ?_ ?_; rotate_left
        · intro w'; go_simp; with_reducible rfl
        rotate_left
        · simp only [Act.put,s_a,s_b,s_c,i64_w,i32_w]; rfl
        refine pure_ (i := 9) (N := some 33) (v:=?_) (a':=?_) (bm 31 1023) rfl rfl (by kernel_rfl) (fun _ _ _ h => h) (Or.inl ⟨by rfl, ?_⟩) ?_ ?_; rotate_left
        · intro w'; go_simp; with_reducible rfl
        rotate_left
        · simp only [Act.put,s_a,s_b,s_c,i64_w,i32_w]; rfl
        refine pure_ (i := 10) (N := some 34) (v := undef) (a' := ?_) (bm 31 2047) rfl rfl (by kernel_rfl) (fun _ _ _ h => h) (Or.inr ⟨by rfl, rfl⟩) ?_ ?_; rotate_left
        · simp only [Act.put,s_a,s_b,s_c,i64_w,i32_w]; rfl
        refine pure_ (i := 11) (N := some 35) (v := undef) (a' := ?_) (bm 31 4095) rfl rfl (by kernel_rfl) (fun _ _ _ h => h) (Or.inr ⟨by rfl, rfl⟩) ?_ ?_; rotate_left
        · simp only [Act.put,s_a,s_b,s_c,i64_w,i32_w]; rfl
        refine pure_ (i := 12) (N := some 36) (v := undef) (a' := ?_) (bm 31 8191) rfl rfl (by kernel_rfl) (fun _ _ _ h => h) (Or.inr ⟨by rfl, rfl⟩) ?_ ?_; rotate_left
        · simp only [Act.put,s_a,s_b,s_c,i64_w,i32_w]; rfl
        refine pure_ (i := 13) (N := some 37) (v := undef) (a' := ?_) (bm 31 16383) rfl rfl (by kernel_rfl) (fun _ _ _ h => h) (Or.inr ⟨by rfl, rfl⟩) ?_ ?_; rotate_left
        · simp only [Act.put,s_a,s_b,s_c,i64_w,i32_w]; rfl
        refine pure_ (i := 14) (N := some 38) (v := undef) (a' := ?_) (bm 31 32767) rfl rfl (by kernel_rfl) (fun _ _ _ h => h) (Or.inr ⟨by rfl, rfl⟩) ?_ ?_; rotate_left
        · simp only [Act.put,s_a,s_b,s_c,i64_w,i32_w]; rfl
        refine pure_ (i := 15) (N := some 39) (v := undef) (a' := ?_) (bm 31 65535) rfl rfl (by kernel_rfl) (fun _ _ _ h => h) (Or.inr ⟨by rfl, rfl⟩) ?_ ?_; rotate_left
        · simp only [Act.put,s_a,s_b,s_c,i64_w,i32_w]; rfl
        refine pure_ (i := 16) (N := some 40) (v := undef) (a' := ?_) (bm 31 131071) rfl rfl (by kernel_rfl) (fun _ _ _ h => h) (Or.inr ⟨by rfl, rfl⟩) ?_ ?_; rotate_left
        · simp only [Act.put,s_a,s_b,s_c,i64_w,i32_w]; rfl
        refine pure_ (i := 17) (N := some 41) (v := undef) (a' := ?_) (bm 31 262143) rfl rfl (by kernel_rfl) (fun _ _ _ h => h) (Or.inr ⟨by rfl, rfl⟩) ?_ ?_; rotate_left
        · simp only [Act.put,s_a,s_b,s_c,i64_w,i32_w]; rfl
        refine pure_ (i := 18) (N := some 42) (v := undef) (a' := ?_) (bm 31 524287) rfl rfl (by kernel_rfl) (fun _ _ _ h => h) (Or.inr ⟨by rfl, rfl⟩) ?_ ?_; rotate_left
        · simp only [Act.put,s_a,s_b,s_c,i64_w,i32_w]; rfl
        refine pure_ (i := 19) (N := some 43) (v := undef) (a' := ?_) (bm 31 1048575) rfl rfl (by kernel_rfl) (fun _ _ _ h => h) (Or.inr ⟨by rfl, rfl⟩) ?_ ?_; rotate_left
        · simp only [Act.put,s_a,s_b,s_c,i64_w,i32_w]; rfl
        refine pure_ (i := 20) (N := some 44) (v := undef) (a' := ?_) (bm 31 2097151) rfl rfl (by kernel_rfl) (fun _ _ _ h => h) (Or.inr ⟨by rfl, rfl⟩) ?_ ?_; rotate_left
        · simp only [Act.put,s_a,s_b,s_c,i64_w,i32_w]; rfl
        refine pure_ (i := 21) (N := some 45) (v := undef) (a' := ?_) (bm 31 4194303) rfl rfl (by kernel_rfl) (fun _ _ _ h => h) (Or.inr ⟨by rfl, rfl⟩) ?_ ?_; rotate_left
        · simp only [Act.put,s_a,s_b,s_c,i64_w,i32_w]; rfl
        refine pure_ (i := 22) (N := some 46) (v:=?_) (a':=?_) (bm 31 8388607) rfl rfl (by kernel_rfl) (fun _ _ _ h => h) (Or.inl ⟨by rfl, ?_⟩) ?_ ?_; rotate_left
        · intro w'; go_simp; with_reducible rfl
        rotate_left
        · simp only [Act.put,s_a,s_b,s_c,i64_w,i32_w]; rfl
        refine pure_ (i := 23) (N := some 47) (v:=?_) (a':=?_) (bm 31 16777215) rfl rfl (by kernel_rfl) (fun _ _ _ h => h) (Or.inl ⟨by rfl, ?_⟩) ?_ ?_; rotate_left
        · intro w'; go_simp; with_reducible rfl
        rotate_left
        · simp only [Act.put,s_a,s_b,s_c,i64_w,i32_w]; rfl
        refine pure_ (i := 24) (N := some 48) (v := undef) (a' := ?_) (bm 31 33554431) rfl rfl (by kernel_rfl) (fun _ _ _ h => h) (Or.inr ⟨by rfl, rfl⟩) ?_ ?_; rotate_left
        · simp only [Act.put,s_a,s_b,s_c,i64_w,i32_w]; rfl
        refine pure_ (i := 25) (N := some 49) (v := undef) (a' := ?_) (bm 31 67108863) rfl rfl (by kernel_rfl) (fun _ _ _ h => h) (Or.inr ⟨by rfl, rfl⟩) ?_ ?_; rotate_left
        · simp only [Act.put,s_a,s_b,s_c,i64_w,i32_w]; rfl
        refine pure_ (i := 26) (N := some 50) (v := undef) (a' := ?_) (bm 31 134217727) rfl rfl (by kernel_rfl) (fun _ _ _ h => h) (Or.inr ⟨by rfl, rfl⟩) ?_ ?_; rotate_left
        · simp only [Act.put,s_a,s_b,s_c,i64_w,i32_w]; rfl
        refine pure_ (i := 27) (N := some 51) (v := undef) (a' := ?_) (bm 31 268435455) rfl rfl (by kernel_rfl) (fun _ _ _ h => h) (Or.inr ⟨by rfl, rfl⟩) ?_ ?_; rotate_left
        · simp only [Act.put,s_a,s_b,s_c,i64_w,i32_w]; rfl
        refine pure_ (i := 28) (N := some 52) (v := undef) (a' := ?_) (bm 31 536870911) rfl rfl (by kernel_rfl) (fun _ _ _ h => h) (Or.inr ⟨by rfl, rfl⟩) ?_ ?_; rotate_left
        · simp only [Act.put,s_a,s_b,s_c,i64_w,i32_w]; rfl
        refine pure_ (i := 29) (N := some 53) (v:=?_) (a':=?_) (bm 31 1073741823) rfl rfl (by kernel_rfl) (fun _ _ _ h => h) (Or.inl ⟨by rfl, ?_⟩) ?_ ?_; rotate_left
        · intro w'; go_simp; with_reducible rfl
        rotate_left
        · simp only [Act.put,s_a,s_b,s_c,i64_w,i32_w]; rfl
        refine pure_ (i := 30) (N := some 23) (v:=?_) (a':=?_) (bm 31 2147483647) rfl rfl (by kernel_rfl) (fun _ _ _ h => h) (Or.inl ⟨by rfl, ?_⟩) ?_ ?_; rotate_left
        · intro w'; go_simp; with_reducible rfl
        rotate_left
        · simp only [Act.put,s_a,s_b,s_c,i64_w,i32_w]; rfl
        refine done_ (by kernel_rfl) ?_; go_wp2_with fail
        go_ret; rw [HOP.out]; exact ⟨rfl, HA.out.unmoved (below_drew1 (Below.refl _ _))⟩
      · have q1 : decide (wrap64 ((n5 : Int) + (p.length : Int)) > 4194304) = false := by rw [e1]; exact decide_eq_false t1
        by_cases t2 : (p.length : Int) > S.room - used S
        · have q2 : decide ((p.length : Int) > wrap64 (S.room - used S)) = true := by rw [e2]; exact decide_eq_true t2
          have HOP : Aside0 (opAppend S n p = (S, 5)) := ⟨opAppend_full HDD.out HH.out (.inr (.inl t2))⟩; clear hfo t1 t2 hfl hub hrb hpl e1 e2 hn5; go_wp2_with fail
          refine start_ (n := 31) (S := fun w' => w'.cell? ⟨b5, 0, none⟩ = some (.slice A5 n5 c5) ∧ w'.cell? ⟨d, 0, none⟩ = some (.int .i64 S.room) ∧ w'.cell? ⟨d, 1, none⟩ = some (.int .i64 (used S)) ∧ w'.cell? ⟨d, 6, none⟩ = some (.int .i64 S.ops)) (ds := []) (bm 31 0) (by kernel_rfl) rfl rfl ⟨k0, c0, c1, c6⟩ (fun hHeld => ?_); refine pure_ (i := 0) (N := some 24) (v:=?_) (a':=?_) (bm 31 1) rfl rfl (by kernel_rfl) (fun _ _ _ h => h) (Or.inl ⟨by rfl, ?_⟩) ?_ ?_; rotate_left
          · intro w'; go_simp; with_reducible rfl
          rotate_left
          · simp only [Act.put,s_a,s_b,s_c,i64_w,i32_w]; rfl
          refine pure_ (i := 1) (N := some 25) (v:=?_) (a':=?_) (bm 31 3) rfl rfl (by kernel_rfl) (fun _ _ _ h => h) (Or.inl ⟨by rfl, ?_⟩) ?_ ?_; rotate_left
          · intro w'; go_simp; with_reducible rfl
          rotate_left
          · simp only [Act.put,s_a,s_b,s_c,i64_w,i32_w]; rfl
          refine pure_ (i := 2) (N := some 26) (v:=?_) (a':=?_) (bm 31 7) rfl rfl (by kernel_rfl) (fun _ _ _ h => h) (Or.inl ⟨by rfl, ?_⟩) ?_ ?_; rotate_left
          · intro w'; go_simp; with_reducible rfl
          rotate_left
          · simp only [Act.put,s_a,s_b,s_c,i64_w,i32_w]; rfl
          refine pure_ (i := 5) (N := some 29) (v:=?_) (a':=?_) (bm 31 39) rfl rfl (by kernel_rfl) (fun _ _ _ h => h) (Or.inl ⟨by rfl, ?_⟩) ?_ ?_; rotate_left
          · intro w'; go_simp; with_reducible rfl
          rotate_left
          · simp only [Act.put,s_a,s_b,s_c,i64_w,i32_w]; rfl
          refine pure_ (i := 6) (N := some 30) (v:=?_) (a':=?_) (bm 31 103) rfl rfl (by kernel_rfl) (fun _ _ _ h => h) (Or.inl ⟨by rfl, ?_⟩) ?_ ?_; rotate_left
          · intro w'; go_simp; with_reducible rfl
          rotate_left
          · simp only [Act.put,s_a,s_b,s_c,i64_w,i32_w]; rfl
          refine take_ (i := 3) (N := some 27) (v:=?_) (a':=?_) (bm 31 111) rfl rfl (by kernel_rfl) (fun _ _ _ h => h) (Or.inl ⟨by rfl, ?_⟩) hHeld ?_ ?_; rotate_left
          · rintro w' ⟨s0, s1, s2, s3⟩; go_simp; with_reducible rfl
          rotate_left
          · simp only [Act.put,s_a,s_b,s_c,i64_w,i32_w]; rfl
          refine pure_ (i := 4) (N := some 28) (v:=?_) (a':=?_) (bm 31 127) rfl rfl (by kernel_rfl) (fun _ _ _ h => h) (Or.inl ⟨by rfl, ?_⟩) ?_ ?_; rotate_left
          · intro w'; go_simp; with_reducible rfl
          rotate_left
          · simp only [Act.put,s_a,s_b,s_c,i64_w,i32_w]; rfl
          refine pure_ (i := 7) (N := some 31) (v:=?_) (a':=?_) (bm 31 255) rfl rfl (by kernel_rfl) (fun _ _ _ h => h) (Or.inl ⟨by rfl, ?_⟩) ?_ ?_; rotate_left
          · intro w'; go_simp; with_reducible rfl
          rotate_left
          · simp only [Act.put,s_a,s_b,s_c,i64_w,i32_w]; rfl
          refine pure_ (i := 8) (N := some 32) (v:=?_) (a':=?_) (bm 31 511) rfl rfl (by kernel_rfl) (fun _ _ _ h => h) (Or.inl ⟨by rfl, ?_⟩) ?_ ?_; rotate_left
          · intro w'; go_simp; with_reducible rfl
          rotate_left
          · simp only [Act.put,s_a,s_b,s_c,i64_w,i32_w]; rfl
          refine pure_ (i := 9) (N := some 33) (v:=?_) (a':=?_) (bm 31 1023) rfl rfl (by kernel_rfl) (fun _ _ _ h => h) (Or.inl ⟨by rfl, ?_⟩) ?_ ?_; rotate_left
          · intro w'; go_simp; with_reducible rfl
          rotate_left
          · simp only [Act.put,s_a,s_b,s_c,i64_w,i32_w]; rfl
          refine pure_ (i := 10) (N := some 34) (v:=?_) (a':=?_) (bm 31 2047) rfl rfl (by kernel_rfl) (fun _ _ _ h => h) (Or.inl ⟨by rfl, ?_⟩) ?_ ?_; rotate_left
          · intro w'; go_simp; with_reducible rfl
          rotate_left
          · simp only [Act.put,s_a,s_b,s_c,i64_w,i32_w]; rfl
          refine pure_ (i := 11) (N := some 35) (v:=?_) (a':=?_) (bm 31 4095) rfl rfl (by kernel_rfl) (fun _ _ _ h => h) (Or.inl ⟨by rfl, ?_⟩) ?_ ?_; rotate_left
          · intro w'; go_simp; with_reducible rfl
          rotate_left
          · simp only [Act.put,s_a,s_b,s_c,i64_w,i32_w]; rfl
          refine pure_ (i := 12) (N := some 36) (v:=?_) (a':=?_) (bm 31 8191) rfl rfl (by kernel_rfl) (fun _ _ _ h => h) (Or.inl ⟨by rfl, ?_⟩) ?_ ?_; rotate_left
          · intro w'; go_simp; with_reducible rfl
          rotate_left
          · simp only [Act.put,s_a,s_b,s_c,i64_w,i32_w]; rfl
          refine pure_ (i := 13) (N := some 37) (v:=?_) (a':=?_) (bm 31 16383) rfl rfl (by kernel_rfl) (fun _ _ _ h => h) (Or.inl ⟨by rfl, ?_⟩) ?_ ?_; rotate_left
          · intro w'; go_simp; with_reducible rfl
          rotate_left
          · simp only [Act.put,s_a,s_b,s_c,i64_w,i32_w]; rfl
          refine pure_ (i := 14) (N := some 38) (v:=?_) (a':=?_) (bm 31 32767) rfl rfl (by kernel_rfl) (fun _ _ _ h => h) (Or.inl ⟨by rfl, ?_⟩) ?_ ?_; rotate_left
          · intro w'; go_simp; with_reducible rfl
          rotate_left
          · simp only [Act.put,s_a,s_b,s_c,i64_w,i32_w]; rfl
          refine pure_ (i := 16) (N := some 40) (v:=?_) (a':=?_) (bm 31 98303) rfl rfl (by kernel_rfl) (fun _ _ _ h => h) (Or.inl ⟨by rfl, ?_⟩) ?_ ?_; rotate_left
          · intro w'; go_simp; with_reducible rfl
          rotate_left
          · simp only [Act.put,s_a,s_b,s_c,i64_w,i32_w]; rfl
          refine pure_ (i := 17) (N := some 41) (v:=?_) (a':=?_) (bm 31 229375) rfl rfl (by kernel_rfl) (fun _ _ _ h => h) (Or.inl ⟨by rfl, ?_⟩) ?_ ?_; rotate_left
          · intro w'; go_simp; with_reducible rfl
          rotate_left
          · simp only [Act.put,s_a,s_b,s_c,i64_w,i32_w]; rfl
          refine pure_ (i := 18) (N := some 42) (v:=?_) (a':=?_) (bm 31 491519) rfl rfl (by kernel_rfl) (fun _ _ _ h => h) (Or.inl ⟨by rfl, ?_⟩) ?_ ?_; rotate_left
          · intro w'; go_simp; with_reducible rfl
          rotate_left
          · simp only [Act.put,s_a,s_b,s_c,i64_w,i32_w]; rfl
          refine take_ (i := 15) (N := some 39) (v:=?_) (a':=?_) (bm 31 524287) rfl rfl (by kernel_rfl) (fun _ _ _ h => h) (Or.inl ⟨by rfl, ?_⟩) hHeld ?_ ?_; rotate_left
          · rintro w' ⟨s0, s1, s2, s3⟩; go_simp; with_reducible rfl
          rotate_left
          · simp only [Act.put,s_a,s_b,s_c,i64_w,i32_w]; rfl
          refine take_ (i := 19) (N := some 43) (v:=?_) (a':=?_) (bm 31 1048575) rfl rfl (by kernel_rfl) (fun _ _ _ h => h) (Or.inl ⟨by rfl, ?_⟩) hHeld ?_ ?_; rotate_left
          · rintro w' ⟨s0, s1, s2, s3⟩; go_simp; with_reducible rfl
          rotate_left
          · simp only [Act.put,s_a,s_b,s_c,i64_w,i32_w]; rfl
          refine pure_ (i := 20) (N := some 44) (v:=?_) (a':=?_) (bm 31 2097151) rfl rfl (by kernel_rfl) (fun _ _ _ h => h) (Or.inl ⟨by rfl, ?_⟩) ?_ ?_; rotate_left
          · intro w'; go_simp; with_reducible rfl
          rotate_left
          · simp only [Act.put,s_a,s_b,s_c,i64_w,i32_w]; rfl
          refine pure_ (i := 21) (N := some 45) (v:=?_) (a':=?_) (bm 31 4194303) rfl rfl (by kernel_rfl) (fun _ _ _ h => h) (Or.inl ⟨by rfl, ?_⟩) ?_ ?_; rotate_left
          · intro w'; go_simp; with_reducible rfl
          rotate_left
          · simp only [Act.put,s_a,s_b,s_c,i64_w,i32_w]; rfl
          refine pure_ (i := 22) (N := some 46) (v:=?_) (a':=?_) (bm 31 8388607) rfl rfl (by kernel_rfl) (fun _ _ _ h => h) (Or.inl ⟨by rfl, ?_⟩) ?_ ?_; rotate_left
          · intro w'; go_simp; with_reducible rfl
          rotate_left
          · simp only [Act.put,s_a,s_b,s_c,i64_w,i32_w]; rfl
          refine pure_ (i := 23) (N := some 47) (v:=?_) (a':=?_) (bm 31 16777215) rfl rfl (by kernel_rfl) (fun _ _ _ h => h) (Or.inl ⟨by rfl, ?_⟩) ?_ ?_; rotate_left
          · intro w'; go_simp; with_reducible rfl
          rotate_left
          · simp only [Act.put,s_a,s_b,s_c,i64_w,i32_w]; rfl
          refine pure_ (i := 24) (N := some 48) (v := undef) (a' := ?_) (bm 31 33554431) rfl rfl (by kernel_rfl) (fun _ _ _ h => h) (Or.inr ⟨by rfl, rfl⟩) ?_ ?_; rotate_left
          · simp only [Act.put,s_a,s_b,s_c,i64_w,i32_w]; rfl
          refine pure_ (i := 25) (N := some 49) (v := undef) (a' := ?_) (bm 31 67108863) rfl rfl (by kernel_rfl) (fun _ _ _ h => h) (Or.inr ⟨by rfl, rfl⟩) ?_ ?_; rotate_left
          · simp only [Act.put,s_a,s_b,s_c,i64_w,i32_w]; rfl
          refine pure_ (i := 26) (N := some 50) (v := undef) (a' := ?_) (bm 31 134217727) rfl rfl (by kernel_rfl) (fun _ _ _ h => h) (Or.inr ⟨by rfl, rfl⟩) ?_ ?_; rotate_left
          · simp only [Act.put,s_a,s_b,s_c,i64_w,i32_w]; rfl
          refine pure_ (i := 27) (N := some 51) (v := undef) (a' := ?_) (bm 31 268435455) rfl rfl (by kernel_rfl) (fun _ _ _ h => h) (Or.inr ⟨by rfl, rfl⟩) ?_ ?_; rotate_left
          · simp only [Act.put,s_a,s_b,s_c,i64_w,i32_w]; rfl
          refine pure_ (i := 28) (N := some 52) (v := undef) (a' := ?_) (bm 31 536870911) rfl rfl (by kernel_rfl) (fun _ _ _ h => h) (Or.inr ⟨by rfl, rfl⟩) ?_ ?_; rotate_left
          · simp only [Act.put,s_a,s_b,s_c,i64_w,i32_w]; rfl
          refine pure_ (i := 29) (N := some 53) (v:=?_) (a':=?_) (bm 31 1073741823) rfl rfl (by kernel_rfl) (fun _ _ _ h => h) (Or.inl ⟨by rfl, ?_⟩) ?_ ?_; rotate_left
          · intro w'; go_simp; with_reducible rfl
          rotate_left
          · simp only [Act.put,s_a,s_b,s_c,i64_w,i32_w]; rfl
          refine pure_ (i := 30) (N := some 23) (v:=?_) (a':=?_) (bm 31 2147483647) rfl rfl (by kernel_rfl) (fun _ _ _ h => h) (Or.inl ⟨by rfl, ?_⟩) ?_ ?_; rotate_left
          · intro w'; go_simp; with_reducible rfl
          rotate_left
          · simp only [Act.put,s_a,s_b,s_c,i64_w,i32_w]; rfl
          refine done_ (by kernel_rfl) ?_; go_wp2_with fail
          go_ret; rw [HOP.out]; exact ⟨rfl, HA.out.unmoved (below_drew1 (Below.refl _ _))⟩
        · have q2 : decide ((p.length : Int) > wrap64 (S.room - used S)) = false := by rw [e2]; exact decide_eq_false t2
          by_cases t3 : S.ops ≥ 1048576
          · have q3 : decide (S.ops ≥ 1048576) = true := decide_eq_true t3; have HOP : Aside0 (opAppend S n p = (S, 5)) := ⟨opAppend_full HDD.out HH.out (.inr (.inr t3))⟩; clear hfo t1 t2 t3 hfl hub hrb hpl e1 e2 hn5; go_wp2_with fail
            refine start_ (n := 31) (S := fun w' => w'.cell? ⟨b5, 0, none⟩ = some (.slice A5 n5 c5) ∧ w'.cell? ⟨d, 0, none⟩ = some (.int .i64 S.room) ∧ w'.cell? ⟨d, 1, none⟩ = some (.int .i64 (used S)) ∧ w'.cell? ⟨d, 6, none⟩ = some (.int .i64 S.ops)) (ds := []) (bm 31 0) (by kernel_rfl) rfl rfl ⟨k0, c0, c1, c6⟩ (fun hHeld => ?_); refine pure_ (i := 0) (N := some 24) (v:=?_) (a':=?_) (bm 31 1) rfl rfl (by kernel_rfl) (fun _ _ _ h => h) (Or.inl ⟨by rfl, ?_⟩) ?_ ?_; rotate_left
            · intro w'; go_simp; with_reducible rfl
            rotate_left
            · simp only [Act.put,s_a,s_b,s_c,i64_w,i32_w]; rfl
            refine pure_ (i := 1) (N := some 25) (v:=?_) (a':=?_) (bm 31 3) rfl rfl (by kernel_rfl) (fun _ _ _ h => h) (Or.inl ⟨by rfl, ?_⟩) ?_ ?_; rotate_left
            · intro w'; go_simp; with_reducible rfl
            rotate_left
            · simp only [Act.put,s_a,s_b,s_c,i64_w,i32_w]; rfl
            refine pure_ (i := 2) (N := some 26) (v:=?_) (a':=?_) (bm 31 7) rfl rfl (by kernel_rfl) (fun _ _ _ h => h) (Or.inl ⟨by rfl, ?_⟩) ?_ ?_; rotate_left
            · intro w'; go_simp; with_reducible rfl
            rotate_left
            · simp only [Act.put,s_a,s_b,s_c,i64_w,i32_w]; rfl
            refine pure_ (i := 5) (N := some 29) (v:=?_) (a':=?_) (bm 31 39) rfl rfl (by kernel_rfl) (fun _ _ _ h => h) (Or.inl ⟨by rfl, ?_⟩) ?_ ?_; rotate_left
            · intro w'; go_simp; with_reducible rfl
            rotate_left
            · simp only [Act.put,s_a,s_b,s_c,i64_w,i32_w]; rfl
            refine pure_ (i := 6) (N := some 30) (v:=?_) (a':=?_) (bm 31 103) rfl rfl (by kernel_rfl) (fun _ _ _ h => h) (Or.inl ⟨by rfl, ?_⟩) ?_ ?_; rotate_left
            · intro w'; go_simp; with_reducible rfl
            rotate_left
            · simp only [Act.put,s_a,s_b,s_c,i64_w,i32_w]; rfl
            refine take_ (i := 3) (N := some 27) (v:=?_) (a':=?_) (bm 31 111) rfl rfl (by kernel_rfl) (fun _ _ _ h => h) (Or.inl ⟨by rfl, ?_⟩) hHeld ?_ ?_; rotate_left
            · rintro w' ⟨s0, s1, s2, s3⟩; go_simp; with_reducible rfl
            rotate_left
            · simp only [Act.put,s_a,s_b,s_c,i64_w,i32_w]; rfl
            refine pure_ (i := 4) (N := some 28) (v:=?_) (a':=?_) (bm 31 127) rfl rfl (by kernel_rfl) (fun _ _ _ h => h) (Or.inl ⟨by rfl, ?_⟩) ?_ ?_; rotate_left
            · intro w'; go_simp; with_reducible rfl
            rotate_left
            · simp only [Act.put,s_a,s_b,s_c,i64_w,i32_w]; rfl
            refine pure_ (i := 7) (N := some 31) (v:=?_) (a':=?_) (bm 31 255) rfl rfl (by kernel_rfl) (fun _ _ _ h => h) (Or.inl ⟨by rfl, ?_⟩) ?_ ?_; rotate_left
            · intro w'; go_simp; with_reducible rfl
            rotate_left
            · simp only [Act.put,s_a,s_b,s_c,i64_w,i32_w]; rfl
            refine pure_ (i := 8) (N := some 32) (v:=?_) (a':=?_) (bm 31 511) rfl rfl (by kernel_rfl) (fun _ _ _ h => h) (Or.inl ⟨by rfl, ?_⟩) ?_ ?_; rotate_left
            · intro w'; go_simp; with_reducible rfl
            rotate_left
            · simp only [Act.put,s_a,s_b,s_c,i64_w,i32_w]; rfl
            refine pure_ (i := 9) (N := some 33) (v:=?_) (a':=?_) (bm 31 1023) rfl rfl (by kernel_rfl) (fun _ _ _ h => h) (Or.inl ⟨by rfl, ?_⟩) ?_ ?_; rotate_left
            · intro w'; go_simp; with_reducible rfl
            rotate_left
            · simp only [Act.put,s_a,s_b,s_c,i64_w,i32_w]; rfl
            refine pure_ (i := 10) (N := some 34) (v:=?_) (a':=?_) (bm 31 2047) rfl rfl (by kernel_rfl) (fun _ _ _ h => h) (Or.inl ⟨by rfl, ?_⟩) ?_ ?_; rotate_left
            · intro w'; go_simp; with_reducible rfl
            rotate_left
            · simp only [Act.put,s_a,s_b,s_c,i64_w,i32_w]; rfl
            refine pure_ (i := 11) (N := some 35) (v:=?_) (a':=?_) (bm 31 4095) rfl rfl (by kernel_rfl) (fun _ _ _ h => h) (Or.inl ⟨by rfl, ?_⟩) ?_ ?_; rotate_left
            · intro w'; go_simp; with_reducible rfl
            rotate_left
            · simp only [Act.put,s_a,s_b,s_c,i64_w,i32_w]; rfl
            refine pure_ (i := 12) (N := some 36) (v:=?_) (a':=?_) (bm 31 8191) rfl rfl (by kernel_rfl) (fun _ _ _ h => h) (Or.inl ⟨by rfl, ?_⟩) ?_ ?_; rotate_left
            · intro w'; go_simp; with_reducible rfl
            rotate_left
            · simp only [Act.put,s_a,s_b,s_c,i64_w,i32_w]; rfl
            refine pure_ (i := 13) (N := some 37) (v:=?_) (a':=?_) (bm 31 16383) rfl rfl (by kernel_rfl) (fun _ _ _ h => h) (Or.inl ⟨by rfl, ?_⟩) ?_ ?_; rotate_left
            · intro w'; go_simp; with_reducible rfl
            rotate_left
            · simp only [Act.put,s_a,s_b,s_c,i64_w,i32_w]; rfl
            refine pure_ (i := 14) (N := some 38) (v:=?_) (a':=?_) (bm 31 32767) rfl rfl (by kernel_rfl) (fun _ _ _ h => h) (Or.inl ⟨by rfl, ?_⟩) ?_ ?_; rotate_left
            · intro w'; go_simp; with_reducible rfl
            rotate_left
            · simp only [Act.put,s_a,s_b,s_c,i64_w,i32_w]; rfl
            refine pure_ (i := 16) (N := some 40) (v:=?_) (a':=?_) (bm 31 98303) rfl rfl (by kernel_rfl) (fun _ _ _ h => h) (Or.inl ⟨by rfl, ?_⟩) ?_ ?_; rotate_left
            · intro w'; go_simp; with_reducible rfl
            rotate_left
            · simp only [Act.put,s_a,s_b,s_c,i64_w,i32_w]; rfl
            refine pure_ (i := 17) (N := some 41) (v:=?_) (a':=?_) (bm 31 229375) rfl rfl (by kernel_rfl) (fun _ _ _ h => h) (Or.inl ⟨by rfl, ?_⟩) ?_ ?_; rotate_left
            · intro w'; go_simp; with_reducible rfl
            rotate_left
            · simp only [Act.put,s_a,s_b,s_c,i64_w,i32_w]; rfl
            refine pure_ (i := 18) (N := some 42) (v:=?_) (a':=?_) (bm 31 491519) rfl rfl (by kernel_rfl) (fun _ _ _ h => h) (Or.inl ⟨by rfl, ?_⟩) ?_ ?_; rotate_left
            · intro w'; go_simp; with_reducible rfl
            rotate_left
            · simp only [Act.put,s_a,s_b,s_c,i64_w,i32_w]; rfl
            refine take_ (i := 15) (N := some 39) (v:=?_) (a':=?_) (bm 31 524287) rfl rfl (by kernel_rfl) (fun _ _ _ h => h) (Or.inl ⟨by rfl, ?_⟩) hHeld ?_ ?_; rotate_left
            · rintro w' ⟨s0, s1, s2, s3⟩; go_simp; with_reducible rfl
            rotate_left
            · simp only [Act.put,s_a,s_b,s_c,i64_w,i32_w]; rfl
            refine take_ (i := 19) (N := some 43) (v:=?_) (a':=?_) (bm 31 1048575) rfl rfl (by kernel_rfl) (fun _ _ _ h => h) (Or.inl ⟨by rfl, ?_⟩) hHeld ?_ ?_; rotate_left
            · rintro w' ⟨s0, s1, s2, s3⟩; go_simp; with_reducible rfl
            rotate_left
            · simp only [Act.put,s_a,s_b,s_c,i64_w,i32_w]; rfl
            refine pure_ (i := 20) (N := some 44) (v:=?_) (a':=?_) (bm 31 2097151) rfl rfl (by kernel_rfl) (fun _ _ _ h => h) (Or.inl ⟨by rfl, ?_⟩) ?_ ?_; rotate_left
            · intro w'; go_simp; with_reducible rfl
            rotate_left
            · simp only [Act.put,s_a,s_b,s_c,i64_w,i32_w]; rfl
            refine pure_ (i := 21) (N := some 45) (v:=?_) (a':=?_) (bm 31 4194303) rfl rfl (by kernel_rfl) (fun _ _ _ h => h) (Or.inl ⟨by rfl, ?_⟩) ?_ ?_; rotate_left
            · intro w'; go_simp; with_reducible rfl
            rotate_left
            · simp only [Act.put,s_a,s_b,s_c,i64_w,i32_w]; rfl
            refine pure_ (i := 22) (N := some 46) (v:=?_) (a':=?_) (bm 31 8388607) rfl rfl (by kernel_rfl) (fun _ _ _ h => h) (Or.inl ⟨by rfl, ?_⟩) ?_ ?_; rotate_left
            · intro w'; go_simp; with_reducible rfl
            rotate_left
            · simp only [Act.put,s_a,s_b,s_c,i64_w,i32_w]; rfl
            refine pure_ (i := 23) (N := some 47) (v:=?_) (a':=?_) (bm 31 16777215) rfl rfl (by kernel_rfl) (fun _ _ _ h => h) (Or.inl ⟨by rfl, ?_⟩) ?_ ?_; rotate_left
            · intro w'; go_simp; with_reducible rfl
            rotate_left
            · simp only [Act.put,s_a,s_b,s_c,i64_w,i32_w]; rfl
            refine pure_ (i := 24) (N := some 48) (v:=?_) (a':=?_) (bm 31 33554431) rfl rfl (by kernel_rfl) (fun _ _ _ h => h) (Or.inl ⟨by rfl, ?_⟩) ?_ ?_; rotate_left
            · intro w'; go_simp; with_reducible rfl
            rotate_left
            · simp only [Act.put,s_a,s_b,s_c,i64_w,i32_w]; rfl
            refine pure_ (i := 25) (N := some 49) (v:=?_) (a':=?_) (bm 31 67108863) rfl rfl (by kernel_rfl) (fun _ _ _ h => h) (Or.inl ⟨by rfl, ?_⟩) ?_ ?_; rotate_left
            · intro w'; go_simp; with_reducible rfl
            rotate_left
            · simp only [Act.put,s_a,s_b,s_c,i64_w,i32_w]; rfl
            refine pure_ (i := 26) (N := some 50) (v:=?_) (a':=?_) (bm 31 134217727) rfl rfl (by kernel_rfl) (fun _ _ _ h => h) (Or.inl ⟨by rfl, ?_⟩) ?_ ?_; rotate_left
            · intro w'; go_simp; with_reducible rfl
            rotate_left
            · simp only [Act.put,s_a,s_b,s_c,i64_w,i32_w]; rfl
            refine take_ (i := 27) (N := some 51) (v:=?_) (a':=?_) (bm 31 268435455) rfl rfl (by kernel_rfl) (fun _ _ _ h => h) (Or.inl ⟨by rfl, ?_⟩) hHeld ?_ ?_; rotate_left
            · rintro w' ⟨s0, s1, s2, s3⟩; go_simp; with_reducible rfl
            rotate_left
            · simp only [Act.put,s_a,s_b,s_c,i64_w,i32_w]; rfl
            refine pure_ (i := 28) (N := some 52) (v:=?_) (a':=?_) (bm 31 536870911) rfl rfl (by kernel_rfl) (fun _ _ _ h => h) (Or.inl ⟨by rfl, ?_⟩) ?_ ?_; rotate_left
            · intro w'; go_simp; with_reducible rfl
            rotate_left
            · simp only [Act.put,s_a,s_b,s_c,i64_w,i32_w]; rfl
            refine pure_ (i := 29) (N := some 53) (v:=?_) (a':=?_) (bm 31 1073741823) rfl rfl (by kernel_rfl) (fun _ _ _ h => h) (Or.inl ⟨by rfl, ?_⟩) ?_ ?_; rotate_left
            · intro w'; go_simp; with_reducible rfl
            rotate_left
            · simp only [Act.put,s_a,s_b,s_c,i64_w,i32_w]; rfl
            refine pure_ (i := 30) (N := some 23) (v:=?_) (a':=?_) (bm 31 2147483647) rfl rfl (by kernel_rfl) (fun _ _ _ h => h) (Or.inl ⟨by rfl, ?_⟩) ?_ ?_; rotate_left
            · intro w'; go_simp; with_reducible rfl
            rotate_left
            · simp only [Act.put,s_a,s_b,s_c,i64_w,i32_w]; rfl
            refine done_ (by kernel_rfl) ?_; go_wp2_with fail
            go_ret; rw [HOP.out]; exact ⟨rfl, HA.out.unmoved (below_drew1 (Below.refl _ _))⟩
          · have q3 : decide (S.ops ≥ 1048576) = false := decide_eq_false t3; have HOB : Aside0 (0 ≤ S.ops ∧ S.ops < 1048576) := ⟨by have := HI.out.opsB; omega⟩; have HBD : Aside0 ((fj.1.length : Int) + p.length ≤ 4194304) := ⟨by omega⟩; have HOP : Aside0 (opAppend S n p = ifGoes S fun T => setFil T en.2 ((fileOf S en.2).1 ++ p, (fileOf S en.2).2)) := ⟨opAppend_goes HDD.out HH.out (by rw [hfo]; omega)⟩; clear hfo t1 t2 t3 hfl hub hrb hpl e1 e2 hn5; go_wp2_with fail
            refine start_ (n := 31) (S := fun w' => w'.cell? ⟨b5, 0, none⟩ = some (.slice A5 n5 c5) ∧ w'.cell? ⟨d, 0, none⟩ = some (.int .i64 S.room) ∧ w'.cell? ⟨d, 1, none⟩ = some (.int .i64 (used S)) ∧ w'.cell? ⟨d, 6, none⟩ = some (.int .i64 S.ops)) (ds := []) (bm 31 0) (by kernel_rfl) rfl rfl ⟨k0, c0, c1, c6⟩ (fun hHeld => ?_); refine pure_ (i := 0) (N := some 24) (v:=?_) (a':=?_) (bm 31 1) rfl rfl (by kernel_rfl) (fun _ _ _ h => h) (Or.inl ⟨by rfl, ?_⟩) ?_ ?_; rotate_left
            · intro w'; go_simp; with_reducible rfl
            rotate_left
            · simp only [Act.put,s_a,s_b,s_c,i64_w,i32_w]; rfl
            refine pure_ (i := 1) (N := some 25) (v:=?_) (a':=?_) (bm 31 3) rfl rfl (by kernel_rfl) (fun _ _ _ h => h) (Or.inl ⟨by rfl, ?_⟩) ?_ ?_; rotate_left
            · intro w'; go_simp; with_reducible rfl
            rotate_left
            · simp only [Act.put,s_a,s_b,s_c,i64_w,i32_w]; rfl
            refine pure_ (i := 2) (N := some 26) (v:=?_) (a':=?_) (bm 31 7) rfl rfl (by kernel_rfl) (fun _ _ _ h => h) (Or.inl ⟨by rfl, ?_⟩) ?_ ?_; rotate_left
            · intro w'; go_simp; with_reducible rfl
            rotate_left
            · simp only [Act.put,s_a,s_b,s_c,i64_w,i32_w]; rfl
            refine pure_ (i := 5) (N := some 29) (v:=?_) (a':=?_) (bm 31 39) rfl rfl (by kernel_rfl) (fun _ _ _ h => h) (Or.inl ⟨by rfl, ?_⟩) ?_ ?_; rotate_left
            · intro w'; go_simp; with_reducible rfl
            rotate_left
            · simp only [Act.put,s_a,s_b,s_c,i64_w,i32_w]; rfl
            refine pure_ (i := 6) (N := some 30) (v:=?_) (a':=?_) (bm 31 103) rfl rfl (by kernel_rfl) (fun _ _ _ h => h) (Or.inl ⟨by rfl, ?_⟩) ?_ ?_; rotate_left
            · intro w'; go_simp; with_reducible rfl
            rotate_left
            · simp only [Act.put,s_a,s_b,s_c,i64_w,i32_w]; rfl
            refine take_ (i := 3) (N := some 27) (v:=?_) (a':=?_) (bm 31 111) rfl rfl (by kernel_rfl) (fun _ _ _ h => h) (Or.inl ⟨by rfl, ?_⟩) hHeld ?_ ?_; rotate_left
            · rintro w' ⟨s0, s1, s2, s3⟩; go_simp; with_reducible rfl
            rotate_left
            · simp only [Act.put,s_a,s_b,s_c,i64_w,i32_w]; rfl
            refine pure_ (i := 4) (N := some 28) (v:=?_) (a':=?_) (bm 31 127) rfl rfl (by kernel_rfl) (fun _ _ _ h => h) (Or.inl ⟨by rfl, ?_⟩) ?_ ?_; rotate_left
            · intro w'; go_simp; with_reducible rfl
            rotate_left
            · simp only [Act.put,s_a,s_b,s_c,i64_w,i32_w]; rfl
            refine pure_ (i := 7) (N := some 31) (v:=?_) (a':=?_) (bm 31 255) rfl rfl (by kernel_rfl) (fun _ _ _ h => h) (Or.inl ⟨by rfl, ?_⟩) ?_ ?_; rotate_left
            · intro w'; go_simp; with_reducible rfl
            rotate_left
            · simp only [Act.put,s_a,s_b,s_c,i64_w,i32_w]; rfl
            refine pure_ (i := 8) (N := some 32) (v:=?_) (a':=?_) (bm 31 511) rfl rfl (by kernel_rfl) (fun _ _ _ h => h) (Or.inl ⟨by rfl, ?_⟩) ?_ ?_; rotate_left
            · intro w'; go_simp; with_reducible rfl
            rotate_left
            · simp only [Act.put,s_a,s_b,s_c,i64_w,i32_w]; rfl
            refine pure_ (i := 9) (N := some 33) (v:=?_) (a':=?_) (bm 31 1023) rfl rfl (by kernel_rfl) (fun _ _ _ h => h) (Or.inl ⟨by rfl, ?_⟩) ?_ ?_; rotate_left
            · intro w'; go_simp; with_reducible rfl
            rotate_left
            · simp only [Act.put,s_a,s_b,s_c,i64_w,i32_w]; rfl
            refine pure_ (i := 10) (N := some 34) (v:=?_) (a':=?_) (bm 31 2047) rfl rfl (by kernel_rfl) (fun _ _ _ h => h) (Or.inl ⟨by rfl, ?_⟩) ?_ ?_; rotate_left
            · intro w'; go_simp; with_reducible rfl
            rotate_left
            · simp only [Act.put,s_a,s_b,s_c,i64_w,i32_w]; rfl
            refine pure_ (i := 11) (N := some 35) (v:=?_) (a':=?_) (bm 31 4095) rfl rfl (by kernel_rfl) (fun _ _ _ h => h) (Or.inl ⟨by rfl, ?_⟩) ?_ ?_; rotate_left
            · intro w'; go_simp; with_reducible rfl
            rotate_left
            · simp only [Act.put,s_a,s_b,s_c,i64_w,i32_w]; rfl
            refine pure_ (i := 12) (N := some 36) (v:=?_) (a':=?_) (bm 31 8191) rfl rfl (by kernel_rfl) (fun _ _ _ h => h) (Or.inl ⟨by rfl, ?_⟩) ?_ ?_; rotate_left
            · intro w'; go_simp; with_reducible rfl
            rotate_left
            · simp only [Act.put,s_a,s_b,s_c,i64_w,i32_w]; rfl
            refine pure_ (i := 13) (N := some 37) (v:=?_) (a':=?_) (bm 31 16383) rfl rfl (by kernel_rfl) (fun _ _ _ h => h) (Or.inl ⟨by rfl, ?_⟩) ?_ ?_; rotate_left
            · intro w'; go_simp; with_reducible rfl
            rotate_left
            · simp only [Act.put,s_a,s_b,s_c,i64_w,i32_w]; rfl
            refine pure_ (i := 14) (N := some 38) (v:=?_) (a':=?_) (bm 31 32767) rfl rfl (by kernel_rfl) (fun _ _ _ h => h) (Or.inl ⟨by rfl, ?_⟩) ?_ ?_; rotate_left
            · intro w'; go_simp; with_reducible rfl
            rotate_left
            · simp only [Act.put,s_a,s_b,s_c,i64_w,i32_w]; rfl
            refine pure_ (i := 16) (N := some 40) (v:=?_) (a':=?_) (bm 31 98303) rfl rfl (by kernel_rfl) (fun _ _ _ h => h) (Or.inl ⟨by rfl, ?_⟩) ?_ ?_; rotate_left
            · intro w'; go_simp; with_reducible rfl
            rotate_left
            · simp only [Act.put,s_a,s_b,s_c,i64_w,i32_w]; rfl
            refine pure_ (i := 17) (N := some 41) (v:=?_) (a':=?_) (bm 31 229375) rfl rfl (by kernel_rfl) (fun _ _ _ h => h) (Or.inl ⟨by rfl, ?_⟩) ?_ ?_; rotate_left
            · intro w'; go_simp; with_reducible rfl
            rotate_left
            · simp only [Act.put,s_a,s_b,s_c,i64_w,i32_w]; rfl
            refine pure_ (i := 18) (N := some 42) (v:=?_) (a':=?_) (bm 31 491519) rfl rfl (by kernel_rfl) (fun _ _ _ h => h) (Or.inl ⟨by rfl, ?_⟩) ?_ ?_; rotate_left
            · intro w'; go_simp; with_reducible rfl
            rotate_left
            · simp only [Act.put,s_a,s_b,s_c,i64_w,i32_w]; rfl
            refine take_ (i := 15) (N := some 39) (v:=?_) (a':=?_) (bm 31 524287) rfl rfl (by kernel_rfl) (fun _ _ _ h => h) (Or.inl ⟨by rfl, ?_⟩) hHeld ?_ ?_; rotate_left
            · rintro w' ⟨s0, s1, s2, s3⟩; go_simp; with_reducible rfl
            rotate_left
            · simp only [Act.put,s_a,s_b,s_c,i64_w,i32_w]; rfl
            refine take_ (i := 19) (N := some 43) (v:=?_) (a':=?_) (bm 31 1048575) rfl rfl (by kernel_rfl) (fun _ _ _ h => h) (Or.inl ⟨by rfl, ?_⟩) hHeld ?_ ?_; rotate_left
            · rintro w' ⟨s0, s1, s2, s3⟩; go_simp; with_reducible rfl
            rotate_left
            · simp only [Act.put,s_a,s_b,s_c,i64_w,i32_w]; rfl
            refine pure_ (i := 20) (N := some 44) (v:=?_) (a':=?_) (bm 31 2097151) rfl rfl (by kernel_rfl) (fun _ _ _ h => h) (Or.inl ⟨by rfl, ?_⟩) ?_ ?_; rotate_left
            · intro w'; go_simp; with_reducible rfl
            rotate_left
            · simp only [Act.put,s_a,s_b,s_c,i64_w,i32_w]; rfl
            refine pure_ (i := 21) (N := some 45) (v:=?_) (a':=?_) (bm 31 4194303) rfl rfl (by kernel_rfl) (fun _ _ _ h => h) (Or.inl ⟨by rfl, ?_⟩) ?_ ?_; rotate_left
            · intro w'; go_simp; with_reducible rfl
            rotate_left
            · simp only [Act.put,s_a,s_b,s_c,i64_w,i32_w]; rfl
            refine pure_ (i := 22) (N := some 46) (v:=?_) (a':=?_) (bm 31 8388607) rfl rfl (by kernel_rfl) (fun _ _ _ h => h) (Or.inl ⟨by rfl, ?_⟩) ?_ ?_; rotate_left
            · intro w'; go_simp; with_reducible rfl
            rotate_left
            · simp only [Act.put,s_a,s_b,s_c,i64_w,i32_w]; rfl
            refine pure_ (i := 23) (N := some 47) (v:=?_) (a':=?_) (bm 31 16777215) rfl rfl (by kernel_rfl) (fun _ _ _ h => h) (Or.inl ⟨by rfl, ?_⟩) ?_ ?_; rotate_left
            · intro w'; go_simp; with_reducible rfl
            rotate_left
            · simp only [Act.put,s_a,s_b,s_c,i64_w,i32_w]; rfl
            refine pure_ (i := 24) (N := some 48) (v:=?_) (a':=?_) (bm 31 33554431) rfl rfl (by kernel_rfl) (fun _ _ _ h => h) (Or.inl ⟨by rfl, ?_⟩) ?_ ?_; rotate_left
            · intro w'; go_simp; with_reducible rfl
            rotate_left
            · simp only [Act.put,s_a,s_b,s_c,i64_w,i32_w]; rfl
            refine pure_ (i := 25) (N := some 49) (v:=?_) (a':=?_) (bm 31 67108863) rfl rfl (by kernel_rfl) (fun _ _ _ h => h) (Or.inl ⟨by rfl, ?_⟩) ?_ ?_; rotate_left
            · intro w'; go_simp; with_reducible rfl
            rotate_left
            · simp only [Act.put,s_a,s_b,s_c,i64_w,i32_w]; rfl
            refine pure_ (i := 26) (N := some 50) (v:=?_) (a':=?_) (bm 31 134217727) rfl rfl (by kernel_rfl) (fun _ _ _ h => h) (Or.inl ⟨by rfl, ?_⟩) ?_ ?_; rotate_left
            · intro w'; go_simp; with_reducible rfl
            rotate_left
            · simp only [Act.put,s_a,s_b,s_c,i64_w,i32_w]; rfl
            refine take_ (i := 27) (N := some 51) (v:=?_) (a':=?_) (bm 31 268435455) rfl rfl (by kernel_rfl) (fun _ _ _ h => h) (Or.inl ⟨by rfl, ?_⟩) hHeld ?_ ?_; rotate_left
            · rintro w' ⟨s0, s1, s2, s3⟩; go_simp; with_reducible rfl
            rotate_left
            · simp only [Act.put,s_a,s_b,s_c,i64_w,i32_w]; rfl
            refine pure_ (i := 28) (N := some 52) (v:=?_) (a':=?_) (bm 31 536870911) rfl rfl (by kernel_rfl) (fun _ _ _ h => h) (Or.inl ⟨by rfl, ?_⟩) ?_ ?_; rotate_left
            · intro w'; go_simp; with_reducible rfl
            rotate_left
            · simp only [Act.put,s_a,s_b,s_c,i64_w,i32_w]; rfl
            refine pure_ (i := 29) (N := some 53) (v:=?_) (a':=?_) (bm 31 1073741823) rfl rfl (by kernel_rfl) (fun _ _ _ h => h) (Or.inl ⟨by rfl, ?_⟩) ?_ ?_; rotate_left
            · intro w'; go_simp; with_reducible rfl
            rotate_left
            · simp only [Act.put,s_a,s_b,s_c,i64_w,i32_w]; rfl
            refine pure_ (i := 30) (N := some 23) (v:=?_) (a':=?_) (bm 31 2147483647) rfl rfl (by kernel_rfl) (fun _ _ _ h => h) (Or.inl ⟨by rfl, ?_⟩) ?_ ?_; rotate_left
            · intro w'; go_simp; with_reducible rfl
            rotate_left
            · simp only [Act.put,s_a,s_b,s_c,i64_w,i32_w]; rfl
            refine done_ (by kernel_rfl) ?_; go_wp2_with fail
            clear q1 q2 q3 k0 c0 c1 c6; have HD2 := Aside0.mk (H.out.below (below_drew1 (Below.refl w2.heap.size w2))); refine (disk_goes.calls HD2.out HI.out.armB HOB.out).mono ?_; rintro x w4 ⟨rfl, h4, hk4⟩; have H4 := Aside0.mk h4; have HK4 : Aside0 (KeptL F w2 w4) := ⟨((KeptL.refl F w2).drew).trans (hk4.mono (fun k e => by rw [e]; exact H.out.foot.1))⟩; have HG := Aside0.mk (HI.out.goes HOB.out.2); obtain ⟨T, hT⟩ : ∃ T, T = (goes S).1 := ⟨_, rfl⟩; obtain ⟨g, hg⟩ : ∃ g, g = (goes S).2 := ⟨_, rfl⟩; rw [← hT] at H4 HG; rw [← hg] at HG; have hOP := HOP.out; rw [goes_eq, ← hT, ← hg] at hOP; replace HOP := Aside0.mk hOP; rw [← hg]; have HU : Aside0 (used T = used S) := ⟨by unfold used; rw [HG.out.2.1, HG.out.2.2.1]⟩; clear h4 hk4 hT hg hOP; by_cases hg0 : g = 0
            · subst hg0; have hOP := HOP.out; rw [if_pos rfl] at hOP; replace HOP := Aside0.mk hOP; clear hOP; have hjT : j < T.files.length := by rw [HG.out.2.1]; exact HJS.out
              obtain ⟨A6, c6, hv5, hb5, hc5, hC5⟩ := H4.out.fileCell j hjT; have hfT : T.files.getD j ([], 0) = fj := by rw [HG.out.2.1]; exact HFJ.out.symm
              rw [hfT] at hv5 hb5 hC5 hc5; have hbb := HBB.out; have HB5 : Aside0 (w4.heap[b5]? = some (.cells #[.slice A6 fj.1.length c6, .int .i64 fj.2] 97 (0, 0))) := ⟨by rw [hbb]; exact hb5⟩; have k0 := (blk_cell HB5.out 0).trans rfl; have kz0 := blk_frozen HB5.out 0; have HIC := Aside0.mk (HI.out.append n p HPB.out); have hA := (H4.out.at_ j hjT).2; rw [hfT, hv5] at hA; have HAA := Aside0.mk hA; have HV5 := Aside0.mk hv5; have HCP : Aside0 (Kd.C kB w4 A p.length p) := ⟨C_keptL HCW.out HK4.out (fun ad e hl hF => HNF.out ad e hl hF)⟩; have HJT := Aside0.mk hjT; have HLL : Aside0 ((fj.1.length + p.length) * 1 ≤ 140737488355328) := ⟨by have := HBD.out; omega⟩; have hw3 : wrap64 (used S + (p.length : Int)) = used S + (p.length : Int) := by have h1 := HI.out.usedB; have h2 := HPL.out; rw [w64L (by omega) (by omega)]
              clear hjT hv5 hb5 hc5 hC5 hfT hbb hA; go_wp2_with ((with_reducible refine gate_builtin (b := .append) (xs := #[.tmp 63, .tmp 64]) rfl ?_); at_builtin; refine Kd.R_append_rows kB (Rr := kB.K w4) (w0 := w4) 0 rfl (.tmp 63) (.tmp 64) 53 5 (.int .u8 0) 1 rfl Try.underlying53 infoB rfl (by decide) (by decide) (.slice A6 fj.1.length c6) fj.1 p A p.length c (fun _ => True) (fun _ => False) rfl rfl HAA.out HCP.out (fun _ _ h => h) (fun _ h => h.elim) (fun _ _ => trivial) (Below.refl _ _) (Nat.zero_le _) HLL.out ?_; intro v7 w7 ho hb hg hat; obtain ⟨A7, c7, hv7⟩ := Kd.R_slice ho; obtain ⟨n7, hn7⟩ : ∃ n7, n7 = (fj.1 ++ p).length := ⟨_, rfl⟩; rw [← hn7] at hv7; clear hn7; subst hv7; have HR7 := Aside0.mk ho; have HAT := Aside0.mk hat; have HG7 := Aside0.mk hg; have BF7 := Aside0.mk (blk_grown HB5.out hg (fun e => Kd.R_ne HAA.out HB5.out (by decide) e)); have BD7 := Aside0.mk (blk_grown H4.out.blk hg (fun e => Kd.R_ne HAA.out H4.out.blk (by decide) e)); have hdb : d ≠ b5 := (blk_ne H4.out.blk HB5.out (by decide)); have HDB := Aside0.mk hdb; have x0 := (blk_cell BF7.out 0).trans rfl; have xz0 := blk_frozen BF7.out 0; have y1 := (blk_cell (blk_far BD7.out (p := ⟨b5, 0, none⟩) hdb (.slice A7 n7 c7)) 1).trans rfl; have yz1 := blk_frozen (blk_far BD7.out (p := ⟨b5, 0, none⟩) hdb (.slice A7 n7 c7)) 1; clear ho hb hg hat hdb)
              obtain ⟨w8, hw8⟩ : ∃ w8, w8 = w7.setCell ⟨b5, 0, none⟩ (.slice A7 n7 c7) := ⟨_, rfl⟩
              have hkx : KeptL (fun k => k = (fm.getD j fm0).1 ∨ (fm.getD j fm0).2.ownBlock = some k) w4 w8 := by
                rw [hw8]; exact ((KeptL.refl _ w4).grown HG7.out (fun k e => .inl (.inr (by rw [HV5.out]; exact e)))).setCell _ _ (.inl (.inl HBB.out))
              have hNE : ∀ k, (∃ q, q ∈ 5 :: kB.E ∧ ∃ cells, w7.heap[k]? = some (.cells cells q (0, 0))) → k ≠ b5 := fun k hk e => by
                obtain ⟨q, hq, cells, hcc⟩ := hk; rw [e] at hcc; refine blk_ne hcc BF7.out (fun e2 => ?_) rfl; rw [e2] at hq
                revert hq
                decide
              have hn9 : FileAt w8 ((fm.getD j fm0).1, .slice A7 n7 c7) (fj.1 ++ p, fj.2) := ⟨by
                show w8.heap[(fm.getD j fm0).1]? = _; rw [← HBB.out, hw8]; exact blk_put BF7.out 0 _ rfl, by
                rw [hw8]; exact Kd.R_far (Kd.R_mono (Kd.R_bound HR7.out) (ok' := fun k => k ≠ b5) (fun k hk e => hNE k hk.2.2.2 e)) (p := ⟨b5, 0, none⟩) (fun k hk => hk) _ |> fun z => Kd.R_mono z (fun _ _ => trivial)⟩
              have h8 := H4.out.turnFile HJT.out hkx hn9 (by rw [HV5.out]; exact HAT.out); have hkd := (KeptL.refl (fun k => k = d) w8).setCell ⟨d, 1, none⟩ (.int .i64 (used S + (p.length : Int))) (.inl rfl); have hbd8 := blk_far BD7.out (p := ⟨b5, 0, none⟩) HDB.out (.slice A7 n7 c7); rw [← hw8] at hbd8; have h9 := h8.turnD (S' := { T with files := T.files.set j (fj.1 ++ p, fj.2) }) (u' := used S + (p.length : Int)) hkd (blkD_put hbd8 1 _ rfl) rfl rfl rfl rfl
              have hus : used { T with files := T.files.set j (fj.1 ++ p, fj.2) } = used S + (p.length : Int) := by
                have hj0 : (j : Int) < T.files.length := by have := HJT.out; omega
                have h1 := usedOf_set (fs := T.files) (i := (j : Int)) (f := (fj.1 ++ p, fj.2)) (by omega) (l := T.dir) (fun e he => (HG.out.1.okD e he).1) HG.out.1.fileN; rw [Int.toNat_natCast] at h1; have h2 : flen T.files (j : Int) = (fj.1.length : Int) := by unfold flen; rw [Int.toNat_natCast, HG.out.2.1, ← HFJ.out]
                have h3 : (T.dir.any fun e => decide (e.2 = (j : Int))) = true := List.any_eq_true.2 ⟨en, by rw [HG.out.2.2.1]; exact (has_some HH.out).1, decide_eq_true HJE.out.symm⟩; show usedOf _ T.dir = _; rw [h1, h2, h3, if_pos rfl, List.length_append, ← HU.out]; show usedOf T.files T.dir + _ = usedOf T.files T.dir + _; omega
              have hKW : KeptL F w2 (w8.setCell ⟨d, 1, none⟩ (.int .i64 (used S + (p.length : Int)))) := (HK4.out.trans (hkx.mono (fun k e => by
                have hm := H.out.foot.2.2.2.2.2 _ (getD_mem (z := fm0) (by rw [H4.out.len]; exact HJT.out : j < fm.length)); rcases e with e | e
                · rw [e]; exact hm.1
                · exact hm.2 k e))).trans (hkd.mono (fun k e => by rw [e]; exact H.out.foot.1))
              have hfin := h9.monoF (F' := grow F w2 (w8.setCell ⟨d, 1, none⟩ (.int .i64 (used S + (p.length : Int))))) (fun k hk => by
                rcases hk with hk | hk
                · exact .inl hk
                · have h1 := HK4.out.size; have h2 := hkd.size; exact .inr ⟨by omega, by omega⟩) (lt_grow H.out.lt hKW.size)
              rw [← hus] at hfin; have hjn : en.2.toNat = j := by have := HJE.out; omega
              have hex : ∃ md ms vf vc fm, DskM (w8.setCell ⟨d, 1, none⟩ (.int .i64 (used S + (p.length : Int)))) (grow F w2 (w8.setCell ⟨d, 1, none⟩ (.int .i64 (used S + (p.length : Int))))) d (setFil T en.2 (fj.1 ++ p, fj.2)) (used (setFil T en.2 (fj.1 ++ p, fj.2))) md ms vf vc fm := ⟨md, ms, vf, vc, _, by unfold setFil; rw [hjn, hus]; rw [hus] at hfin; exact hfin⟩; have HFIN : Aside0 (DskAt (w8.setCell ⟨d, 1, none⟩ (.int .i64 (used S + (p.length : Int)))) (grow F w2 (w8.setCell ⟨d, 1, none⟩ (.int .i64 (used S + (p.length : Int))))) d (opAppend S n p).1 ∧ KeptL F w2 (w8.setCell ⟨d, 1, none⟩ (.int .i64 (used S + (p.length : Int))))) := ⟨⟨HIC.out, by rw [HOP.out, HFO.out]; exact hex⟩, hKW⟩; rw [hw8] at HFIN; clear hkx hNE hn9 h8 hkd hbd8 h9 hus hKW hfin hjn hex hw8; go_wp2_with fail
              go_ret; exact ⟨by rw [HOP.out]; rfl, HFIN.out⟩
            · have bg : (g != 0) = true := bne_iff_ne.mpr hg0; have hOP := HOP.out; rw [if_neg hg0] at hOP; replace HOP := Aside0.mk hOP; clear hOP hg0; go_wp2_with fail
              go_ret; rw [HOP.out]; refine ⟨rfl, ⟨HG.out.1, md, ms, vf, vc, fm, ?_⟩, HK4.out⟩; rw [HU.out]; exact H4.out.monoF (fun k hk => .inl hk) (lt_grow H.out.lt HK4.out.size)
end Go.Proofs.Ytdekcjopgnfmdaa.Hand
