/- law01's FrameTorn: the walk. -/
import Derived.Test.YtdlfhpkkkhfhdaaDoorHMadeW
import Derived.Test.YtdlfhpkkkhfhdaaDoorHLive
import Derived.Test.YtdlfhpkkkhfhdaaDoorHOpensW
namespace Go.Proofs.YtdlfhpkkkhfhdaaDoor.Hand
open Go.RowKit Go.Proofs.YtdlfhpkkkhfhdaaDoorW.PrintWords Go.Proofs.YtdlfhpkkkhfhdaaDoorW.PrintLast Go.Proofs.YtdlfhpkkkhfhdaaDoorW.PrintMore Go.Proofs.YtdlfhpkkkhfhdaaDoor.Q
set_option linter.unusedVariables false
set_option linter.unusedSimpArgs false

theorem w64T {x : Int} (h0 : -9223372036854775808 ≤ x) (h1 : x ≤ 9223372036854775807) : wrap64 x = x := by unfold wrap64; omega
theorem cut_mod (z : Int) (n : Nat) (hz : 0 ≤ z) (hn : n ≤ 2097152) : ∃ C : Nat, wrap64 (1 + z % ((n : Int) + 9 - 1)) = (C : Int) ∧ 1 ≤ C ∧ C < n + 9 := by
  have h1 := Int.emod_nonneg z (show ((n : Int) + 9 - 1) ≠ 0 by omega)
  have h2 := Int.emod_lt_of_pos z (show (0 : Int) < (n : Int) + 9 - 1 by omega)
  rw [w64T (by omega) (by omega)]
  exact ⟨(1 + z % ((n : Int) + 9 - 1)).toNat, by omega, by omega, by omega⟩
theorem cut_pos (cut : Int) (n : Nat) (hc : -9223372036854775808 ≤ cut ∧ cut ≤ 9223372036854775807) (hn : ¬ cut < 0) (hs : n ≤ 2097152) : ∃ C : Nat, wrap64 (1 + cut % ((n : Int) + 9 - 1)) = (C : Int) ∧ 1 ≤ C ∧ C < n + 9 := cut_mod cut n (by omega) hs
theorem cut_neg (cut : Int) (n : Nat) (hc : -9223372036854775808 ≤ cut ∧ cut ≤ 9223372036854775807) (hn : cut < 0) (hs : n ≤ 2097152) : ∃ C : Nat, wrap64 (1 + (wrap64 (-wrap64 (cut + 1))).tmod ((n : Int) + 9 - 1)) = (C : Int) ∧ 1 ≤ C ∧ C < n + 9 := by
  rw [w64T (x := cut + 1) (by omega) (by omega), w64T (x := -(cut + 1)) (by omega) (by omega), Int.tmod_eq_emod_of_nonneg (by omega)]
  exact cut_mod _ n (by omega) hs
theorem take_len {w : World} {A : Option Addr} {X : List Int} {n : Nat} (e : X.length = n) (h : Kd.C (Kd.int .u8) w A X.length X) : Kd.C (Kd.int .u8) w A n X := by rwa [e] at h
theorem below_of_grown {W W' : World} (h : W.grownBy W' none) : Below W.heap.size W W' := ⟨h.os, h.tape, h.output, h.size, fun k hk => h.block k hk (by simp)⟩
set_option maxHeartbeats 2000000 in
set_option maxRecDepth 100000 in
theorem wicketlaw01_FrameTorn.walk (A0 A1 : Option Addr) (c0 c1 : Nat) (KL : List Int) (TL : List ByteArray) (last : ByteArray) (cut : Int) (w : World) (hT : Tb w) (hr0 : Kd.C (Kd.int .u8) w A0 KL.length KL) (hr1 : Kd.C Kd.string w A1 TL.length TL)
    (hK : KL.length ≤ 1000000000) (hM : TL.length ≤ 1000000000) (hF : ∀ i, i ≤ KL.length → (fileN KL TL i).length ≤ 1000000000) (hwf : ∀ i, i < KL.length → kdN KL i ≠ 0 → (txN TL i).size ≤ 2097152 → frame_Seal.f (kdN KL i) (bytesOf (txN TL i)) = some (sealOf (kdN KL i) (bytesOf (txN TL i)), 0))
    (hcut : -9223372036854775808 ≤ cut ∧ cut ≤ 9223372036854775807) (h8 : wicketlaw01_live.f = some true)
    (hP : last.size ≤ 2097152 → frame_Seal.f 255 (bytesOf last) = some (sealOf 255 (bytesOf last), 0)) (hPl : (sealOf 255 (bytesOf last)).length = last.size + 9)
    (hS : last.size ≤ 2097152 → ∀ C : Nat, 1 ≤ C → C < (sealOf 255 (bytesOf last)).length → ∃ (k : Nat) (X : List S40), X.length = cntN KL TL (min KL.length TL.length) ∧ frame_Scan.f k (fileN KL TL (min KL.length TL.length) ++ (sealOf 255 (bytesOf last)).take C) = some (X, ((fileN KL TL (min KL.length TL.length)).length : Int), 3)) :
    Calls Tryd.prog 10 #[.agg #[.slice A0 KL.length c0, .slice A1 TL.length c1, .string last, .int .i64 cut]] w fun e w' => e = .returned (.bool true) ∧ Below w.heap.size w w' := by
  have HC0 := Aside0.mk hr0
  have HC1 := Aside0.mk hr1
  have HT := Aside0.mk hT
  have HF := Aside0.mk hF
  have HW := Aside0.mk hwf
  have H8 := Aside0.mk h8
  have HP := Aside0.mk hP
  have HPL := Aside0.mk hPl
  have HS := Aside0.mk hS
  have HCUT := Aside0.mk hcut
  have HB := Aside0.mk (below_alloc (Below.refl w.heap.size w) (.cells #[.slice A0 KL.length c0, .slice A1 TL.length c1, .string last, .int .i64 cut] 66))
  have hx := blk_new w (.cells #[.slice A0 KL.length c0, .slice A1 TL.length c1, .string last, .int .i64 cut] 66)
  have d0 := (blk_cell hx 0).trans rfl
  have d1 := (blk_cell hx 1).trans rfl
  have d2 := (blk_cell hx 2).trans rfl
  have d3 := (blk_cell hx 3).trans rfl
  clear hr0 hr1 hT hF hwf h8 hP hPl hS hcut hx
  go_enter Tryd.func10, Tryd.ntmps10
  go_wp2_with fail
  refine start_ (n := 12) (S := fun w' => w'.cell? ⟨w.heap.size, 0, none⟩ = some (.slice A0 KL.length c0) ∧ w'.cell? ⟨w.heap.size, 1, none⟩ = some (.slice A1 TL.length c1) ∧ w'.cell? ⟨w.heap.size, 2, none⟩ = some (.string last) ∧ w'.cell? ⟨w.heap.size, 3, none⟩ = some (.int .i64 cut)) (ds := []) #[false, false, false, false, false, false, false, false, false, false, false, false] (by kernel_rfl) rfl rfl ⟨d0, d1, d2, d3⟩ (fun hHeld => ?_)
  refine pure_ (i := 0) (N := some 15) (v := ?_) (a' := ?_) #[true, false, false, false, false, false, false, false, false, false, false, false] rfl rfl (by kernel_rfl) (fun _ _ _ h => h) (Or.inl ⟨by rfl, ?_⟩) ?_ ?_
  rotate_left
  · intro w'
    go_simp
    with_reducible rfl
  rotate_left
  · simp only [Act.put, List.setIfInBounds_toArray, List.set_cons_zero, List.set_cons_succ, i64_w, i32_w]
    rfl
  refine pure_ (i := 2) (N := some 17) (v := ?_) (a' := ?_) #[true, false, true, false, false, false, false, false, false, false, false, false] rfl rfl (by kernel_rfl) (fun _ _ _ h => h) (Or.inl ⟨by rfl, ?_⟩) ?_ ?_
  rotate_left
  · intro w'
    go_simp
    with_reducible rfl
  rotate_left
  · simp only [Act.put, List.setIfInBounds_toArray, List.set_cons_zero, List.set_cons_succ, i64_w, i32_w]
    rfl
  refine pure_ (i := 4) (N := some 19) (v := ?_) (a' := ?_) #[true, false, true, false, true, false, false, false, false, false, false, false] rfl rfl (by kernel_rfl) (fun _ _ _ h => h) (Or.inl ⟨by rfl, ?_⟩) ?_ ?_
  rotate_left
  · intro w'
    go_simp
    with_reducible rfl
  rotate_left
  · simp only [Act.put, List.setIfInBounds_toArray, List.set_cons_zero, List.set_cons_succ, i64_w, i32_w]
    rfl
  refine pure_ (i := 6) (N := some 21) (v := ?_) (a' := ?_) #[true, false, true, false, true, false, true, false, false, false, false, false] rfl rfl (by kernel_rfl) (fun _ _ _ h => h) (Or.inl ⟨by rfl, ?_⟩) ?_ ?_
  rotate_left
  · intro w'
    go_simp
    with_reducible rfl
  rotate_left
  · simp only [Act.put, List.setIfInBounds_toArray, List.set_cons_zero, List.set_cons_succ, i64_w, i32_w]
    rfl
  refine take_ (i := 1) (N := some 16) (v := ?_) (a' := ?_) #[true, true, true, false, true, false, true, false, false, false, false, false] rfl rfl (by kernel_rfl) (fun _ _ _ h => h) (Or.inl ⟨by rfl, ?_⟩) hHeld ?_ ?_
  rotate_left
  · rintro w' ⟨s0, s1, s2, s3⟩
    go_simp
    with_reducible rfl
  rotate_left
  · simp only [Act.put, List.setIfInBounds_toArray, List.set_cons_zero, List.set_cons_succ, i64_w, i32_w]
    rfl
  refine pure_ (i := 8) (N := some 3) (v := ?_) (a' := ?_) #[true, true, true, false, true, false, true, false, true, false, false, false] rfl rfl (by kernel_rfl) (fun _ _ _ h => h) (Or.inl ⟨by rfl, ?_⟩) ?_ ?_
  rotate_left
  · intro w'
    go_simp
    with_reducible rfl
  rotate_left
  · simp only [Act.put, List.setIfInBounds_toArray, List.set_cons_zero, List.set_cons_succ, i64_w, i32_w]
    rfl
  refine take_ (i := 3) (N := some 18) (v := ?_) (a' := ?_) #[true, true, true, true, true, false, true, false, true, false, false, false] rfl rfl (by kernel_rfl) (fun _ _ _ h => h) (Or.inl ⟨by rfl, ?_⟩) hHeld ?_ ?_
  rotate_left
  · rintro w' ⟨s0, s1, s2, s3⟩
    go_simp
    with_reducible rfl
  rotate_left
  · simp only [Act.put, List.setIfInBounds_toArray, List.set_cons_zero, List.set_cons_succ, i64_w, i32_w]
    rfl
  refine pure_ (i := 9) (N := some 4) (v := ?_) (a' := ?_) #[true, true, true, true, true, false, true, false, true, true, false, false] rfl rfl (by kernel_rfl) (fun _ _ _ h => h) (Or.inl ⟨by rfl, ?_⟩) ?_ ?_
  rotate_left
  · intro w'
    go_simp
    with_reducible rfl
  rotate_left
  · simp only [Act.put, List.setIfInBounds_toArray, List.set_cons_zero, List.set_cons_succ, i64_w, i32_w]
    rfl
  refine take_ (i := 5) (N := some 20) (v := ?_) (a' := ?_) #[true, true, true, true, true, true, true, false, true, true, false, false] rfl rfl (by kernel_rfl) (fun _ _ _ h => h) (Or.inl ⟨by rfl, ?_⟩) hHeld ?_ ?_
  rotate_left
  · rintro w' ⟨s0, s1, s2, s3⟩
    go_simp
    with_reducible rfl
  rotate_left
  · simp only [Act.put, List.setIfInBounds_toArray, List.set_cons_zero, List.set_cons_succ, i64_w, i32_w]
    rfl
  refine pure_ (i := 10) (N := some 5) (v := ?_) (a' := ?_) #[true, true, true, true, true, true, true, false, true, true, true, false] rfl rfl (by kernel_rfl) (fun _ _ _ h => h) (Or.inl ⟨by rfl, ?_⟩) ?_ ?_
  rotate_left
  · intro w'
    go_simp
    with_reducible rfl
  rotate_left
  · simp only [Act.put, List.setIfInBounds_toArray, List.set_cons_zero, List.set_cons_succ, i64_w, i32_w]
    rfl
  refine take_ (i := 7) (N := some 22) (v := ?_) (a' := ?_) #[true, true, true, true, true, true, true, true, true, true, true, false] rfl rfl (by kernel_rfl) (fun _ _ _ h => h) (Or.inl ⟨by rfl, ?_⟩) hHeld ?_ ?_
  rotate_left
  · rintro w' ⟨s0, s1, s2, s3⟩
    go_simp
    with_reducible rfl
  rotate_left
  · simp only [Act.put, List.setIfInBounds_toArray, List.set_cons_zero, List.set_cons_succ, i64_w, i32_w]
    rfl
  refine pure_ (i := 11) (N := some 6) (v := ?_) (a' := ?_) #[true, true, true, true, true, true, true, true, true, true, true, true] rfl rfl (by kernel_rfl) (fun _ _ _ h => h) (Or.inl ⟨by rfl, ?_⟩) ?_ ?_
  rotate_left
  · intro w'
    go_simp
    with_reducible rfl
  rotate_left
  · simp only [Act.put, List.setIfInBounds_toArray, List.set_cons_zero, List.set_cons_succ, i64_w, i32_w]
    rfl
  refine done_ (by kernel_rfl) ?_
  clear d0 d1 d2 d3
  replace HB := Aside0.mk (below_drew1 HB.out)
  obtain ⟨w1, hw1⟩ : ∃ w1, w1 = (w.alloc (.cells #[.slice A0 KL.length c0, .slice A1 TL.length c1, .string last, .int .i64 cut] 66)).drew := ⟨_, rfl⟩
  rw [← hw1] at HB ⊢
  clear hw1
  replace HC0 := Aside0.mk (Kd.C_below HC0.out HB.out)
  replace HC1 := Aside0.mk (Kd.C_below HC1.out HB.out)
  replace HT := Aside0.mk (HT.out.below HB.out)
  go_wp2_with fail
  refine (wicketlaw01_made.walk A0 A1 c0 c1 KL TL w1 HT.out HC0.out HC1.out hK hM HF.out HW.out).mono ?_
  rintro x w2 ⟨v2, rfl, ho, hb⟩
  obtain ⟨A2, c2, hv2⟩ := Kd.R_slice ho
  subst hv2
  have HR := Aside0.mk ho
  clear ho HC0 HC1
  replace HB := Aside0.mk (below_step HB.out hb)
  replace HT := Aside0.mk (HT.out.below hb)
  clear hb
  go_wp2_with fail
  refine (wicketlaw01_live.calls true w2 HT.out H8.out).mono ?_
  rintro x w3 ⟨rfl, hb⟩
  replace HB := Aside0.mk (below_step HB.out hb)
  replace HT := Aside0.mk (HT.out.below hb)
  replace HR := Aside0.mk (Kd.R_below HR.out hb)
  clear hb
  by_cases hl : last.size > 2097152
  · have b1 : decide ((last.size : Int) > 2097152) = true := decide_eq_true (by omega)
    clear hl
    go_wp2_with fail
    go_ret
    exact ⟨rfl, HB.out⟩
  have hl2 : last.size ≤ 2097152 := by omega
  have b1 : decide ((last.size : Int) > 2097152) = false := decide_eq_false (by omega)
  clear hl
  go_wp2_with ((with_reducible refine gate_dst (N := 41) rfl ?_); refine C_conv w.heap.size 9 22 5 rfl (.tmp 40) rfl last rfl Tryd.underlying9 Tryd.underlying22 Tryd.underlying5 (by omega) HB.out HB.out.size ?_; intro A4 c4 w4 hC4 hc4 hb4 hg4; have HC4 := Aside0.mk hC4; have hbx := below_of_grown hg4; clear hC4 hb4 hg4)
  have hb := hbx
  clear hbx
  replace HB := Aside0.mk (below_step HB.out hb)
  replace HT := Aside0.mk (HT.out.below hb)
  replace HR := Aside0.mk (Kd.R_below HR.out hb)
  clear hb
  refine (frame_Seal.calls 255 A4 c4 (bytesOf last) (sealOf 255 (bytesOf last)) 0 w4 HT.out HC4.out hc4 (HP.out hl2)).mono ?_
  rintro x w5 ⟨v5, rfl, ho, hb⟩
  obtain ⟨A5, c5, hv5⟩ := Kd.R_slice ho
  subst hv5
  have HR5 := Aside0.mk ho
  clear ho HC4
  replace HB := Aside0.mk (below_step HB.out hb)
  replace HT := Aside0.mk (HT.out.below hb)
  replace HR := Aside0.mk (Kd.R_below HR.out hb)
  clear hb
  obtain ⟨L, hL⟩ : ∃ L, L = (sealOf 255 (bytesOf last)).length := ⟨_, rfl⟩
  rw [← hL]
  have hLs : L = last.size + 9 := by rw [hL, HPL.out]
  have HL := Aside0.mk hL
  have b2 : ((L : Int) != (last.size : Int) + 9) = false := bne_eq_false_iff_eq.mpr (by omega)
  clear hL
  go_wp2_with fail
  refine (wicketlaw01_num.calls 0 0 w5 rfl).mono ?_
  rintro x w6 ⟨rfl, hd⟩
  have hb := drawn_below hd
  clear hd
  replace HB := Aside0.mk (below_step HB.out hb)
  replace HT := Aside0.mk (HT.out.below hb)
  replace HR := Aside0.mk (Kd.R_below HR.out hb)
  replace HR5 := Aside0.mk (Kd.R_below HR5.out hb)
  clear hb
  by_cases hn : cut < 0
  · have b3 : decide (cut < 0) = true := decide_eq_true hn
    go_wp2_with fail
    obtain ⟨C, hC, hC1, hC2⟩ : ∃ C : Nat, wrap64 (1 + (wrap64 (-wrap64 (cut + 1))).tmod ((last.size : Int) + 9 - 1)) = (C : Int) ∧ 1 ≤ C ∧ C < last.size + 9 := cut_neg cut last.size HCUT.out hn hl2
    rw [hC]
    obtain ⟨k, X, hX, hsc⟩ := HS.out hl2 C hC1 (by rw [HPL.out]; exact hC2)
    have hcap5 : last.size + 9 ≤ c5 := by have := (Kd.R_reads' HR5.out).2.1; rw [HPL.out] at this; exact this
    have hcut := cut_own A5 (last.size + 9) c5 C (by omega) hcap5
    have hFl := HF.out (min KL.length TL.length) (Nat.min_le_left _ _)
    obtain ⟨F, hFe⟩ : ∃ F, F = fileN KL TL (min KL.length TL.length) := ⟨_, rfl⟩
    rw [← hFe] at hsc hFl HR
    rw [← hFe]
    obtain ⟨Q, hQ⟩ : ∃ Q, Q = cntN KL TL (min KL.length TL.length) := ⟨_, rfl⟩
    rw [← hQ] at hX
    rw [← hQ]
    clear hC hFe hQ b1 b2 b3 hn
    have HLS := Aside0.mk hLs
    have HTL : Aside0 (((sealOf 255 (bytesOf last)).take C).length = C) := ⟨by rw [List.length_take, HPL.out]; omega⟩
    refine start_ (n := 15) (S := fun w' => True) (ds := []) #[false, false, false, false, false, false, false, false, false, false, false, false, false, false, false] (by kernel_rfl) rfl rfl trivial (fun hHeld => ?_)
    refine pure_ (i := 1) (N := some 69) (v := ?_) (a' := ?_) #[false, true, false, false, false, false, false, false, false, false, false, false, false, false, false] rfl rfl (by kernel_rfl) (fun _ _ _ h => h) (Or.inl ⟨by rfl, ?_⟩) ?_ ?_
    rotate_left
    · intro w'
      go_simp
      with_reducible rfl
    rotate_left
    · simp only [Act.put, List.setIfInBounds_toArray, List.set_cons_zero, List.set_cons_succ, i64_w, i32_w]
      rfl
    refine pure_ (i := 3) (N := some 71) (v := ?_) (a' := ?_) #[false, true, false, true, false, false, false, false, false, false, false, false, false, false, false] rfl rfl (by kernel_rfl) (fun _ _ _ h => h) (Or.inl ⟨by rfl, ?_⟩) ?_ ?_
    rotate_left
    · intro w'
      go_simp
      with_reducible rfl
    rotate_left
    · simp only [Act.put, List.setIfInBounds_toArray, List.set_cons_zero, List.set_cons_succ, i64_w, i32_w]
      rfl
    refine pure_ (i := 4) (N := some 72) (v := ?_) (a' := ?_) #[false, true, false, true, true, false, false, false, false, false, false, false, false, false, false] rfl rfl (by kernel_rfl) (fun _ _ _ h => h) (Or.inl ⟨by rfl, ?_⟩) ?_ ?_
    rotate_left
    · intro w'
      go_simp
      with_reducible rfl
    rotate_left
    · simp only [Act.put, List.setIfInBounds_toArray, List.set_cons_zero, List.set_cons_succ, i64_w, i32_w]
      rfl
    refine pure_ (i := 5) (N := some 73) (v := ?_) (a' := ?_) #[false, true, false, true, true, true, false, false, false, false, false, false, false, false, false] rfl rfl (by kernel_rfl) (fun _ _ _ h => h) (Or.inl ⟨by rfl, ?_⟩) ?_ ?_
    rotate_left
    · intro w'
      go_simp
      with_reducible rfl
    rotate_left
    · simp only [Act.put, List.setIfInBounds_toArray, List.set_cons_zero, List.set_cons_succ, i64_w, i32_w]
      rfl
    refine one_ (i := 0) (N := some 68) #[true, true, false, true, true, true, false, false, false, false, false, false, false, false, false] rfl rfl (by kernel_rfl) (by decide) (fun K hK => ?_)
    refine Kd.R_lit_step (Kd.int .u8) (w0 := w) w.heap.size 5 (by rfl) rfl (xs := ([] : List Int)) (inner := []) (ok := fun _ => True) (okp := fun _ => True) ?hr (Reps.none _ _) (fun _ hk => hk) trivial (below_drew1 HB.out) HB.out.size (by simp) ?_
    case hr => first | (go_simp; done) | (go_simp; rfl)
    intro v7 w7 ho7 hb7 hg7 hn7
    have hs7 := below_step (below_drew1 (Below.refl w6.heap.size w6)) (below_of_grown hg7)
    have HO7 := Aside0.mk ho7
    have HB7 := Aside0.mk hb7
    have HS7 := Aside0.mk hs7
    have HN7 : Aside0 (∀ k, v7.ownBlock = some k → w6.heap.size ≤ k) := ⟨fun k e => by obtain ⟨b, e2, hb⟩ := hn7; rw [e] at e2; cases e2; exact hb⟩
    have HR27 := Aside0.mk (Kd.R_below HR.out hs7)
    clear ho7 hb7 hg7 hn7 hs7
    refine hK.out _ _ trivial (fun hHeld => ?_)
    clear hK K
    refine norm_ (a' := ?_) ?_ ?_
    rotate_left
    · show Act.put _ (some 68) _ = _
      simp only [Act.put, List.setIfInBounds_toArray, List.set_cons_zero, List.set_cons_succ, i64_w, i32_w]
      rfl
    refine one_ (i := 2) (N := some 70) #[true, true, true, true, true, true, false, false, false, false, false, false, false, false, false] rfl rfl (by kernel_rfl) (by decide) (fun K hK => ?_)
    refine Kd.R_append_rows_step (Kd.int .u8) (w0 := w) w.heap.size (by rfl) (.tmp 68) (.tmp 69) 22 5 (.int .u8 0) 1 rfl Tryd.underlying22 info5 rfl (by decide) (by decide) v7 ([] : List Int) F A2 F.length c2 (fun _ => True) (fun _ => False) rfl rfl HO7.out (Kd.R_reads' HR27.out).2.2 (fun _ _ h => h) (fun _ h => h.elim) (fun _ _ => trivial) HB7.out HB7.out.size (by simp only [List.length_nil]; omega) ?_
    intro v8 w8 ho8 hb8 hg8 hat8
    rw [List.nil_append] at ho8
    have HO8 := Aside0.mk ho8
    have HB8 := Aside0.mk hb8
    have HS8 := Aside0.mk (HS7.out.grown hg8 HS7.out.size HN7.out)
    have HN8 : Aside0 (∀ k, v8.ownBlock = some k → w6.heap.size ≤ k) := ⟨fun k e => by rcases hat8 with h | ⟨b, h, hb⟩; exact HN7.out k (h ▸ e); rw [e] at h; cases h; exact Nat.le_trans HS7.out.size hb⟩
    have HC58 := Aside0.mk (take_len HTL.out (Kd.C_take (m := C) (Kd.R_reads' (Kd.R_below HR5.out HS8.out)).2.2 (by rw [← HL.out]; omega)))
    clear ho8 hb8 hg8 hat8 HO7 HB7 HS7 HN7 HR27
    refine hK.out _ _ trivial (fun hHeld => ?_)
    clear hK K
    refine norm_ (a' := ?_) ?_ ?_
    rotate_left
    · show Act.put _ (some 70) _ = _
      simp only [Act.put, List.setIfInBounds_toArray, List.set_cons_zero, List.set_cons_succ, i64_w, i32_w]
      rfl
    refine one_ (i := 6) (N := some 74) #[true, true, true, true, true, true, true, false, false, false, false, false, false, false, false] rfl rfl (by kernel_rfl) (by decide) (fun K hK => ?_)
    refine Kd.R_append_rows_step (Kd.int .u8) (w0 := w) w.heap.size (by rfl) (.tmp 70) (.tmp 73) 22 5 (.int .u8 0) 1 rfl Tryd.underlying22 info5 rfl (by decide) (by decide) v8 F ((sealOf 255 (bytesOf last)).take C) A5 C c5 (fun _ => True) (fun _ => False) rfl rfl HO8.out HC58.out (fun _ _ h => h) (fun _ h => h.elim) (fun _ _ => trivial) HB8.out HB8.out.size (by omega) ?_
    intro v9 w9 ho9 hb9 hg9 hat9
    obtain ⟨A9, c9, hv9⟩ := Kd.R_slice ho9
    subst hv9
    have HO9 := Aside0.mk ho9
    have HB9 := Aside0.mk hb9
    have HT9 := Aside0.mk (HT.out.below (HS8.out.grown hg9 HS8.out.size HN8.out))
    clear ho9 hb9 hg9 hat9 HO8 HB8 HS8 HN8 HC58
    refine hK.out _ _ trivial (fun hHeld => ?_)
    clear hK K
    refine norm_ (a' := ?_) ?_ ?_
    rotate_left
    · show Act.put _ (some 74) _ = _
      simp only [Act.put, List.setIfInBounds_toArray, List.set_cons_zero, List.set_cons_succ, i64_w, i32_w]
      rfl
    refine one_ (i := 7) (N := some 75) #[true, true, true, true, true, true, true, true, false, false, false, false, false, false, false] rfl rfl (by kernel_rfl) (by decide) (fun K hK => ?_)
    refine goes_ Tryd.func27 (by kernel_rfl) rfl #[.slice A9 (F ++ (sealOf 255 (bytesOf last)).take C).length c9] (by rfl) rfl rfl (by simp only [List.map_toArray, List.map_cons, List.map_nil]; rfl) ?_
    with_reducible refine (frame_Scan.calls k A9 c9 (F ++ (sealOf 255 (bytesOf last)).take C) X (F.length : Int) 3 w9 HT9.out (Kd.R_reads' HO9.out).2.2 (Kd.R_reads' HO9.out).2.1 hsc).mono ?_
    rintro e w10 ⟨v10, rfl, ho10, hb10⟩
    obtain ⟨A10, c10, hv10⟩ := Kd.S_slice ho10
    subst hv10
    have HB10 := Aside0.mk (below_step HB9.out hb10)
    clear ho10 hb10 HO9 HB9 HT9
    refine ⟨_, rfl, ?_⟩
    refine hK.out _ _ trivial (fun hHeld => ?_)
    clear hK K
    refine norm_ (a' := ?_) ?_ ?_
    rotate_left
    · show Act.put _ (some 75) _ = _
      simp only [Act.put, List.setIfInBounds_toArray, List.set_cons_zero, List.set_cons_succ, i64_w, i32_w]
      rfl
    refine pure_ (i := 8) (N := some 67) (v := ?_) (a' := ?_) #[true, true, true, true, true, true, true, true, true, false, false, false, false, false, false] rfl rfl (by kernel_rfl) (fun _ _ _ h => h) (Or.inl ⟨by rfl, ?_⟩) ?_ ?_
    rotate_left
    · intro w'
      go_simp
      with_reducible rfl
    rotate_left
    · simp only [Act.put, List.setIfInBounds_toArray, List.set_cons_zero, List.set_cons_succ, i64_w, i32_w]
      rfl
    refine pure_ (i := 9) (N := some 76) (v := ?_) (a' := ?_) #[true, true, true, true, true, true, true, true, true, true, false, false, false, false, false] rfl rfl (by kernel_rfl) (fun _ _ _ h => h) (Or.inl ⟨by rfl, ?_⟩) ?_ ?_
    rotate_left
    · intro w'
      go_simp
      with_reducible rfl
    rotate_left
    · simp only [Act.put, List.setIfInBounds_toArray, List.set_cons_zero, List.set_cons_succ, i64_w, i32_w]
      rfl
    refine pure_ (i := 10) (N := some 77) (v := ?_) (a' := ?_) #[true, true, true, true, true, true, true, true, true, true, true, false, false, false, false] rfl rfl (by kernel_rfl) (fun _ _ _ h => h) (Or.inl ⟨by rfl, ?_⟩) ?_ ?_
    rotate_left
    · intro w'
      go_simp
      with_reducible rfl
    rotate_left
    · simp only [Act.put, List.setIfInBounds_toArray, List.set_cons_zero, List.set_cons_succ, i64_w, i32_w]
      rfl
    refine pure_ (i := 11) (N := some 78) (v := ?_) (a' := ?_) #[true, true, true, true, true, true, true, true, true, true, true, true, false, false, false] rfl rfl (by kernel_rfl) (fun _ _ _ h => h) (Or.inl ⟨by rfl, ?_⟩) ?_ ?_
    rotate_left
    · intro w'
      go_simp
      with_reducible rfl
    rotate_left
    · simp only [Act.put, List.setIfInBounds_toArray, List.set_cons_zero, List.set_cons_succ, i64_w, i32_w]
      rfl
    refine pure_ (i := 12) (N := some 12) (v := ?_) (a' := ?_) #[true, true, true, true, true, true, true, true, true, true, true, true, true, false, false] rfl rfl (by kernel_rfl) (fun _ _ _ h => h) (Or.inl ⟨by rfl, ?_⟩) ?_ ?_
    rotate_left
    · intro w'
      go_simp
      with_reducible rfl
    rotate_left
    · simp only [Act.put, List.setIfInBounds_toArray, List.set_cons_zero, List.set_cons_succ, i64_w, i32_w]
      rfl
    refine pure_ (i := 13) (N := some 13) (v := ?_) (a' := ?_) #[true, true, true, true, true, true, true, true, true, true, true, true, true, true, false] rfl rfl (by kernel_rfl) (fun _ _ _ h => h) (Or.inl ⟨by rfl, ?_⟩) ?_ ?_
    rotate_left
    · intro w'
      go_simp
      with_reducible rfl
    rotate_left
    · simp only [Act.put, List.setIfInBounds_toArray, List.set_cons_zero, List.set_cons_succ, i64_w, i32_w]
      rfl
    refine pure_ (i := 14) (N := some 14) (v := ?_) (a' := ?_) #[true, true, true, true, true, true, true, true, true, true, true, true, true, true, true] rfl rfl (by kernel_rfl) (fun _ _ _ h => h) (Or.inl ⟨by rfl, ?_⟩) ?_ ?_
    rotate_left
    · intro w'
      go_simp
      with_reducible rfl
    rotate_left
    · simp only [Act.put, List.setIfInBounds_toArray, List.set_cons_zero, List.set_cons_succ, i64_w, i32_w]
      rfl
    refine done_ (by kernel_rfl) ?_
    go_wp2_with (go_at_call 19; (with_reducible refine (wicketlaw01_num.calls _ _ _ rfl).mono ?_); rintro e w11 ⟨rfl, hd⟩; replace HB10 := Aside0.mk (below_step HB10.out (drawn_below hd)); clear hd)
    go_ret
    exact ⟨rfl, HB10.out⟩
  · have b3 : decide (cut < 0) = false := decide_eq_false hn
    go_wp2_with fail
    obtain ⟨C, hC, hC1, hC2⟩ : ∃ C : Nat, wrap64 (1 + cut % ((last.size : Int) + 9 - 1)) = (C : Int) ∧ 1 ≤ C ∧ C < last.size + 9 := cut_pos cut last.size HCUT.out (by omega) hl2
    rw [hC]
    obtain ⟨k, X, hX, hsc⟩ := HS.out hl2 C hC1 (by rw [HPL.out]; exact hC2)
    have hcap5 : last.size + 9 ≤ c5 := by have := (Kd.R_reads' HR5.out).2.1; rw [HPL.out] at this; exact this
    have hcut := cut_own A5 (last.size + 9) c5 C (by omega) hcap5
    have hFl := HF.out (min KL.length TL.length) (Nat.min_le_left _ _)
    obtain ⟨F, hFe⟩ : ∃ F, F = fileN KL TL (min KL.length TL.length) := ⟨_, rfl⟩
    rw [← hFe] at hsc hFl HR
    rw [← hFe]
    obtain ⟨Q, hQ⟩ : ∃ Q, Q = cntN KL TL (min KL.length TL.length) := ⟨_, rfl⟩
    rw [← hQ] at hX
    rw [← hQ]
    clear hC hFe hQ b1 b2 b3 hn
    have HLS := Aside0.mk hLs
    have HTL : Aside0 (((sealOf 255 (bytesOf last)).take C).length = C) := ⟨by rw [List.length_take, HPL.out]; omega⟩
    refine start_ (n := 15) (S := fun w' => True) (ds := []) #[false, false, false, false, false, false, false, false, false, false, false, false, false, false, false] (by kernel_rfl) rfl rfl trivial (fun hHeld => ?_)
    refine pure_ (i := 1) (N := some 69) (v := ?_) (a' := ?_) #[false, true, false, false, false, false, false, false, false, false, false, false, false, false, false] rfl rfl (by kernel_rfl) (fun _ _ _ h => h) (Or.inl ⟨by rfl, ?_⟩) ?_ ?_
    rotate_left
    · intro w'
      go_simp
      with_reducible rfl
    rotate_left
    · simp only [Act.put, List.setIfInBounds_toArray, List.set_cons_zero, List.set_cons_succ, i64_w, i32_w]
      rfl
    refine pure_ (i := 3) (N := some 71) (v := ?_) (a' := ?_) #[false, true, false, true, false, false, false, false, false, false, false, false, false, false, false] rfl rfl (by kernel_rfl) (fun _ _ _ h => h) (Or.inl ⟨by rfl, ?_⟩) ?_ ?_
    rotate_left
    · intro w'
      go_simp
      with_reducible rfl
    rotate_left
    · simp only [Act.put, List.setIfInBounds_toArray, List.set_cons_zero, List.set_cons_succ, i64_w, i32_w]
      rfl
    refine pure_ (i := 4) (N := some 72) (v := ?_) (a' := ?_) #[false, true, false, true, true, false, false, false, false, false, false, false, false, false, false] rfl rfl (by kernel_rfl) (fun _ _ _ h => h) (Or.inl ⟨by rfl, ?_⟩) ?_ ?_
    rotate_left
    · intro w'
      go_simp
      with_reducible rfl
    rotate_left
    · simp only [Act.put, List.setIfInBounds_toArray, List.set_cons_zero, List.set_cons_succ, i64_w, i32_w]
      rfl
    refine pure_ (i := 5) (N := some 73) (v := ?_) (a' := ?_) #[false, true, false, true, true, true, false, false, false, false, false, false, false, false, false] rfl rfl (by kernel_rfl) (fun _ _ _ h => h) (Or.inl ⟨by rfl, ?_⟩) ?_ ?_
    rotate_left
    · intro w'
      go_simp
      with_reducible rfl
    rotate_left
    · simp only [Act.put, List.setIfInBounds_toArray, List.set_cons_zero, List.set_cons_succ, i64_w, i32_w]
      rfl
    refine one_ (i := 0) (N := some 68) #[true, true, false, true, true, true, false, false, false, false, false, false, false, false, false] rfl rfl (by kernel_rfl) (by decide) (fun K hK => ?_)
    refine Kd.R_lit_step (Kd.int .u8) (w0 := w) w.heap.size 5 (by rfl) rfl (xs := ([] : List Int)) (inner := []) (ok := fun _ => True) (okp := fun _ => True) ?hr (Reps.none _ _) (fun _ hk => hk) trivial (below_drew1 HB.out) HB.out.size (by simp) ?_
    case hr => first | (go_simp; done) | (go_simp; rfl)
    intro v7 w7 ho7 hb7 hg7 hn7
    have hs7 := below_step (below_drew1 (Below.refl w6.heap.size w6)) (below_of_grown hg7)
    have HO7 := Aside0.mk ho7
    have HB7 := Aside0.mk hb7
    have HS7 := Aside0.mk hs7
    have HN7 : Aside0 (∀ k, v7.ownBlock = some k → w6.heap.size ≤ k) := ⟨fun k e => by obtain ⟨b, e2, hb⟩ := hn7; rw [e] at e2; cases e2; exact hb⟩
    have HR27 := Aside0.mk (Kd.R_below HR.out hs7)
    clear ho7 hb7 hg7 hn7 hs7
    refine hK.out _ _ trivial (fun hHeld => ?_)
    clear hK K
    refine norm_ (a' := ?_) ?_ ?_
    rotate_left
    · show Act.put _ (some 68) _ = _
      simp only [Act.put, List.setIfInBounds_toArray, List.set_cons_zero, List.set_cons_succ, i64_w, i32_w]
      rfl
    refine one_ (i := 2) (N := some 70) #[true, true, true, true, true, true, false, false, false, false, false, false, false, false, false] rfl rfl (by kernel_rfl) (by decide) (fun K hK => ?_)
    refine Kd.R_append_rows_step (Kd.int .u8) (w0 := w) w.heap.size (by rfl) (.tmp 68) (.tmp 69) 22 5 (.int .u8 0) 1 rfl Tryd.underlying22 info5 rfl (by decide) (by decide) v7 ([] : List Int) F A2 F.length c2 (fun _ => True) (fun _ => False) rfl rfl HO7.out (Kd.R_reads' HR27.out).2.2 (fun _ _ h => h) (fun _ h => h.elim) (fun _ _ => trivial) HB7.out HB7.out.size (by simp only [List.length_nil]; omega) ?_
    intro v8 w8 ho8 hb8 hg8 hat8
    rw [List.nil_append] at ho8
    have HO8 := Aside0.mk ho8
    have HB8 := Aside0.mk hb8
    have HS8 := Aside0.mk (HS7.out.grown hg8 HS7.out.size HN7.out)
    have HN8 : Aside0 (∀ k, v8.ownBlock = some k → w6.heap.size ≤ k) := ⟨fun k e => by rcases hat8 with h | ⟨b, h, hb⟩; exact HN7.out k (h ▸ e); rw [e] at h; cases h; exact Nat.le_trans HS7.out.size hb⟩
    have HC58 := Aside0.mk (take_len HTL.out (Kd.C_take (m := C) (Kd.R_reads' (Kd.R_below HR5.out HS8.out)).2.2 (by rw [← HL.out]; omega)))
    clear ho8 hb8 hg8 hat8 HO7 HB7 HS7 HN7 HR27
    refine hK.out _ _ trivial (fun hHeld => ?_)
    clear hK K
    refine norm_ (a' := ?_) ?_ ?_
    rotate_left
    · show Act.put _ (some 70) _ = _
      simp only [Act.put, List.setIfInBounds_toArray, List.set_cons_zero, List.set_cons_succ, i64_w, i32_w]
      rfl
    refine one_ (i := 6) (N := some 74) #[true, true, true, true, true, true, true, false, false, false, false, false, false, false, false] rfl rfl (by kernel_rfl) (by decide) (fun K hK => ?_)
    refine Kd.R_append_rows_step (Kd.int .u8) (w0 := w) w.heap.size (by rfl) (.tmp 70) (.tmp 73) 22 5 (.int .u8 0) 1 rfl Tryd.underlying22 info5 rfl (by decide) (by decide) v8 F ((sealOf 255 (bytesOf last)).take C) A5 C c5 (fun _ => True) (fun _ => False) rfl rfl HO8.out HC58.out (fun _ _ h => h) (fun _ h => h.elim) (fun _ _ => trivial) HB8.out HB8.out.size (by omega) ?_
    intro v9 w9 ho9 hb9 hg9 hat9
    obtain ⟨A9, c9, hv9⟩ := Kd.R_slice ho9
    subst hv9
    have HO9 := Aside0.mk ho9
    have HB9 := Aside0.mk hb9
    have HT9 := Aside0.mk (HT.out.below (HS8.out.grown hg9 HS8.out.size HN8.out))
    clear ho9 hb9 hg9 hat9 HO8 HB8 HS8 HN8 HC58
    refine hK.out _ _ trivial (fun hHeld => ?_)
    clear hK K
    refine norm_ (a' := ?_) ?_ ?_
    rotate_left
    · show Act.put _ (some 74) _ = _
      simp only [Act.put, List.setIfInBounds_toArray, List.set_cons_zero, List.set_cons_succ, i64_w, i32_w]
      rfl
    refine one_ (i := 7) (N := some 75) #[true, true, true, true, true, true, true, true, false, false, false, false, false, false, false] rfl rfl (by kernel_rfl) (by decide) (fun K hK => ?_)
    refine goes_ Tryd.func27 (by kernel_rfl) rfl #[.slice A9 (F ++ (sealOf 255 (bytesOf last)).take C).length c9] (by rfl) rfl rfl (by simp only [List.map_toArray, List.map_cons, List.map_nil]; rfl) ?_
    with_reducible refine (frame_Scan.calls k A9 c9 (F ++ (sealOf 255 (bytesOf last)).take C) X (F.length : Int) 3 w9 HT9.out (Kd.R_reads' HO9.out).2.2 (Kd.R_reads' HO9.out).2.1 hsc).mono ?_
    rintro e w10 ⟨v10, rfl, ho10, hb10⟩
    obtain ⟨A10, c10, hv10⟩ := Kd.S_slice ho10
    subst hv10
    have HB10 := Aside0.mk (below_step HB9.out hb10)
    clear ho10 hb10 HO9 HB9 HT9
    refine ⟨_, rfl, ?_⟩
    refine hK.out _ _ trivial (fun hHeld => ?_)
    clear hK K
    refine norm_ (a' := ?_) ?_ ?_
    rotate_left
    · show Act.put _ (some 75) _ = _
      simp only [Act.put, List.setIfInBounds_toArray, List.set_cons_zero, List.set_cons_succ, i64_w, i32_w]
      rfl
    refine pure_ (i := 8) (N := some 67) (v := ?_) (a' := ?_) #[true, true, true, true, true, true, true, true, true, false, false, false, false, false, false] rfl rfl (by kernel_rfl) (fun _ _ _ h => h) (Or.inl ⟨by rfl, ?_⟩) ?_ ?_
    rotate_left
    · intro w'
      go_simp
      with_reducible rfl
    rotate_left
    · simp only [Act.put, List.setIfInBounds_toArray, List.set_cons_zero, List.set_cons_succ, i64_w, i32_w]
      rfl
    refine pure_ (i := 9) (N := some 76) (v := ?_) (a' := ?_) #[true, true, true, true, true, true, true, true, true, true, false, false, false, false, false] rfl rfl (by kernel_rfl) (fun _ _ _ h => h) (Or.inl ⟨by rfl, ?_⟩) ?_ ?_
    rotate_left
    · intro w'
      go_simp
      with_reducible rfl
    rotate_left
    · simp only [Act.put, List.setIfInBounds_toArray, List.set_cons_zero, List.set_cons_succ, i64_w, i32_w]
      rfl
    refine pure_ (i := 10) (N := some 77) (v := ?_) (a' := ?_) #[true, true, true, true, true, true, true, true, true, true, true, false, false, false, false] rfl rfl (by kernel_rfl) (fun _ _ _ h => h) (Or.inl ⟨by rfl, ?_⟩) ?_ ?_
    rotate_left
    · intro w'
      go_simp
      with_reducible rfl
    rotate_left
    · simp only [Act.put, List.setIfInBounds_toArray, List.set_cons_zero, List.set_cons_succ, i64_w, i32_w]
      rfl
    refine pure_ (i := 11) (N := some 78) (v := ?_) (a' := ?_) #[true, true, true, true, true, true, true, true, true, true, true, true, false, false, false] rfl rfl (by kernel_rfl) (fun _ _ _ h => h) (Or.inl ⟨by rfl, ?_⟩) ?_ ?_
    rotate_left
    · intro w'
      go_simp
      with_reducible rfl
    rotate_left
    · simp only [Act.put, List.setIfInBounds_toArray, List.set_cons_zero, List.set_cons_succ, i64_w, i32_w]
      rfl
    refine pure_ (i := 12) (N := some 12) (v := ?_) (a' := ?_) #[true, true, true, true, true, true, true, true, true, true, true, true, true, false, false] rfl rfl (by kernel_rfl) (fun _ _ _ h => h) (Or.inl ⟨by rfl, ?_⟩) ?_ ?_
    rotate_left
    · intro w'
      go_simp
      with_reducible rfl
    rotate_left
    · simp only [Act.put, List.setIfInBounds_toArray, List.set_cons_zero, List.set_cons_succ, i64_w, i32_w]
      rfl
    refine pure_ (i := 13) (N := some 13) (v := ?_) (a' := ?_) #[true, true, true, true, true, true, true, true, true, true, true, true, true, true, false] rfl rfl (by kernel_rfl) (fun _ _ _ h => h) (Or.inl ⟨by rfl, ?_⟩) ?_ ?_
    rotate_left
    · intro w'
      go_simp
      with_reducible rfl
    rotate_left
    · simp only [Act.put, List.setIfInBounds_toArray, List.set_cons_zero, List.set_cons_succ, i64_w, i32_w]
      rfl
    refine pure_ (i := 14) (N := some 14) (v := ?_) (a' := ?_) #[true, true, true, true, true, true, true, true, true, true, true, true, true, true, true] rfl rfl (by kernel_rfl) (fun _ _ _ h => h) (Or.inl ⟨by rfl, ?_⟩) ?_ ?_
    rotate_left
    · intro w'
      go_simp
      with_reducible rfl
    rotate_left
    · simp only [Act.put, List.setIfInBounds_toArray, List.set_cons_zero, List.set_cons_succ, i64_w, i32_w]
      rfl
    refine done_ (by kernel_rfl) ?_
    go_wp2_with (go_at_call 19; (with_reducible refine (wicketlaw01_num.calls _ _ _ rfl).mono ?_); rintro e w11 ⟨rfl, hd⟩; replace HB10 := Aside0.mk (below_step HB10.out (drawn_below hd)); clear hd)
    go_ret
    exact ⟨rfl, HB10.out⟩
end Go.Proofs.YtdlfhpkkkhfhdaaDoor.Hand
