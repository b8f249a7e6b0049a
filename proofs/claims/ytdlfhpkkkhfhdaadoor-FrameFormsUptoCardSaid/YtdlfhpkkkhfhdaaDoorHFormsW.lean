/- law01's FrameForms: the walk: three readings, each written again where it went well. -/
import Derived.Test.YtdlfhpkkkhfhdaaDoorQx
import Derived.Test.YtdlfhpkkkhfhdaaDoorHLive
import Derived.Test.YtdlfhpkkkhfhdaaDoorHOpensW
import Derived.Outline
import Derived.Deep.RegionHeld3
namespace Go.Proofs.YtdlfhpkkkhfhdaaDoor.Hand
open Go.RowKit Go.Proofs.YtdlfhpkkkhfhdaaDoorW.PrintWords Go.Proofs.YtdlfhpkkkhfhdaaDoorW.PrintLast Go.Proofs.YtdlfhpkkkhfhdaaDoorW.PrintMore Go.Proofs.YtdlfhpkkkhfhdaaDoor.Q
set_option linter.unusedVariables false

/-- What was read ends within, and is what would be written. -/
structure Again (l X : List Int) (n : Int) : Prop where
  n : n = (X.length : Int)
  le : X.length ≤ l.length
  take : l.take X.length = X
theorem Again.C {l X : List Int} {n : Int} (h : Again l X n) {w : World} {A : Option Addr} (hC : Kd.C (Kd.int .u8) w A l.length l) : Kd.C (Kd.int .u8) w A X.length X := by
  have h1 := Kd.C_take (m := X.length) hC h.le
  rwa [h.take] at h1
set_option maxHeartbeats 2000000 in
set_option maxRecDepth 100000 in
theorem wicketlaw01_FrameForms.walk (k : Nat) (A : Option Addr) (c : Nat) (l : List Int) (most u ku eu m et kd n eo : Int) (sv : ByteArray) (Lo : List Int) (w : World) (hT : Tb w) (hr : Kd.C (Kd.int .u8) w A l.length l) (hc : l.length ≤ c)
    (h1 : frame_Uint.f k l = some (u, ku, eu)) (h2 : frame_Text.f k l most = some (sv, m, et)) (h3 : frame_Open.f l = some (kd, Lo, n, eo))
    (g1 : eu = 0 → ∃ X, Again l X ku ∧ 1 ≤ X.length ∧ frame_PutUint.f [] u = some X)
    (g2 : et = 0 → ∃ X, Again l X m ∧ 1 ≤ X.length ∧ (sv.size : Int) ≤ most ∧ frame_PutText.f [] sv = some X)
    (g3 : eo = 0 → ∃ X, Again l X n ∧ 9 ≤ X.length ∧ frame_Seal.f kd Lo = some (X, 0))
    (h5 : ∀ X, wicketlaw01_same.f X X = some true) (h8 : wicketlaw01_live.f = some true) :
    Calls Tryd.prog 11 #[.slice A l.length c, .int .i64 most] w fun e w' => e = .returned (.bool true) ∧ Below w.heap.size w w' := by
  have HB := Aside0.mk (Below.refl w.heap.size w)
  have HC0 := Aside0.mk hr
  have HT0 := Aside0.mk hT
  have H1 := Aside0.mk h1
  have H2 := Aside0.mk h2
  have H3 := Aside0.mk h3
  have H5 := Aside0.mk h5
  have H8 := Aside0.mk h8
  have G1 := Aside0.mk g1
  have G2 := Aside0.mk g2
  have G3 := Aside0.mk g3
  have HLM := Aside0.mk (Kd.C_max hr)
  have HCC := Aside0.mk hc
  clear hr hT h1 h2 h3 h5 h8 g1 g2 g3 hc
  go_enter Tryd.func11, Tryd.ntmps11
  go_wp2_with fail
  refine (frame_Uint.calls k A c l u ku eu w HC0.out HCC.out H1.out).mono ?_
  rintro x w1 ⟨rfl, hd⟩
  replace HB := Aside0.mk (below_step HB.out (drawn_below hd))
  clear hd
  go_upto_region 2 with (fail)
  go_cut [43] (fun v43 wc => v43 = .bool false ∧ Aside0 (Below w.heap.size w wc))
  case first =>
    by_cases he : eu = 0
    · obtain ⟨X, hA, hX1, hX2⟩ := G1.out he
      subst he
      obtain rfl := hA.n
      have HA := Aside0.mk hA
      have HX := Aside0.mk hX2
      have hle := hA.le
      have d1 : decide ((X.length : Int) < 1) = false := decide_eq_false (by omega)
      have d2 : decide ((l.length : Int) < (X.length : Int)) = false := decide_eq_false (by omega)
      have d3 : decide ((X.length : Int) > (l.length : Int)) = false := decide_eq_false (by omega)
      have d6 : decide (l.length < X.length) = false := decide_eq_false (by omega)
      have d7 : decide (X.length < 1) = false := decide_eq_false (by omega)
      have d8 : ¬ l.length < X.length := by omega
      have d4 : ¬ (X.length : Int) < 1 := by omega
      have d5 : ¬ (l.length : Int) < (X.length : Int) := by omega
      have hle2 := Aside0.mk hle
      clear hle hX1
      have hcut := cut_own A l.length c X.length hA.le HCC.out
      clear hA hX2 H1 G1 G2 G3
      go_region_held3 (fun w' => True) (trivial) (first
        | (go_at_call 19; (with_reducible refine (wicketlaw01_num.calls _ _ _ rfl).mono ?_); rintro e w' ⟨rfl, ⟨nd, rfl⟩⟩)
        | (go_at_call 34; refine (frame_PutUint.calls none 0 [] u X _ (C_zero _ _) (Nat.zero_le _) HX.out).mono ?_; rintro e w2 ⟨v2, rfl, ho, hb⟩; obtain ⟨A2, c2, hv2⟩ := Kd.R_slice ho; subst hv2; have HR2 := Aside0.mk ho; have HB2 := Aside0.mk (below_step (by repeat (first | exact HB.out | apply pw_below_drewN | apply below_drew1 | apply below_alloc)) hb); have HC2 := Aside0.mk (HA.out.C (Kd.C_below HC0.out HB2.out)); clear ho hb)
        | (go_at_call 23; refine (wicketlaw01_same.calls A2 c2 X A c X true _ (by (with_reducible repeat (first | apply Kd.C_drewN | apply Kd.C_drew | apply Kd.C_alloc)); exact (Kd.R_reads' HR2.out).2.2) (Kd.R_reads' HR2.out).2.1 (by (with_reducible repeat (first | apply Kd.C_drewN | apply Kd.C_drew | apply Kd.C_alloc)); exact HC2.out) (Nat.le_trans hle2.out HCC.out) (H5.out X)).mono ?_; rintro e w' ⟨rfl, ⟨nd2, rfl⟩⟩))
      go_wp2_with fail
      go_meet
      case rel => exact ⟨rfl, ⟨by repeat (first | exact HB2.out | apply pw_below_drewN | apply below_drew1 | apply below_alloc)⟩⟩
    · have b1 : (eu == 0) = false := beq_eq_false_iff_ne.mpr he
      clear H1 G1 G2 G3 he
      all_goals
        refine start_ (n := 22) (S := fun w' => True) (ds := []) #[false, false, false, false, false, false, false, false, false, false, false, false, false, false, false, false, false, false, false, false, false, false] (by kernel_rfl) rfl rfl trivial (fun hHeld => ?_)
        refine pure_ (i := 0) (N := some 22) (v := ?_) (a' := ?_) #[true, false, false, false, false, false, false, false, false, false, false, false, false, false, false, false, false, false, false, false, false, false] rfl rfl (by kernel_rfl) (fun _ _ _ h => h) (Or.inl ⟨by rfl, ?_⟩) ?_ ?_
        rotate_left
        · intro w'
          go_simp
          with_reducible rfl
        rotate_left
        · simp only [Act.put, List.setIfInBounds_toArray, List.set_cons_zero, List.set_cons_succ, i64_w, i32_w]
          rfl
        refine one_ (i := 1) (N := some 23) #[true, true, false, false, false, false, false, false, false, false, false, false, false, false, false, false, false, false, false, false, false, false] rfl rfl (by kernel_rfl) (by decide) (fun K hK => ?_)
        refine goes_ Tryd.func19 (by kernel_rfl) rfl #[.int .i64 eu] (by rfl) rfl rfl (by simp only [List.map_toArray, List.map_cons, List.map_nil]; rfl) ?_
        with_reducible refine (wicketlaw01_num.calls _ _ _ rfl).mono ?_
        rintro e w3 ⟨rfl, ⟨nd, rfl⟩⟩
        refine ⟨_, rfl, ?_⟩
        refine hK.out _ _ trivial (fun hHeld => ?_)
        clear hK K
        refine norm_ (a' := ?_) ?_ ?_
        rotate_left
        · show Act.put _ (some 23) _ = _
          simp only [Act.put, List.setIfInBounds_toArray, List.set_cons_zero, List.set_cons_succ, i64_w, i32_w]
          rfl
        refine pure_ (i := 2) (N := some 24) (v := ?_) (a' := ?_) #[true, true, true, false, false, false, false, false, false, false, false, false, false, false, false, false, false, false, false, false, false, false] rfl rfl (by kernel_rfl) (fun _ _ _ h => h) (Or.inl ⟨by rfl, ?_⟩) ?_ ?_
        rotate_left
        · intro w'
          go_simp
          with_reducible rfl
        rotate_left
        · simp only [Act.put, List.setIfInBounds_toArray, List.set_cons_zero, List.set_cons_succ, i64_w, i32_w]
          rfl
        refine pure_ (i := 3) (N := some 25) (v := ?_) (a' := ?_) #[true, true, true, true, false, false, false, false, false, false, false, false, false, false, false, false, false, false, false, false, false, false] rfl rfl (by kernel_rfl) (fun _ _ _ h => h) (Or.inl ⟨by rfl, ?_⟩) ?_ ?_
        rotate_left
        · intro w'
          go_simp
          with_reducible rfl
        rotate_left
        · simp only [Act.put, List.setIfInBounds_toArray, List.set_cons_zero, List.set_cons_succ, i64_w, i32_w]
          rfl
        refine pure_ (i := 4) (N := some 26) (v := undef) (a' := ?_) #[true, true, true, true, true, false, false, false, false, false, false, false, false, false, false, false, false, false, false, false, false, false] rfl rfl (by kernel_rfl) (fun _ _ _ h => h) (Or.inr ⟨by rfl, rfl⟩) ?_ ?_
        rotate_left
        · simp only [Act.put, List.setIfInBounds_toArray, List.set_cons_zero, List.set_cons_succ, i64_w, i32_w]
          rfl
        refine pure_ (i := 5) (N := some 27) (v := undef) (a' := ?_) #[true, true, true, true, true, true, false, false, false, false, false, false, false, false, false, false, false, false, false, false, false, false] rfl rfl (by kernel_rfl) (fun _ _ _ h => h) (Or.inr ⟨by rfl, rfl⟩) ?_ ?_
        rotate_left
        · simp only [Act.put, List.setIfInBounds_toArray, List.set_cons_zero, List.set_cons_succ, i64_w, i32_w]
          rfl
        refine pure_ (i := 6) (N := some 28) (v := undef) (a' := ?_) #[true, true, true, true, true, true, true, false, false, false, false, false, false, false, false, false, false, false, false, false, false, false] rfl rfl (by kernel_rfl) (fun _ _ _ h => h) (Or.inr ⟨by rfl, rfl⟩) ?_ ?_
        rotate_left
        · simp only [Act.put, List.setIfInBounds_toArray, List.set_cons_zero, List.set_cons_succ, i64_w, i32_w]
          rfl
        refine pure_ (i := 7) (N := some 29) (v := undef) (a' := ?_) #[true, true, true, true, true, true, true, true, false, false, false, false, false, false, false, false, false, false, false, false, false, false] rfl rfl (by kernel_rfl) (fun _ _ _ h => h) (Or.inr ⟨by rfl, rfl⟩) ?_ ?_
        rotate_left
        · simp only [Act.put, List.setIfInBounds_toArray, List.set_cons_zero, List.set_cons_succ, i64_w, i32_w]
          rfl
        refine pure_ (i := 8) (N := some 30) (v := undef) (a' := ?_) #[true, true, true, true, true, true, true, true, true, false, false, false, false, false, false, false, false, false, false, false, false, false] rfl rfl (by kernel_rfl) (fun _ _ _ h => h) (Or.inr ⟨by rfl, rfl⟩) ?_ ?_
        rotate_left
        · simp only [Act.put, List.setIfInBounds_toArray, List.set_cons_zero, List.set_cons_succ, i64_w, i32_w]
          rfl
        refine pure_ (i := 9) (N := some 31) (v := undef) (a' := ?_) #[true, true, true, true, true, true, true, true, true, true, false, false, false, false, false, false, false, false, false, false, false, false] rfl rfl (by kernel_rfl) (fun _ _ _ h => h) (Or.inr ⟨by rfl, rfl⟩) ?_ ?_
        rotate_left
        · simp only [Act.put, List.setIfInBounds_toArray, List.set_cons_zero, List.set_cons_succ, i64_w, i32_w]
          rfl
        refine pure_ (i := 10) (N := some 32) (v := undef) (a' := ?_) #[true, true, true, true, true, true, true, true, true, true, true, false, false, false, false, false, false, false, false, false, false, false] rfl rfl (by kernel_rfl) (fun _ _ _ h => h) (Or.inr ⟨by rfl, rfl⟩) ?_ ?_
        rotate_left
        · simp only [Act.put, List.setIfInBounds_toArray, List.set_cons_zero, List.set_cons_succ, i64_w, i32_w]
          rfl
        refine pure_ (i := 11) (N := some 33) (v := undef) (a' := ?_) #[true, true, true, true, true, true, true, true, true, true, true, true, false, false, false, false, false, false, false, false, false, false] rfl rfl (by kernel_rfl) (fun _ _ _ h => h) (Or.inr ⟨by rfl, rfl⟩) ?_ ?_
        rotate_left
        · simp only [Act.put, List.setIfInBounds_toArray, List.set_cons_zero, List.set_cons_succ, i64_w, i32_w]
          rfl
        refine pure_ (i := 12) (N := some 34) (v := undef) (a' := ?_) #[true, true, true, true, true, true, true, true, true, true, true, true, true, false, false, false, false, false, false, false, false, false] rfl rfl (by kernel_rfl) (fun _ _ _ h => h) (Or.inr ⟨by rfl, rfl⟩) ?_ ?_
        rotate_left
        · simp only [Act.put, List.setIfInBounds_toArray, List.set_cons_zero, List.set_cons_succ, i64_w, i32_w]
          rfl
        refine pure_ (i := 13) (N := some 35) (v := undef) (a' := ?_) #[true, true, true, true, true, true, true, true, true, true, true, true, true, true, false, false, false, false, false, false, false, false] rfl rfl (by kernel_rfl) (fun _ _ _ h => h) (Or.inr ⟨by rfl, rfl⟩) ?_ ?_
        rotate_left
        · simp only [Act.put, List.setIfInBounds_toArray, List.set_cons_zero, List.set_cons_succ, i64_w, i32_w]
          rfl
        refine pure_ (i := 14) (N := some 36) (v := undef) (a' := ?_) #[true, true, true, true, true, true, true, true, true, true, true, true, true, true, true, false, false, false, false, false, false, false] rfl rfl (by kernel_rfl) (fun _ _ _ h => h) (Or.inr ⟨by rfl, rfl⟩) ?_ ?_
        rotate_left
        · simp only [Act.put, List.setIfInBounds_toArray, List.set_cons_zero, List.set_cons_succ, i64_w, i32_w]
          rfl
        refine pure_ (i := 15) (N := some 37) (v := undef) (a' := ?_) #[true, true, true, true, true, true, true, true, true, true, true, true, true, true, true, true, false, false, false, false, false, false] rfl rfl (by kernel_rfl) (fun _ _ _ h => h) (Or.inr ⟨by rfl, rfl⟩) ?_ ?_
        rotate_left
        · simp only [Act.put, List.setIfInBounds_toArray, List.set_cons_zero, List.set_cons_succ, i64_w, i32_w]
          rfl
        refine pure_ (i := 16) (N := some 38) (v := undef) (a' := ?_) #[true, true, true, true, true, true, true, true, true, true, true, true, true, true, true, true, true, false, false, false, false, false] rfl rfl (by kernel_rfl) (fun _ _ _ h => h) (Or.inr ⟨by rfl, rfl⟩) ?_ ?_
        rotate_left
        · simp only [Act.put, List.setIfInBounds_toArray, List.set_cons_zero, List.set_cons_succ, i64_w, i32_w]
          rfl
        refine pure_ (i := 17) (N := some 39) (v := undef) (a' := ?_) #[true, true, true, true, true, true, true, true, true, true, true, true, true, true, true, true, true, true, false, false, false, false] rfl rfl (by kernel_rfl) (fun _ _ _ h => h) (Or.inr ⟨by rfl, rfl⟩) ?_ ?_
        rotate_left
        · simp only [Act.put, List.setIfInBounds_toArray, List.set_cons_zero, List.set_cons_succ, i64_w, i32_w]
          rfl
        refine pure_ (i := 18) (N := some 40) (v := undef) (a' := ?_) #[true, true, true, true, true, true, true, true, true, true, true, true, true, true, true, true, true, true, true, false, false, false] rfl rfl (by kernel_rfl) (fun _ _ _ h => h) (Or.inr ⟨by rfl, rfl⟩) ?_ ?_
        rotate_left
        · simp only [Act.put, List.setIfInBounds_toArray, List.set_cons_zero, List.set_cons_succ, i64_w, i32_w]
          rfl
        refine pure_ (i := 19) (N := some 41) (v := undef) (a' := ?_) #[true, true, true, true, true, true, true, true, true, true, true, true, true, true, true, true, true, true, true, true, false, false] rfl rfl (by kernel_rfl) (fun _ _ _ h => h) (Or.inr ⟨by rfl, rfl⟩) ?_ ?_
        rotate_left
        · simp only [Act.put, List.setIfInBounds_toArray, List.set_cons_zero, List.set_cons_succ, i64_w, i32_w]
          rfl
        refine pure_ (i := 20) (N := some 42) (v := undef) (a' := ?_) #[true, true, true, true, true, true, true, true, true, true, true, true, true, true, true, true, true, true, true, true, true, false] rfl rfl (by kernel_rfl) (fun _ _ _ h => h) (Or.inr ⟨by rfl, rfl⟩) ?_ ?_
        rotate_left
        · simp only [Act.put, List.setIfInBounds_toArray, List.set_cons_zero, List.set_cons_succ, i64_w, i32_w]
          rfl
        refine pure_ (i := 21) (N := some 43) (v := ?_) (a' := ?_) #[true, true, true, true, true, true, true, true, true, true, true, true, true, true, true, true, true, true, true, true, true, true] rfl rfl (by kernel_rfl) (fun _ _ _ h => h) (Or.inl ⟨by rfl, ?_⟩) ?_ ?_
        rotate_left
        · intro w'
          go_simp
          with_reducible rfl
        rotate_left
        · simp only [Act.put, List.setIfInBounds_toArray, List.set_cons_zero, List.set_cons_succ, i64_w, i32_w]
          rfl
        refine done_ (by kernel_rfl) ?_

        go_wp2_with fail
        go_meet
        case rel => exact ⟨rfl, ⟨by repeat (first | exact HB.out | apply pw_below_drewN | apply below_drew1 | apply below_alloc)⟩⟩
  case rest =>
    clear HB
    obtain ⟨rfl, HB⟩ := hcut
    go_wp2_with fail
    refine (frame_Text.calls k A c l most sv m et wc (Kd.C_below HC0.out HB.out) HCC.out H2.out).mono ?_
    rintro x w2 ⟨rfl, hd⟩
    replace HB := Aside0.mk (below_step HB.out (drawn_below hd))
    clear hd
    go_upto_region 5 with (fail)
    go_cut [78] (fun v78 wc => v78 = .bool false ∧ Aside0 (Below w.heap.size w wc))
    case first =>
      by_cases he : et = 0
      · obtain ⟨X, hA, hX1, hX3, hX2⟩ := G2.out he
        subst he
        obtain rfl := hA.n
        have HA := Aside0.mk hA
        have HX := Aside0.mk hX2
        have hle := hA.le
        have hcut := cut_own A l.length c X.length hA.le HCC.out
        have d1 : decide ((X.length : Int) < 1) = false := decide_eq_false (by omega)
        have d2 : decide ((l.length : Int) < (X.length : Int)) = false := decide_eq_false (by omega)
        have d6 : decide (l.length < X.length) = false := decide_eq_false (by omega)
        have d7 : decide (X.length < 1) = false := decide_eq_false (by omega)
        have d8 : ¬ l.length < X.length := by omega
        have d4 : ¬ (X.length : Int) < 1 := by omega
        have d5 : ¬ (l.length : Int) < (X.length : Int) := by omega
        have d9 : decide (most < (sv.size : Int)) = false := decide_eq_false (by omega)
        have d10 : decide ((sv.size : Int) > most) = false := decide_eq_false (by omega)
        have hle2 := Aside0.mk hle
        clear hle hX1 hX3 hA hX2 H2 G1 G2 G3
        go_region_held3 (fun w' => True) (trivial) (first
          | (go_at_call 19; (with_reducible refine (wicketlaw01_num.calls _ _ _ rfl).mono ?_); rintro e w' ⟨rfl, ⟨nd, rfl⟩⟩)
          | (go_at_call 36; refine (frame_PutText.calls none 0 [] sv X _ (C_zero _ _) (Nat.zero_le _) HX.out).mono ?_; rintro e w2 ⟨v2, rfl, ho, hb⟩; obtain ⟨A2, c2, hv2⟩ := Kd.R_slice ho; subst hv2; have HR2 := Aside0.mk ho; have HB2 := Aside0.mk (below_step (by repeat (first | exact HB.out | apply pw_below_drewN | apply below_drew1 | apply below_alloc)) hb); have HC2 := Aside0.mk (HA.out.C (Kd.C_below HC0.out HB2.out)); clear ho hb)
          | (go_at_call 23; refine (wicketlaw01_same.calls A2 c2 X A c X true _ (by (with_reducible repeat (first | apply Kd.C_drewN | apply Kd.C_drew | apply Kd.C_alloc)); exact (Kd.R_reads' HR2.out).2.2) (Kd.R_reads' HR2.out).2.1 (by (with_reducible repeat (first | apply Kd.C_drewN | apply Kd.C_drew | apply Kd.C_alloc)); exact HC2.out) (Nat.le_trans hle2.out HCC.out) (H5.out X)).mono ?_; rintro e w' ⟨rfl, ⟨nd2, rfl⟩⟩))
        go_wp2_with fail
        go_meet
        case rel => exact ⟨rfl, ⟨by repeat (first | exact HB2.out | apply pw_below_drewN | apply below_drew1 | apply below_alloc)⟩⟩
      · have b1 : (et == 0) = false := beq_eq_false_iff_ne.mpr he
        clear H2 G1 G2 G3 he
        all_goals
          refine start_ (n := 28) (S := fun w' => True) (ds := []) #[false, false, false, false, false, false, false, false, false, false, false, false, false, false, false, false, false, false, false, false, false, false, false, false, false, false, false, false] (by kernel_rfl) rfl rfl trivial (fun hHeld => ?_)
          refine pure_ (i := 0) (N := some 51) (v := ?_) (a' := ?_) #[true, false, false, false, false, false, false, false, false, false, false, false, false, false, false, false, false, false, false, false, false, false, false, false, false, false, false, false] rfl rfl (by kernel_rfl) (fun _ _ _ h => h) (Or.inl ⟨by rfl, ?_⟩) ?_ ?_
          rotate_left
          · intro w'
            go_simp
            with_reducible rfl
          rotate_left
          · simp only [Act.put, List.setIfInBounds_toArray, List.set_cons_zero, List.set_cons_succ, i64_w, i32_w]
            rfl
          refine one_ (i := 1) (N := some 52) #[true, true, false, false, false, false, false, false, false, false, false, false, false, false, false, false, false, false, false, false, false, false, false, false, false, false, false, false] rfl rfl (by kernel_rfl) (by decide) (fun K hK => ?_)
          refine goes_ Tryd.func19 (by kernel_rfl) rfl #[.int .i64 et] (by rfl) rfl rfl (by simp only [List.map_toArray, List.map_cons, List.map_nil]; rfl) ?_
          with_reducible refine (wicketlaw01_num.calls _ _ _ rfl).mono ?_
          rintro e w3 ⟨rfl, ⟨nd, rfl⟩⟩
          refine ⟨_, rfl, ?_⟩
          refine hK.out _ _ trivial (fun hHeld => ?_)
          clear hK K
          refine norm_ (a' := ?_) ?_ ?_
          rotate_left
          · show Act.put _ (some 52) _ = _
            simp only [Act.put, List.setIfInBounds_toArray, List.set_cons_zero, List.set_cons_succ, i64_w, i32_w]
            rfl
          refine pure_ (i := 2) (N := some 53) (v := ?_) (a' := ?_) #[true, true, true, false, false, false, false, false, false, false, false, false, false, false, false, false, false, false, false, false, false, false, false, false, false, false, false, false] rfl rfl (by kernel_rfl) (fun _ _ _ h => h) (Or.inl ⟨by rfl, ?_⟩) ?_ ?_
          rotate_left
          · intro w'
            go_simp
            with_reducible rfl
          rotate_left
          · simp only [Act.put, List.setIfInBounds_toArray, List.set_cons_zero, List.set_cons_succ, i64_w, i32_w]
            rfl
          refine pure_ (i := 3) (N := some 54) (v := ?_) (a' := ?_) #[true, true, true, true, false, false, false, false, false, false, false, false, false, false, false, false, false, false, false, false, false, false, false, false, false, false, false, false] rfl rfl (by kernel_rfl) (fun _ _ _ h => h) (Or.inl ⟨by rfl, ?_⟩) ?_ ?_
          rotate_left
          · intro w'
            go_simp
            with_reducible rfl
          rotate_left
          · simp only [Act.put, List.setIfInBounds_toArray, List.set_cons_zero, List.set_cons_succ, i64_w, i32_w]
            rfl
          refine pure_ (i := 4) (N := some 55) (v := undef) (a' := ?_) #[true, true, true, true, true, false, false, false, false, false, false, false, false, false, false, false, false, false, false, false, false, false, false, false, false, false, false, false] rfl rfl (by kernel_rfl) (fun _ _ _ h => h) (Or.inr ⟨by rfl, rfl⟩) ?_ ?_
          rotate_left
          · simp only [Act.put, List.setIfInBounds_toArray, List.set_cons_zero, List.set_cons_succ, i64_w, i32_w]
            rfl
          refine pure_ (i := 5) (N := some 56) (v := undef) (a' := ?_) #[true, true, true, true, true, true, false, false, false, false, false, false, false, false, false, false, false, false, false, false, false, false, false, false, false, false, false, false] rfl rfl (by kernel_rfl) (fun _ _ _ h => h) (Or.inr ⟨by rfl, rfl⟩) ?_ ?_
          rotate_left
          · simp only [Act.put, List.setIfInBounds_toArray, List.set_cons_zero, List.set_cons_succ, i64_w, i32_w]
            rfl
          refine pure_ (i := 6) (N := some 57) (v := undef) (a' := ?_) #[true, true, true, true, true, true, true, false, false, false, false, false, false, false, false, false, false, false, false, false, false, false, false, false, false, false, false, false] rfl rfl (by kernel_rfl) (fun _ _ _ h => h) (Or.inr ⟨by rfl, rfl⟩) ?_ ?_
          rotate_left
          · simp only [Act.put, List.setIfInBounds_toArray, List.set_cons_zero, List.set_cons_succ, i64_w, i32_w]
            rfl
          refine pure_ (i := 7) (N := some 58) (v := undef) (a' := ?_) #[true, true, true, true, true, true, true, true, false, false, false, false, false, false, false, false, false, false, false, false, false, false, false, false, false, false, false, false] rfl rfl (by kernel_rfl) (fun _ _ _ h => h) (Or.inr ⟨by rfl, rfl⟩) ?_ ?_
          rotate_left
          · simp only [Act.put, List.setIfInBounds_toArray, List.set_cons_zero, List.set_cons_succ, i64_w, i32_w]
            rfl
          refine pure_ (i := 8) (N := some 59) (v := undef) (a' := ?_) #[true, true, true, true, true, true, true, true, true, false, false, false, false, false, false, false, false, false, false, false, false, false, false, false, false, false, false, false] rfl rfl (by kernel_rfl) (fun _ _ _ h => h) (Or.inr ⟨by rfl, rfl⟩) ?_ ?_
          rotate_left
          · simp only [Act.put, List.setIfInBounds_toArray, List.set_cons_zero, List.set_cons_succ, i64_w, i32_w]
            rfl
          refine pure_ (i := 9) (N := some 60) (v := undef) (a' := ?_) #[true, true, true, true, true, true, true, true, true, true, false, false, false, false, false, false, false, false, false, false, false, false, false, false, false, false, false, false] rfl rfl (by kernel_rfl) (fun _ _ _ h => h) (Or.inr ⟨by rfl, rfl⟩) ?_ ?_
          rotate_left
          · simp only [Act.put, List.setIfInBounds_toArray, List.set_cons_zero, List.set_cons_succ, i64_w, i32_w]
            rfl
          refine pure_ (i := 10) (N := some 61) (v := undef) (a' := ?_) #[true, true, true, true, true, true, true, true, true, true, true, false, false, false, false, false, false, false, false, false, false, false, false, false, false, false, false, false] rfl rfl (by kernel_rfl) (fun _ _ _ h => h) (Or.inr ⟨by rfl, rfl⟩) ?_ ?_
          rotate_left
          · simp only [Act.put, List.setIfInBounds_toArray, List.set_cons_zero, List.set_cons_succ, i64_w, i32_w]
            rfl
          refine pure_ (i := 11) (N := some 62) (v := undef) (a' := ?_) #[true, true, true, true, true, true, true, true, true, true, true, true, false, false, false, false, false, false, false, false, false, false, false, false, false, false, false, false] rfl rfl (by kernel_rfl) (fun _ _ _ h => h) (Or.inr ⟨by rfl, rfl⟩) ?_ ?_
          rotate_left
          · simp only [Act.put, List.setIfInBounds_toArray, List.set_cons_zero, List.set_cons_succ, i64_w, i32_w]
            rfl
          refine pure_ (i := 12) (N := some 63) (v := undef) (a' := ?_) #[true, true, true, true, true, true, true, true, true, true, true, true, true, false, false, false, false, false, false, false, false, false, false, false, false, false, false, false] rfl rfl (by kernel_rfl) (fun _ _ _ h => h) (Or.inr ⟨by rfl, rfl⟩) ?_ ?_
          rotate_left
          · simp only [Act.put, List.setIfInBounds_toArray, List.set_cons_zero, List.set_cons_succ, i64_w, i32_w]
            rfl
          refine pure_ (i := 13) (N := some 64) (v := undef) (a' := ?_) #[true, true, true, true, true, true, true, true, true, true, true, true, true, true, false, false, false, false, false, false, false, false, false, false, false, false, false, false] rfl rfl (by kernel_rfl) (fun _ _ _ h => h) (Or.inr ⟨by rfl, rfl⟩) ?_ ?_
          rotate_left
          · simp only [Act.put, List.setIfInBounds_toArray, List.set_cons_zero, List.set_cons_succ, i64_w, i32_w]
            rfl
          refine pure_ (i := 14) (N := some 65) (v := undef) (a' := ?_) #[true, true, true, true, true, true, true, true, true, true, true, true, true, true, true, false, false, false, false, false, false, false, false, false, false, false, false, false] rfl rfl (by kernel_rfl) (fun _ _ _ h => h) (Or.inr ⟨by rfl, rfl⟩) ?_ ?_
          rotate_left
          · simp only [Act.put, List.setIfInBounds_toArray, List.set_cons_zero, List.set_cons_succ, i64_w, i32_w]
            rfl
          refine pure_ (i := 15) (N := some 66) (v := undef) (a' := ?_) #[true, true, true, true, true, true, true, true, true, true, true, true, true, true, true, true, false, false, false, false, false, false, false, false, false, false, false, false] rfl rfl (by kernel_rfl) (fun _ _ _ h => h) (Or.inr ⟨by rfl, rfl⟩) ?_ ?_
          rotate_left
          · simp only [Act.put, List.setIfInBounds_toArray, List.set_cons_zero, List.set_cons_succ, i64_w, i32_w]
            rfl
          refine pure_ (i := 16) (N := some 67) (v := undef) (a' := ?_) #[true, true, true, true, true, true, true, true, true, true, true, true, true, true, true, true, true, false, false, false, false, false, false, false, false, false, false, false] rfl rfl (by kernel_rfl) (fun _ _ _ h => h) (Or.inr ⟨by rfl, rfl⟩) ?_ ?_
          rotate_left
          · simp only [Act.put, List.setIfInBounds_toArray, List.set_cons_zero, List.set_cons_succ, i64_w, i32_w]
            rfl
          refine pure_ (i := 17) (N := some 68) (v := undef) (a' := ?_) #[true, true, true, true, true, true, true, true, true, true, true, true, true, true, true, true, true, true, false, false, false, false, false, false, false, false, false, false] rfl rfl (by kernel_rfl) (fun _ _ _ h => h) (Or.inr ⟨by rfl, rfl⟩) ?_ ?_
          rotate_left
          · simp only [Act.put, List.setIfInBounds_toArray, List.set_cons_zero, List.set_cons_succ, i64_w, i32_w]
            rfl
          refine pure_ (i := 18) (N := some 69) (v := undef) (a' := ?_) #[true, true, true, true, true, true, true, true, true, true, true, true, true, true, true, true, true, true, true, false, false, false, false, false, false, false, false, false] rfl rfl (by kernel_rfl) (fun _ _ _ h => h) (Or.inr ⟨by rfl, rfl⟩) ?_ ?_
          rotate_left
          · simp only [Act.put, List.setIfInBounds_toArray, List.set_cons_zero, List.set_cons_succ, i64_w, i32_w]
            rfl
          refine pure_ (i := 19) (N := some 70) (v := undef) (a' := ?_) #[true, true, true, true, true, true, true, true, true, true, true, true, true, true, true, true, true, true, true, true, false, false, false, false, false, false, false, false] rfl rfl (by kernel_rfl) (fun _ _ _ h => h) (Or.inr ⟨by rfl, rfl⟩) ?_ ?_
          rotate_left
          · simp only [Act.put, List.setIfInBounds_toArray, List.set_cons_zero, List.set_cons_succ, i64_w, i32_w]
            rfl
          refine pure_ (i := 20) (N := some 71) (v := undef) (a' := ?_) #[true, true, true, true, true, true, true, true, true, true, true, true, true, true, true, true, true, true, true, true, true, false, false, false, false, false, false, false] rfl rfl (by kernel_rfl) (fun _ _ _ h => h) (Or.inr ⟨by rfl, rfl⟩) ?_ ?_
          rotate_left
          · simp only [Act.put, List.setIfInBounds_toArray, List.set_cons_zero, List.set_cons_succ, i64_w, i32_w]
            rfl
          refine pure_ (i := 21) (N := some 72) (v := undef) (a' := ?_) #[true, true, true, true, true, true, true, true, true, true, true, true, true, true, true, true, true, true, true, true, true, true, false, false, false, false, false, false] rfl rfl (by kernel_rfl) (fun _ _ _ h => h) (Or.inr ⟨by rfl, rfl⟩) ?_ ?_
          rotate_left
          · simp only [Act.put, List.setIfInBounds_toArray, List.set_cons_zero, List.set_cons_succ, i64_w, i32_w]
            rfl
          refine pure_ (i := 22) (N := some 73) (v := undef) (a' := ?_) #[true, true, true, true, true, true, true, true, true, true, true, true, true, true, true, true, true, true, true, true, true, true, true, false, false, false, false, false] rfl rfl (by kernel_rfl) (fun _ _ _ h => h) (Or.inr ⟨by rfl, rfl⟩) ?_ ?_
          rotate_left
          · simp only [Act.put, List.setIfInBounds_toArray, List.set_cons_zero, List.set_cons_succ, i64_w, i32_w]
            rfl
          refine pure_ (i := 23) (N := some 74) (v := undef) (a' := ?_) #[true, true, true, true, true, true, true, true, true, true, true, true, true, true, true, true, true, true, true, true, true, true, true, true, false, false, false, false] rfl rfl (by kernel_rfl) (fun _ _ _ h => h) (Or.inr ⟨by rfl, rfl⟩) ?_ ?_
          rotate_left
          · simp only [Act.put, List.setIfInBounds_toArray, List.set_cons_zero, List.set_cons_succ, i64_w, i32_w]
            rfl
          refine pure_ (i := 24) (N := some 75) (v := undef) (a' := ?_) #[true, true, true, true, true, true, true, true, true, true, true, true, true, true, true, true, true, true, true, true, true, true, true, true, true, false, false, false] rfl rfl (by kernel_rfl) (fun _ _ _ h => h) (Or.inr ⟨by rfl, rfl⟩) ?_ ?_
          rotate_left
          · simp only [Act.put, List.setIfInBounds_toArray, List.set_cons_zero, List.set_cons_succ, i64_w, i32_w]
            rfl
          refine pure_ (i := 25) (N := some 76) (v := undef) (a' := ?_) #[true, true, true, true, true, true, true, true, true, true, true, true, true, true, true, true, true, true, true, true, true, true, true, true, true, true, false, false] rfl rfl (by kernel_rfl) (fun _ _ _ h => h) (Or.inr ⟨by rfl, rfl⟩) ?_ ?_
          rotate_left
          · simp only [Act.put, List.setIfInBounds_toArray, List.set_cons_zero, List.set_cons_succ, i64_w, i32_w]
            rfl
          refine pure_ (i := 26) (N := some 77) (v := undef) (a' := ?_) #[true, true, true, true, true, true, true, true, true, true, true, true, true, true, true, true, true, true, true, true, true, true, true, true, true, true, true, false] rfl rfl (by kernel_rfl) (fun _ _ _ h => h) (Or.inr ⟨by rfl, rfl⟩) ?_ ?_
          rotate_left
          · simp only [Act.put, List.setIfInBounds_toArray, List.set_cons_zero, List.set_cons_succ, i64_w, i32_w]
            rfl
          refine pure_ (i := 27) (N := some 78) (v := ?_) (a' := ?_) #[true, true, true, true, true, true, true, true, true, true, true, true, true, true, true, true, true, true, true, true, true, true, true, true, true, true, true, true] rfl rfl (by kernel_rfl) (fun _ _ _ h => h) (Or.inl ⟨by rfl, ?_⟩) ?_ ?_
          rotate_left
          · intro w'
            go_simp
            with_reducible rfl
          rotate_left
          · simp only [Act.put, List.setIfInBounds_toArray, List.set_cons_zero, List.set_cons_succ, i64_w, i32_w]
            rfl
          refine done_ (by kernel_rfl) ?_

          go_wp2_with fail
          go_meet
          case rel => exact ⟨rfl, ⟨by repeat (first | exact HB.out | apply pw_below_drewN | apply below_drew1 | apply below_alloc)⟩⟩
    case rest =>
      clear HB
      obtain ⟨rfl, HB⟩ := hcut
      have HC := Aside0.mk (Kd.C_below HC0.out HB.out)
      have HT := Aside0.mk (HT0.out.below HB.out)
      go_wp2_with fail
      refine (frame_Open.calls A c l kd Lo n eo wc HT.out HC.out HCC.out H3.out).mono ?_
      rintro x w3 ⟨v3, rfl, ho, hb⟩
      obtain ⟨A3, c3, hv3⟩ := Kd.R_slice ho
      subst hv3
      have HR3 := Aside0.mk ho
      clear ho
      replace HB := Aside0.mk (below_step HB.out hb)
      replace HC := Aside0.mk (Kd.C_below HC.out hb)
      replace HT := Aside0.mk (HT.out.below hb)
      clear hb
      go_wp2_with fail
      have hb := below_new w3 (.cells #[.int .u8 kd, .slice A3 Lo.length c3] 40)
      have HX := Aside0.mk (Box.new2 w3 (.int .u8 kd) (.slice A3 Lo.length c3) 40)
      replace HB := Aside0.mk (below_step HB.out hb)
      replace HC := Aside0.mk (Kd.C_below HC.out hb)
      replace HT := Aside0.mk (HT.out.below hb)
      replace HR3 := Aside0.mk (Kd.R_below HR3.out hb)
      clear hb
      refine (wicketlaw01_num.calls eo eo _ rfl).mono ?_
      rintro x w4 ⟨rfl, hd⟩
      have hb := drawn_below hd
      clear hd
      replace HB := Aside0.mk (below_step HB.out hb)
      replace HC := Aside0.mk (Kd.C_below HC.out hb)
      replace HT := Aside0.mk (HT.out.below hb)
      replace HR3 := Aside0.mk (Kd.R_below HR3.out hb)
      replace HX := Aside0.mk (HX.out.below hb)
      clear hb
      by_cases he : eo = 0
      · obtain ⟨X, hA, hX1, hX2⟩ := G3.out he
        subst he
        obtain rfl := hA.n
        have HA := Aside0.mk hA
        have HSX := Aside0.mk hX2
        have hle := hA.le
        have hcut := cut_own A l.length c X.length hA.le HCC.out
        have d1 : decide ((X.length : Int) < 9) = false := decide_eq_false (by omega)
        have d2 : decide ((l.length : Int) < (X.length : Int)) = false := decide_eq_false (by omega)
        have d6 : decide (l.length < X.length) = false := decide_eq_false (by omega)
        have d7 : decide (X.length < 9) = false := decide_eq_false (by omega)
        have d8 : ¬ l.length < X.length := by omega
        have d4 : ¬ (X.length : Int) < 9 := by omega
        have d5 : ¬ (l.length : Int) < (X.length : Int) := by omega
        have hle2 := Aside0.mk hle
        clear hle hX1 hA hX2 H1 H2 H3 G1 G2 G3
        obtain ⟨_, x0, x1⟩ := HX.out
        go_wp2_with fail
        refine (frame_Seal.calls kd A3 c3 Lo X 0 w4 HT.out (Kd.R_reads' HR3.out).2.2 (Kd.R_reads' HR3.out).2.1 HSX.out).mono ?_
        rintro x w5 ⟨v5, rfl, ho, hb⟩
        obtain ⟨A5, c5, hv5⟩ := Kd.R_slice ho
        subst hv5
        have HR5 := Aside0.mk ho
        clear ho x0 x1
        clear HX HR3
        replace HB := Aside0.mk (below_step HB.out hb)
        replace HC := Aside0.mk (Kd.C_below HC.out hb)
        replace HT := Aside0.mk (HT.out.below hb)
        clear hb
        go_wp2_with fail
        refine (wicketlaw01_num.calls 0 0 w5 rfl).mono ?_
        rintro x w6 ⟨rfl, hd⟩
        have hb := drawn_below hd
        clear hd
        replace HB := Aside0.mk (below_step HB.out hb)
        replace HC := Aside0.mk (Kd.C_below HC.out hb)
        replace HT := Aside0.mk (HT.out.below hb)
        replace HR5 := Aside0.mk (Kd.R_below HR5.out hb)
        clear hb
        go_wp2_with fail
        refine (wicketlaw01_same.calls A5 c5 X A c X true w6 (Kd.R_reads' HR5.out).2.2 (Kd.R_reads' HR5.out).2.1 (HA.out.C HC.out) (Nat.le_trans hle2.out HCC.out) (H5.out X)).mono ?_
        rintro x w7 ⟨rfl, hd⟩
        have hb := drawn_below hd
        clear hd
        replace HB := Aside0.mk (below_step HB.out hb)
        replace HC := Aside0.mk (Kd.C_below HC.out hb)
        replace HT := Aside0.mk (HT.out.below hb)
        replace HR5 := Aside0.mk (Kd.R_below HR5.out hb)
        clear hb
        go_wp2_with fail
        refine (wicketlaw01_live.calls true w7 HT.out H8.out).mono ?_
        rintro x w8 ⟨rfl, hb⟩
        replace HB := Aside0.mk (below_step HB.out hb)
        replace HC := Aside0.mk (Kd.C_below HC.out hb)
        replace HT := Aside0.mk (HT.out.below hb)
        replace HR5 := Aside0.mk (Kd.R_below HR5.out hb)
        clear hb
        go_wp2_with fail
        go_ret
        exact ⟨rfl, HB.out⟩
      · have b1 : (eo == 0) = false := beq_eq_false_iff_ne.mpr he
        have b2 : decide (eo = 0) = false := decide_eq_false he
        go_wp2_with fail
        refine (wicketlaw01_live.calls true w4 HT.out H8.out).mono ?_
        rintro x w8 ⟨rfl, hb⟩
        replace HB := Aside0.mk (below_step HB.out hb)
        replace HC := Aside0.mk (Kd.C_below HC.out hb)
        replace HT := Aside0.mk (HT.out.below hb)
        clear hb
        go_wp2_with fail
        go_ret
        exact ⟨rfl, HB.out⟩
end Go.Proofs.YtdlfhpkkkhfhdaaDoor.Hand
