/- Disk: the law DiskDies. -/
import Derived.Test.YthmkdmdfahhpmaaDskAG
import Derived.Test.YthmkdmdfahhpmaaDskAI
namespace Go.Proofs.Ythmkdmdfahhpmaa.Hand
open Go.RowKit Go.Maps Go.Proofs.YthmkdmdfahhpmaaW.PrintWords Go.Proofs.YthmkdmdfahhpmaaW.PrintLast Go.Proofs.YthmkdmdfahhpmaaW.PrintMore Go.Proofs.Ythmkdmdfahhpmaa.Q
set_option linter.unusedVariables false
set_option linter.unusedSimpArgs false
theorem die_ne {n : Int} {B : DS} (h : DieR n B) (hne : B.ops ≠ n - 1) (a : ActD) : ∃ B' g, oneS B a = (B', g) ∧ oneS (armS B (n - B.ops)) a = (armS B' (n - B'.ops), g) ∧ DieR n B' := by
  have ho := h.ops
  refine ⟨(oneS B a).1, (oneS B a).2, rfl, ?_⟩
  rcases die_one h a with ⟨h1, h2, h3⟩ | ⟨h1, h2, h3, h4, ⟨h5, _⟩ | ⟨_, h5⟩⟩
  · rw [h2]; exact ⟨h3, h⟩
  · exact absurd h5 hne
  · exact ⟨by rw [h5, h1], h2, h3, by rw [h4]; omega⟩
theorem die_eq {n : Int} {B : DS} (h : DieR n B) (he : B.ops = n - 1) (a : ActD) : (∃ g, g ≠ 0 ∧ oneS B a = (B, g) ∧ oneS (armS B (n - B.ops)) a = (armS B (n - B.ops), g)) ∨ oneS (armS B (n - B.ops)) a = (deadS B, 51) := by
  rcases die_one h a with ⟨h1, h2, h3⟩ | ⟨h1, h2, h3, h4, ⟨_, h5⟩ | ⟨h5, _⟩⟩
  · exact .inl ⟨(oneS B a).2, h1, Prod.ext h2 rfl, h3⟩
  · exact .inr h5
  · exact absurd he h5
theorem die_start {n : Int} {S : DS} (h : NewI S) (hn : 1 ≤ n) : opArm S n = armS S (n - S.ops) ∧ DieR n S := by
  refine ⟨?_, h.armed, h.dead, by rw [h.ops]; omega⟩
  unfold opArm armS
  rw [if_neg (by rw [h.dead]; decide), h.ops, show max n 0 = n by omega, show n - 0 = n by omega]
theorem two_by {w wr : World} {X : Nat → Prop} {a b k : Nat} {SA SB : DS} {o : Obj} (h : TwoD w wr X a b SA SB) (hk : k < w.heap.size) (ho : w.heap[k]? = some o) : wr.heap[k]? = some o := (h.ownA.below.block k hk).trans ho
theorem two_below {w wr : World} {X : Nat → Prop} {a b : Nat} {SA SB : DS} (h : TwoD w wr X a b SA SB) : Below w.heap.size w wr := h.ownA.below
theorem dead_syncDir (B : DS) : opSyncDir (deadS B) = (deadS B, 51) := rfl
theorem dead_list (B : DS) : lstOf (deadS B) = [] := rfl
theorem disk_SyncDir.pairA {w wr : World} {X : Nat → Prop} {a b : Nat} {SA SB : DS} (h : TwoD w wr X a b SA SB) :
    Calls Try.prog 28 #[.pointer (some ⟨a, 0, none⟩)] wr fun e w' => e = .returned (.int .i64 (opSyncDir SA).2) ∧ TwoD w w' X a b (opSyncDir SA).1 SB := by
  obtain ⟨F, G, h1, h2, h3, h4, h5, h6, h7⟩ := h
  refine (disk_SyncDir.ownK (OwnK.start h1)).mono ?_
  rintro e w' ⟨rfl, hK⟩
  exact ⟨rfl, (TwoD.stepA h1 h2 h3 h4 h5 h6 h7 hK).1⟩
theorem disk_SyncDir.deadA {w wr : World} {X : Nat → Prop} {a b : Nat} {B SB : DS} (h : TwoD w wr X a b (deadS B) SB) :
    Calls Try.prog 28 #[.pointer (some ⟨a, 0, none⟩)] wr fun e w' => e = .returned (.int .i64 51) ∧ TwoD w w' X a b (deadS B) SB := disk_SyncDir.pairA h
set_option maxHeartbeats 1000000 in
set_option maxRecDepth 100000 in
theorem diskDies.walk (x : StD) (hx : StB x) (n : Int) (hn : -9223372036854775808 ≤ n ∧ n ≤ 9223372036854775807) (y : CrD) (hy : CrB y) (A : Option Addr) (c : Nat) (A2 : Option Addr) (c2 : Nat) (A3 : Option Addr) (c3 : Nat) (w : World) (hC : Kd.C kF w A x.files.length x.files) (hc : x.files.length ≤ c) (hC2 : Kd.C kAct w A2 x.acts.length x.acts) (hC3 : Kd.C (Kd.int .i64) w A3 y.2.length y.2) (hc3 : y.2.length ≤ c3) :
    Calls Try.prog 5 #[.agg #[.slice A x.files.length c, .int .i64 x.room, .slice A2 x.acts.length c2], .int .i64 n, .agg #[.int .i64 y.1, .slice A3 y.2.length c3]] w fun e w' => e = .returned (.bool true) ∧ Below w.heap.size w w' := by
  have HX := Aside0.mk hx
  have HY := Aside0.mk hy
  have HNB := Aside0.mk hn
  have HC := Aside0.mk hC
  have HCc := Aside0.mk hc
  have HC2 := Aside0.mk hC2
  have HC3 := Aside0.mk hC3
  have HCc3 := Aside0.mk hc3
  have hal := hx.al
  obtain ⟨N, hN⟩ : ∃ N, N = x.acts.length := ⟨_, rfl⟩
  have HN := Aside0.mk hN
  rw [← hN]
  have hN2 : (N : Int) ≤ 9223372036854775807 := by omega
  clear hx hy hC hc hC2 hC3 hc3 hN hal
  go_enter Try.func5, Try.ntmps5
  go_upto_region 1 with (fail)
  obtain ⟨wa, Bx, hwa, hBx, bx, hba, hsa⟩ := boxed w (.cells #[.slice A x.files.length c, .int .i64 x.room, .slice A2 N c2] 25 (0, 0))
  obtain ⟨wb, By, hwb, hBy, by_, hbb, hsb⟩ := boxed wa (.cells #[.int .i64 y.1, .slice A3 y.2.length c3] 35 (0, 0))
  have hBy2 : w.heap.size + 1 = By := by rw [hBy, hsa]
  rw [← hwa, ← hwb, hBy2, ← hBx]
  have HB1 := Aside0.mk (below_step hba hbb)
  have HBX : Aside0 (Bx < wb.heap.size ∧ By < wb.heap.size) := ⟨by omega, by omega⟩
  have BX := Aside0.mk (hbb.block Bx (by omega) |>.trans bx)
  have BY := Aside0.mk by_
  clear hwa hwb hBy2 bx by_ hba hbb hBx hBy hsa hsb
  have d0 := (blk_cell BX.out 0).trans rfl
  have d1 := (blk_cell BX.out 1).trans rfl
  obtain ⟨kcp, hkcp⟩ := (copied_ev HX.out.fsB).rounds
  have HKC := Aside0.mk hkcp
  clear hkcp
  by_cases h0 : (newOf x.room x.files).2 = 0
  · have HNI := Aside0.mk (newOf_inv HX.out.room.2 (fun f hf => (HX.out.f f hf).1) h0)
    obtain ⟨S0, hS0⟩ : ∃ S0, S0 = (newOf x.room x.files).1 := ⟨_, rfl⟩
    rw [← hS0] at HNI
    have hnew : ∀ (w2 : World) (Ao : Option Addr) (co : Nat), Kd.C kF w2 Ao x.files.length x.files → x.files.length ≤ co → Calls Try.prog 17 #[.slice Ao x.files.length co, .int .i64 x.room] w2 fun e w3 => ∃ d, e = .returned (.tuple #[.pointer (some ⟨d, 0, none⟩), .int .i64 0]) ∧ OwnD w2 w3 d S0 := fun w2 Ao co h1 h2 => by
      refine (disk_New.own x.room HX.out.room.2 Ao co x.files w2 h1 h2 (fun f hf => (HX.out.f f hf).1)).mono ?_
      rintro e w3 ⟨hb3, ⟨_, d, rfl, h3⟩ | ⟨h4, rfl⟩⟩
      · exact ⟨d, rfl, by rw [hS0]; exact h3⟩
      · exact absurd h0 h4
    have HNEW := Aside0.mk hnew
    clear hnew hS0 h0
    refine start_ (n := 11) (S := fun w' => w'.cell? ⟨Bx, 0, none⟩ = some (.slice A x.files.length c) ∧ w'.cell? ⟨Bx, 1, none⟩ = some (.int .i64 x.room)) (ds := [5]) #[false, false, false, false, false, false, false, false, false, false, false] (by kernel_rfl) rfl rfl ⟨d0, d1⟩ (fun hHeld => ?_)
    refine pure_ (i := 0) (N := some 15) (v := ?_) (a' := ?_) #[true, false, false, false, false, false, false, false, false, false, false] rfl rfl (by kernel_rfl) (fun _ _ _ h => h) (Or.inl ⟨by rfl, ?_⟩) ?_ ?_
    rotate_left
    · intro w'
      go_simp
      with_reducible rfl
    rotate_left
    · simp only [Act.put, List.setIfInBounds_toArray, List.set_cons_zero, List.set_cons_succ, i64_w, i32_w]
      rfl
    refine pure_ (i := 3) (N := some 18) (v := ?_) (a' := ?_) #[true, false, false, true, false, false, false, false, false, false, false] rfl rfl (by kernel_rfl) (fun _ _ _ h => h) (Or.inl ⟨by rfl, ?_⟩) ?_ ?_
    rotate_left
    · intro w'
      go_simp
      with_reducible rfl
    rotate_left
    · simp only [Act.put, List.setIfInBounds_toArray, List.set_cons_zero, List.set_cons_succ, i64_w, i32_w]
      rfl
    refine take_ (i := 1) (N := some 16) (v := ?_) (a' := ?_) #[true, true, false, true, false, false, false, false, false, false, false] rfl rfl (by kernel_rfl) (fun _ _ _ h => h) (Or.inl ⟨by rfl, ?_⟩) hHeld ?_ ?_
    rotate_left
    · rintro w' ⟨s0, s1⟩
      go_simp
      with_reducible rfl
    rotate_left
    · simp only [Act.put, List.setIfInBounds_toArray, List.set_cons_zero, List.set_cons_succ, i64_w, i32_w]
      rfl
    refine take_ (i := 4) (N := some 19) (v := ?_) (a' := ?_) #[true, true, false, true, true, false, false, false, false, false, false] rfl rfl (by kernel_rfl) (fun _ _ _ h => h) (Or.inl ⟨by rfl, ?_⟩) hHeld ?_ ?_
    rotate_left
    · rintro w' ⟨s0, s1⟩
      go_simp
      with_reducible rfl
    rotate_left
    · simp only [Act.put, List.setIfInBounds_toArray, List.set_cons_zero, List.set_cons_succ, i64_w, i32_w]
      rfl
    refine one_ (i := 2) (N := some 17) #[true, true, true, true, true, false, false, false, false, false, false] rfl rfl (by kernel_rfl) (by decide) (fun K hK => ?_)
    refine goes_ Try.func18 (by kernel_rfl) rfl #[.slice A x.files.length c] (by rfl) rfl rfl (by simp only [List.map_toArray, List.map_cons, List.map_nil]; rfl) ?_
    with_reducible refine (wicketlaw05_copied.calls kcp A c x.files x.files _ (Kd.C_below HC.out (below_drew1 HB1.out)) HCc.out HKC.out).mono ?_
    rintro e wa2 ⟨v2, rfl, ho2, hb2⟩
    obtain ⟨Ao, co, hv2⟩ := Kd.S_slice ho2
    subst hv2
    have HOa := Aside0.mk (Kd.S_reads' ho2).2
    have HBa2 := Aside0.mk (below_step (below_drew1 (Below.refl wb.heap.size wb)) hb2)
    clear ho2 hb2
    refine ⟨_, rfl, ?_⟩
    refine hK.out _ _ ⟨pw_cell_below HBa2.out d0, pw_cell_below HBa2.out d1⟩ (fun hHeld => ?_)
    clear hK K
    refine norm_ (a' := ?_) ?_ ?_
    rotate_left
    · show Act.put _ (some 17) _ = _
      simp only [Act.put, List.setIfInBounds_toArray, List.set_cons_zero, List.set_cons_succ, i64_w, i32_w]
      rfl
    refine last_ (i := 5) (N := some 20) #[true, true, true, true, true, true, false, false, false, false, false] rfl rfl (by kernel_rfl) (by decide) (fun K hK => ?_)
    refine goes_ Try.func17 (by kernel_rfl) rfl #[.slice Ao x.files.length co, .int .i64 x.room] (by rfl) rfl rfl (by simp only [List.map_toArray, List.map_cons, List.map_nil]; rfl) ?_
    with_reducible refine (HNEW.out wa2 Ao co HOa.out.2 HOa.out.1).mono ?_
    rintro e wa3 ⟨a, rfl, hnw⟩
    have HA0 := Aside0.mk (hnw.from HBa2.out HBa2.out.size)
    clear hnw
    refine ⟨_, rfl, ?_⟩
    refine hK.out _ _ ?_
    clear hK K
    refine norm_ (a' := ?_) ?_ ?_
    rotate_left
    · show Act.put _ (some 20) _ = _
      simp only [Act.put, List.setIfInBounds_toArray, List.set_cons_zero, List.set_cons_succ, i64_w, i32_w]
      rfl
    refine pure_ (i := 6) (N := some 14) (v := ?_) (a' := ?_) #[true, true, true, true, true, true, true, false, false, false, false] rfl rfl (by kernel_rfl) (fun _ _ _ h => h) (Or.inl ⟨by rfl, ?_⟩) ?_ ?_
    rotate_left
    · intro w'
      go_simp
      with_reducible rfl
    rotate_left
    · simp only [Act.put, List.setIfInBounds_toArray, List.set_cons_zero, List.set_cons_succ, i64_w, i32_w]
      rfl
    refine pure_ (i := 7) (N := some 21) (v := ?_) (a' := ?_) #[true, true, true, true, true, true, true, true, false, false, false] rfl rfl (by kernel_rfl) (fun _ _ _ h => h) (Or.inl ⟨by rfl, ?_⟩) ?_ ?_
    rotate_left
    · intro w'
      go_simp
      with_reducible rfl
    rotate_left
    · simp only [Act.put, List.setIfInBounds_toArray, List.set_cons_zero, List.set_cons_succ, i64_w, i32_w]
      rfl
    refine pure_ (i := 8) (N := some 22) (v := ?_) (a' := ?_) #[true, true, true, true, true, true, true, true, true, false, false] rfl rfl (by kernel_rfl) (fun _ _ _ h => h) (Or.inl ⟨by rfl, ?_⟩) ?_ ?_
    rotate_left
    · intro w'
      go_simp
      with_reducible rfl
    rotate_left
    · simp only [Act.put, List.setIfInBounds_toArray, List.set_cons_zero, List.set_cons_succ, i64_w, i32_w]
      rfl
    refine pure_ (i := 9) (N := some 7) (v := ?_) (a' := ?_) #[true, true, true, true, true, true, true, true, true, true, false] rfl rfl (by kernel_rfl) (fun _ _ _ h => h) (Or.inl ⟨by rfl, ?_⟩) ?_ ?_
    rotate_left
    · intro w'
      go_simp
      with_reducible rfl
    rotate_left
    · simp only [Act.put, List.setIfInBounds_toArray, List.set_cons_zero, List.set_cons_succ, i64_w, i32_w]
      rfl
    refine pure_ (i := 10) (N := some 8) (v := ?_) (a' := ?_) #[true, true, true, true, true, true, true, true, true, true, true] rfl rfl (by kernel_rfl) (fun _ _ _ h => h) (Or.inl ⟨by rfl, ?_⟩) ?_ ?_
    rotate_left
    · intro w'
      go_simp
      with_reducible rfl
    rotate_left
    · simp only [Act.put, List.setIfInBounds_toArray, List.set_cons_zero, List.set_cons_succ, i64_w, i32_w]
      rfl
    refine done_ (by kernel_rfl) ?_
    have HBA1 := Aside0.mk (below_step HB1.out HA0.out.below)
    replace d0 := (blk_cell ((HA0.out.below.block Bx HBX.out.1).trans BX.out) 0).trans rfl
    replace d1 := (blk_cell ((HA0.out.below.block Bx HBX.out.1).trans BX.out) 1).trans rfl
    clear HOa
    go_upto_region 2 with (fail)
    refine start_ (n := 11) (S := fun w' => w'.cell? ⟨Bx, 0, none⟩ = some (.slice A x.files.length c) ∧ w'.cell? ⟨Bx, 1, none⟩ = some (.int .i64 x.room)) (ds := [5]) #[false, false, false, false, false, false, false, false, false, false, false] (by kernel_rfl) rfl rfl ⟨d0, d1⟩ (fun hHeld => ?_)
    refine pure_ (i := 0) (N := some 24) (v := ?_) (a' := ?_) #[true, false, false, false, false, false, false, false, false, false, false] rfl rfl (by kernel_rfl) (fun _ _ _ h => h) (Or.inl ⟨by rfl, ?_⟩) ?_ ?_
    rotate_left
    · intro w'
      go_simp
      with_reducible rfl
    rotate_left
    · simp only [Act.put, List.setIfInBounds_toArray, List.set_cons_zero, List.set_cons_succ, i64_w, i32_w]
      rfl
    refine pure_ (i := 3) (N := some 27) (v := ?_) (a' := ?_) #[true, false, false, true, false, false, false, false, false, false, false] rfl rfl (by kernel_rfl) (fun _ _ _ h => h) (Or.inl ⟨by rfl, ?_⟩) ?_ ?_
    rotate_left
    · intro w'
      go_simp
      with_reducible rfl
    rotate_left
    · simp only [Act.put, List.setIfInBounds_toArray, List.set_cons_zero, List.set_cons_succ, i64_w, i32_w]
      rfl
    refine take_ (i := 1) (N := some 25) (v := ?_) (a' := ?_) #[true, true, false, true, false, false, false, false, false, false, false] rfl rfl (by kernel_rfl) (fun _ _ _ h => h) (Or.inl ⟨by rfl, ?_⟩) hHeld ?_ ?_
    rotate_left
    · rintro w' ⟨s0, s1⟩
      go_simp
      with_reducible rfl
    rotate_left
    · simp only [Act.put, List.setIfInBounds_toArray, List.set_cons_zero, List.set_cons_succ, i64_w, i32_w]
      rfl
    refine take_ (i := 4) (N := some 28) (v := ?_) (a' := ?_) #[true, true, false, true, true, false, false, false, false, false, false] rfl rfl (by kernel_rfl) (fun _ _ _ h => h) (Or.inl ⟨by rfl, ?_⟩) hHeld ?_ ?_
    rotate_left
    · rintro w' ⟨s0, s1⟩
      go_simp
      with_reducible rfl
    rotate_left
    · simp only [Act.put, List.setIfInBounds_toArray, List.set_cons_zero, List.set_cons_succ, i64_w, i32_w]
      rfl
    refine one_ (i := 2) (N := some 26) #[true, true, true, true, true, false, false, false, false, false, false] rfl rfl (by kernel_rfl) (by decide) (fun K hK => ?_)
    refine goes_ Try.func18 (by kernel_rfl) rfl #[.slice A x.files.length c] (by rfl) rfl rfl (by simp only [List.map_toArray, List.map_cons, List.map_nil]; rfl) ?_
    with_reducible refine (wicketlaw05_copied.calls kcp A c x.files x.files _ (Kd.C_below HC.out (below_drew1 HBA1.out)) HCc.out HKC.out).mono ?_
    rintro e wb2 ⟨v2, rfl, ho2, hb2⟩
    obtain ⟨Ao, co, hv2⟩ := Kd.S_slice ho2
    subst hv2
    have HOb := Aside0.mk (Kd.S_reads' ho2).2
    have HBb2 := Aside0.mk (below_step (below_drew1 (Below.refl wa3.heap.size wa3)) hb2)
    clear ho2 hb2
    refine ⟨_, rfl, ?_⟩
    refine hK.out _ _ ⟨pw_cell_below HBb2.out d0, pw_cell_below HBb2.out d1⟩ (fun hHeld => ?_)
    clear hK K
    refine norm_ (a' := ?_) ?_ ?_
    rotate_left
    · show Act.put _ (some 26) _ = _
      simp only [Act.put, List.setIfInBounds_toArray, List.set_cons_zero, List.set_cons_succ, i64_w, i32_w]
      rfl
    refine last_ (i := 5) (N := some 29) #[true, true, true, true, true, true, false, false, false, false, false] rfl rfl (by kernel_rfl) (by decide) (fun K hK => ?_)
    refine goes_ Try.func17 (by kernel_rfl) rfl #[.slice Ao x.files.length co, .int .i64 x.room] (by rfl) rfl rfl (by simp only [List.map_toArray, List.map_cons, List.map_nil]; rfl) ?_
    with_reducible refine (HNEW.out wb2 Ao co HOb.out.2 HOb.out.1).mono ?_
    rintro e wb3 ⟨b, rfl, hnw⟩
    have HT3 := Aside0.mk (TwoD.of HA0.out (hnw.from HBb2.out HBb2.out.size))
    clear hnw
    refine ⟨_, rfl, ?_⟩
    refine hK.out _ _ ?_
    clear hK K
    refine norm_ (a' := ?_) ?_ ?_
    rotate_left
    · show Act.put _ (some 29) _ = _
      simp only [Act.put, List.setIfInBounds_toArray, List.set_cons_zero, List.set_cons_succ, i64_w, i32_w]
      rfl
    refine pure_ (i := 6) (N := some 23) (v := ?_) (a' := ?_) #[true, true, true, true, true, true, true, false, false, false, false] rfl rfl (by kernel_rfl) (fun _ _ _ h => h) (Or.inl ⟨by rfl, ?_⟩) ?_ ?_
    rotate_left
    · intro w'
      go_simp
      with_reducible rfl
    rotate_left
    · simp only [Act.put, List.setIfInBounds_toArray, List.set_cons_zero, List.set_cons_succ, i64_w, i32_w]
      rfl
    refine pure_ (i := 7) (N := some 30) (v := ?_) (a' := ?_) #[true, true, true, true, true, true, true, true, false, false, false] rfl rfl (by kernel_rfl) (fun _ _ _ h => h) (Or.inl ⟨by rfl, ?_⟩) ?_ ?_
    rotate_left
    · intro w'
      go_simp
      with_reducible rfl
    rotate_left
    · simp only [Act.put, List.setIfInBounds_toArray, List.set_cons_zero, List.set_cons_succ, i64_w, i32_w]
      rfl
    refine pure_ (i := 8) (N := some 31) (v := ?_) (a' := ?_) #[true, true, true, true, true, true, true, true, true, false, false] rfl rfl (by kernel_rfl) (fun _ _ _ h => h) (Or.inl ⟨by rfl, ?_⟩) ?_ ?_
    rotate_left
    · intro w'
      go_simp
      with_reducible rfl
    rotate_left
    · simp only [Act.put, List.setIfInBounds_toArray, List.set_cons_zero, List.set_cons_succ, i64_w, i32_w]
      rfl
    refine pure_ (i := 9) (N := some 9) (v := ?_) (a' := ?_) #[true, true, true, true, true, true, true, true, true, true, false] rfl rfl (by kernel_rfl) (fun _ _ _ h => h) (Or.inl ⟨by rfl, ?_⟩) ?_ ?_
    rotate_left
    · intro w'
      go_simp
      with_reducible rfl
    rotate_left
    · simp only [Act.put, List.setIfInBounds_toArray, List.set_cons_zero, List.set_cons_succ, i64_w, i32_w]
      rfl
    refine pure_ (i := 10) (N := some 10) (v := ?_) (a' := ?_) #[true, true, true, true, true, true, true, true, true, true, true] rfl rfl (by kernel_rfl) (fun _ _ _ h => h) (Or.inl ⟨by rfl, ?_⟩) ?_ ?_
    rotate_left
    · intro w'
      go_simp
      with_reducible rfl
    rotate_left
    · simp only [Act.put, List.setIfInBounds_toArray, List.set_cons_zero, List.set_cons_succ, i64_w, i32_w]
      rfl
    refine done_ (by kernel_rfl) ?_
    clear HOb HA0 d0 d1 HBA1
    go_wp2_with fail
    refine (wicketlaw05_num.calls 0 0 _ rfl).mono ?_
    rintro e w4 ⟨rfl, hd⟩
    replace HT3 := Aside0.mk (HT3.out.tell hd.below)
    clear hd
    go_wp2_with fail
    refine (wicketlaw05_num.calls 0 0 _ rfl).mono ?_
    rintro e w5 ⟨rfl, hd⟩
    replace HT3 := Aside0.mk (HT3.out.tell hd.below)
    clear hd
    go_wp2_with fail
    refine (law_live.calls _).mono ?_
    rintro e w6 ⟨rfl, hb⟩
    replace HT3 := Aside0.mk (HT3.out.tell hb)
    clear hb
    by_cases hn1 : n < 1
    · have k1 : decide (n < 1) = true := decide_eq_true hn1
      go_wp2_with fail
      go_ret
      exact ⟨rfl, below_step HB1.out (two_below HT3.out)⟩
    · have k1 : decide (n < 1) = false := decide_eq_false hn1
      have hst := die_start HNI.out (Int.not_lt.1 hn1)
      have HST := Aside0.mk hst
      have HN1 : Aside0 (1 ≤ n) := ⟨Int.not_lt.1 hn1⟩
      clear hst hn1
      go_wp2_with fail
      refine (disk_Arm.pairA HT3.out n HNB.out).mono ?_
      rintro e w7 ⟨⟨v7, rfl⟩, h7⟩
      rw [HST.out.1] at h7
      have HI0 : Aside0 (∃ B, TwoD wb w7 (fun _ => False) a b (armS B (n - B.ops)) B ∧ DieR n B) := ⟨S0, h7, HST.out.2⟩
      clear h7 HT3 HST k1
      go_wp2_with fail
      go_loopw [11] (fun v11 wr => ∃ i : Nat, i ≤ N ∧ v11 = .int .i64 i ∧ Aside0 (∃ B, TwoD wb wr (fun _ => False) a b (armS B (n - B.ops)) B ∧ DieR n B)) (fun v11 _ => N - (intOf v11).toNat)
      case atStart => exact ⟨0, Nat.zero_le _, rfl, HI0⟩
      case round =>
        clear HI0
        obtain ⟨i, hi, rfl, HI⟩ := hrel
        obtain ⟨D, hT, hR⟩ := HI.out
        have HT := Aside0.mk hT
        have HR := Aside0.mk hR
        clear HI hT hR
        by_cases hlt : i < N
        · have d2 := (blk_cell (two_by HT.out HBX.out.1 BX.out) 2).trans rfl
          have HBW := Aside0.mk (below_step HB1.out (two_below HT.out))
          obtain ⟨ad, Ap, cp, Ac, cc, hA, hcp, hCp, hcc, hCc, h0, h1, h2, h3, h4, h5, h6⟩ := act_at (Kd.C_below HC2.out HBW.out) i (by have := HN.out; omega)
          have hok := HX.out.a _ (actN_mem (xs := x.acts) (i := i) (by have := HN.out; omega))
          obtain ⟨⟨kd, nm, ds, p, an, cd, ct⟩, hact⟩ : ∃ a, a = actN x.acts i := ⟨_, rfl⟩
          rw [← hact] at h0 h1 h2 h3 h4 h5 h6 hok hCp
          have HOK := Aside0.mk hok
          simp only at h0 h1 h2 h3 h4 h5 h6 hCp
          obtain ⟨L, hL⟩ : ∃ L, L = p.length := ⟨_, rfl⟩
          have HL := Aside0.mk hL
          rw [← hL] at h3 hCp
          subst hA
          have b4 := blk_new wr (.cells #[.int .i64 kd, .string nm, .string ds, .slice Ap L cp, .int .i64 an, .int .i64 cd, .slice Ac ct.length cc] 55 (0, 0))
          have H := Aside0.mk (HT.out.box (.cells #[.int .i64 kd, .string nm, .string ds, .slice Ap L cp, .int .i64 an, .int .i64 cd, .slice Ac ct.length cc] 55))
          have HCP := Aside0.mk (Kd.C_below hCp (below_alloc (Below.refl _ _) (.cells #[.int .i64 kd, .string nm, .string ds, .slice Ap L cp, .int .i64 an, .int .i64 cd, .slice Ac ct.length cc] 55)))
          have HCB : Aside0 (∀ w4, Below w.heap.size w w4 → Kd.C kB w4 Ap L p) := ⟨fun w4 hb => by
            obtain ⟨ad9, Ap9, cp9, _, _, hA9, _, hC9, _, _, _, _, _, hs9, _⟩ := act_at HC2.out i (by have := HN.out; omega)
            rw [← hact] at hC9 hs9
            have h9 := pw_cell_below HBW.out hs9
            cases hA9
            rw [h3] at h9
            cases h9
            rw [← hL] at hC9
            exact Kd.C_below hC9 hb⟩
          clear hCp hCc hcc hcp hact hok hL HT
          go_upto_region 14 with (fail)
          obtain ⟨w8, hw8⟩ : ∃ w8, w8 = wr.alloc (.cells #[.int .i64 kd, .string nm, .string ds, .slice Ap L cp, .int .i64 an, .int .i64 cd, .slice Ac ct.length cc] 55) := ⟨_, rfl⟩
          obtain ⟨B, hB⟩ : ∃ B, B = wr.heap.size := ⟨_, rfl⟩
          rw [← hB, ← hw8] at b4
          rw [← hw8, ← hB] at H
          rw [← hw8] at HCP
          rw [← hw8]
          rw [← hB]
          have BK := Aside0.mk b4
          clear hw8 hB h0 h1 h2 h3 h4 h5 h6 d2 b4
          have b0 := (blk_cell BK.out 0).trans rfl
          by_cases hk1 : kd < 1
          · have k1 : decide (kd < 1) = true := decide_eq_true hk1
            have HNX : Aside0 (∃ B, TwoD wb w8 (fun _ => False) a b (armS B (n - B.ops)) B ∧ DieR n B) := ⟨D, H.out.free, HR.out⟩
            clear H HR HCP BK
            go_wp2_with fail
            go_roundw
            case rel => exact ⟨i + 1, by omega, by go_num, HNX⟩
            case measure => simp [intOf]; omega
          · have k1 : decide (kd < 1) = false := decide_eq_false hk1
            by_cases hk6 : 6 < kd
            · have k6 : decide (6 < kd) = true := decide_eq_true hk6
              have HNX : Aside0 (∃ B, TwoD wb w8 (fun _ => False) a b (armS B (n - B.ops)) B ∧ DieR n B) := ⟨D, H.out.free, HR.out⟩
              clear H HR HCP BK
              go_wp2_with fail
              go_roundw
              case rel => exact ⟨i + 1, by omega, by go_num, HNX⟩
              case measure => simp [intOf]; omega
            · have k6 : decide (6 < kd) = false := decide_eq_false hk6
              have b1 := (blk_cell BK.out 1).trans rfl
              have b2 := (blk_cell BK.out 2).trans rfl
              have b3 := (blk_cell BK.out 3).trans rfl
              have b5 := (blk_cell BK.out 4).trans rfl
              have b6 := (blk_cell BK.out 5).trans rfl
              have b7 := (blk_cell BK.out 6).trans rfl
              go_wp2_with fail
              refine (disk_Count.own H.out.ownB).mono ?_
              rintro e w9 ⟨rfl, rfl⟩
              have HRN := HR.out.ops
              have hn1 := HN1.out
              have hn3 := HNB.out.2
              have HOI := H.out.ownB.inv.opsB
              by_cases heq : D.ops = n - 1
              · have kq : (D.ops == n - 1) = true := beq_iff_eq.2 heq
                have hw1 : wrap64 (n - 1) = n - 1 := w64L (by omega) (by omega)
                have kw : (D.ops == wrap64 (n - 1)) = true := by rw [hw1]; exact kq
                have kw2 : decide (D.ops = wrap64 (n - 1)) = true := decide_eq_true (by rw [hw1]; exact heq)
                clear hw1
                rcases die_eq HR.out heq ⟨kd, nm, ds, p, an, cd, ct⟩ with ⟨g, hg0, hg1, hg2⟩ | hg2
                · have HG0 := Aside0.mk hg0
                  have HCA1 : Aside0 (∀ w4, TwoD wb w4 (fun k => k = B) a b (armS D (n - D.ops)) (D) → Calls Try.prog 27 #[.pointer (some ⟨a, 0, none⟩), .agg #[.int .i64 kd, .string nm, .string ds, .slice Ap L cp, .int .i64 an, .int .i64 cd, .slice Ac ct.length cc]] w4 fun e w' => e = .returned (.int .i64 (g)) ∧ TwoD wb w' (fun k => k = B) a b (armS D (n - D.ops)) (D) ∧ w'.heap[B]? = w4.heap[B]?) := ⟨fun w4 h4 => by
                    have hcc := HCB.out w4 (below_step HB1.out (two_below h4))
                    rw [HL.out] at hcc
                    have h9 := law_one.pairA h4 ⟨kd, nm, ds, p, an, cd, ct⟩ HOK.out Ap cp Ac cc hcc
                    rw [hg2] at h9
                    rw [HL.out]
                    exact h9.mono (fun e w' hh => ⟨hh.1, hh.2.1, hh.2.2 B rfl⟩)⟩
                  have HCB1 : Aside0 (∀ w4, TwoD wb w4 (fun k => k = B) a b (armS D (n - D.ops)) (D) → Calls Try.prog 27 #[.pointer (some ⟨b, 0, none⟩), .agg #[.int .i64 kd, .string nm, .string ds, .slice Ap L cp, .int .i64 an, .int .i64 cd, .slice Ac ct.length cc]] w4 fun e w' => e = .returned (.int .i64 (g)) ∧ TwoD wb w' (fun k => k = B) a b (armS D (n - D.ops)) (D) ∧ w'.heap[B]? = w4.heap[B]?) := ⟨fun w4 h4 => by
                    have hcc := HCB.out w4 (below_step HB1.out (two_below h4))
                    rw [HL.out] at hcc
                    have h9 := law_one.pairB h4 ⟨kd, nm, ds, p, an, cd, ct⟩ HOK.out Ap cp Ac cc hcc
                    rw [hg1] at h9
                    rw [HL.out]
                    exact h9.mono (fun e w' hh => ⟨hh.1, hh.2.1, hh.2.2 B rfl⟩)⟩
                  have kg : (g == 0) = false := beq_eq_false_iff_ne.mpr hg0
                  clear hg1 hg2 hg0 heq hk1 hk6
                  go_wp2_with fail
                  refine (HCA1.out _ H.out).mono ?_
                  rintro e w10 ⟨rfl, h10, hk10⟩
                  have H10 := Aside0.mk h10
                  have BK10 := Aside0.mk (hk10.trans BK.out)
                  clear h10 hk10 b0 b1 b2 b3 b5 b6 b7 H BK
                  go_wp2_with fail
                  refine (disk_Dead.own H10.out.ownA).mono ?_
                  rintro e w11 ⟨rfl, rfl⟩
                  rw [show (armS D (n - D.ops)).dead = false from HR.out.dead]
                  have b0 := (blk_cell BK10.out 0).trans rfl
                  have b1 := (blk_cell BK10.out 1).trans rfl
                  have b2 := (blk_cell BK10.out 2).trans rfl
                  have b3 := (blk_cell BK10.out 3).trans rfl
                  have b5 := (blk_cell BK10.out 4).trans rfl
                  have b6 := (blk_cell BK10.out 5).trans rfl
                  have b7 := (blk_cell BK10.out 6).trans rfl
                  go_wp2_with fail
                  refine (HCB1.out _ H10.out).mono ?_
                  rintro e w12 ⟨rfl, h12, hk12⟩
                  have H12 := Aside0.mk h12
                  clear h12 hk12 b0 b1 b2 b3 b5 b6 b7 H10 BK10
                  go_wp2_with fail
                  refine (wicketlaw05_num.calls g g _ rfl).mono ?_
                  rintro e w13 ⟨rfl, hd⟩
                  have HNX : Aside0 (∃ B, TwoD wb w13 (fun _ => False) a b (armS B (n - B.ops)) B ∧ DieR n B) := ⟨D, (H12.out.tell hd.below).free, HR.out⟩
                  clear hd H12
                  go_wp2_with fail
                  go_roundw
                  case rel => exact ⟨i + 1, by omega, by go_num, HNX⟩
                  case measure => simp [intOf]; omega
                · have HEQ := Aside0.mk heq
                  have HCA1 : Aside0 (∀ w4, TwoD wb w4 (fun k => k = B) a b (armS D (n - D.ops)) (D) → Calls Try.prog 27 #[.pointer (some ⟨a, 0, none⟩), .agg #[.int .i64 kd, .string nm, .string ds, .slice Ap L cp, .int .i64 an, .int .i64 cd, .slice Ac ct.length cc]] w4 fun e w' => e = .returned (.int .i64 (51)) ∧ TwoD wb w' (fun k => k = B) a b (deadS D) (D) ∧ w'.heap[B]? = w4.heap[B]?) := ⟨fun w4 h4 => by
                    have hcc := HCB.out w4 (below_step HB1.out (two_below h4))
                    rw [HL.out] at hcc
                    have h9 := law_one.pairA h4 ⟨kd, nm, ds, p, an, cd, ct⟩ HOK.out Ap cp Ac cc hcc
                    rw [hg2] at h9
                    rw [HL.out]
                    exact h9.mono (fun e w' hh => ⟨hh.1, hh.2.1, hh.2.2 B rfl⟩)⟩
                  clear hg2 heq hk1 hk6
                  go_wp2_with fail
                  refine (HCA1.out _ H.out).mono ?_
                  rintro e w10 ⟨rfl, h10, hk10⟩
                  have H10 := Aside0.mk h10
                  clear h10 hk10 b0 b1 b2 b3 b5 b6 b7 H BK
                  go_wp2_with fail
                  refine (disk_Dead.own H10.out.ownA).mono ?_
                  rintro e w11 ⟨rfl, rfl⟩
                  rw [show (deadS D).dead = true from rfl]
                  have HINV := Aside0.mk H10.out.ownB.inv
                  obtain ⟨ksm, hksm⟩ := (same_ev (HINV.out.fsB y.1 y.2)).rounds
                  have HKS := Aside0.mk hksm
                  clear hksm
                  obtain ⟨W, hW⟩ : ∃ W, W = (leftOf D y.1 y.2).map mkF := ⟨_, rfl⟩
                  rw [← hW] at HKS
                  have HW := Aside0.mk hW
                  clear hW
                  obtain ⟨LW, hLW⟩ : ∃ LW, LW = W.length := ⟨_, rfl⟩
                  have HLW := Aside0.mk hLW
                  clear hLW
                  have y0 := (blk_cell (two_by H10.out HBX.out.2 BY.out) 0).trans rfl
                  have y1 := (blk_cell (two_by H10.out HBX.out.2 BY.out) 1).trans rfl
                  go_upto_region 18 with (fail)
                  refine start_ (n := 34) (S := fun w' => w'.cell? ⟨By, 0, none⟩ = some (.int .i64 y.1) ∧ w'.cell? ⟨By, 1, none⟩ = some (.slice A3 y.2.length c3)) (ds := []) #[false, false, false, false, false, false, false, false, false, false, false, false, false, false, false, false, false, false, false, false, false, false, false, false, false, false, false, false, false, false, false, false, false, false] (by kernel_rfl) rfl rfl ⟨y0, y1⟩ (fun hHeld => ?_)
                  refine pure_ (i := 0) (N := some 85) (v := ?_) (a' := ?_) #[true, false, false, false, false, false, false, false, false, false, false, false, false, false, false, false, false, false, false, false, false, false, false, false, false, false, false, false, false, false, false, false, false, false] rfl rfl (by kernel_rfl) (fun _ _ _ h => h) (Or.inl ⟨by rfl, ?_⟩) ?_ ?_
                  rotate_left
                  · intro w'
                    go_simp
                    with_reducible rfl
                  rotate_left
                  · simp only [Act.put, List.setIfInBounds_toArray, List.set_cons_zero, List.set_cons_succ, i64_w, i32_w]
                    rfl
                  refine one_ (i := 1) (N := some 86) #[true, true, false, false, false, false, false, false, false, false, false, false, false, false, false, false, false, false, false, false, false, false, false, false, false, false, false, false, false, false, false, false, false, false] rfl rfl (by kernel_rfl) (by decide) (fun K hK => ?_)
                  refine goes_ Try.func19 (by kernel_rfl) rfl #[.int .i64 51] (by rfl) rfl rfl (by simp only [List.map_toArray, List.map_cons, List.map_nil]; rfl) ?_
                  with_reducible refine (wicketlaw05_num.calls 51 51 _ rfl).mono ?_
                  rintro e w12 ⟨rfl, hd⟩
                  have H12 := Aside0.mk (H10.out.tell (below_step (below_drew1 (Below.refl _ _)) hd.below))
                  clear hd
                  refine ⟨_, rfl, ?_⟩
                  refine hK.out _ _ ⟨(blk_cell (two_by H12.out HBX.out.2 BY.out) 0).trans rfl, (blk_cell (two_by H12.out HBX.out.2 BY.out) 1).trans rfl⟩ (fun hHeld => ?_)
                  clear hK K
                  refine norm_ (a' := ?_) ?_ ?_
                  rotate_left
                  · show Act.put _ (some 86) _ = _
                    simp only [Act.put, List.setIfInBounds_toArray, List.set_cons_zero, List.set_cons_succ, i64_w, i32_w]
                    rfl
                  refine pure_ (i := 2) (N := some 87) (v := ?_) (a' := ?_) #[true, true, true, false, false, false, false, false, false, false, false, false, false, false, false, false, false, false, false, false, false, false, false, false, false, false, false, false, false, false, false, false, false, false] rfl rfl (by kernel_rfl) (fun _ _ _ h => h) (Or.inl ⟨by rfl, ?_⟩) ?_ ?_
                  rotate_left
                  · intro w'
                    go_simp
                    with_reducible rfl
                  rotate_left
                  · simp only [Act.put, List.setIfInBounds_toArray, List.set_cons_zero, List.set_cons_succ, i64_w, i32_w]
                    rfl
                  refine pure_ (i := 3) (N := some 88) (v := ?_) (a' := ?_) #[true, true, true, true, false, false, false, false, false, false, false, false, false, false, false, false, false, false, false, false, false, false, false, false, false, false, false, false, false, false, false, false, false, false] rfl rfl (by kernel_rfl) (fun _ _ _ h => h) (Or.inl ⟨by rfl, ?_⟩) ?_ ?_
                  rotate_left
                  · intro w'
                    go_simp
                    with_reducible rfl
                  rotate_left
                  · simp only [Act.put, List.setIfInBounds_toArray, List.set_cons_zero, List.set_cons_succ, i64_w, i32_w]
                    rfl
                  refine pure_ (i := 4) (N := some 89) (v := ?_) (a' := ?_) #[true, true, true, true, true, false, false, false, false, false, false, false, false, false, false, false, false, false, false, false, false, false, false, false, false, false, false, false, false, false, false, false, false, false] rfl rfl (by kernel_rfl) (fun _ _ _ h => h) (Or.inl ⟨by rfl, ?_⟩) ?_ ?_
                  rotate_left
                  · intro w'
                    go_simp
                    with_reducible rfl
                  rotate_left
                  · simp only [Act.put, List.setIfInBounds_toArray, List.set_cons_zero, List.set_cons_succ, i64_w, i32_w]
                    rfl
                  refine one_ (i := 5) (N := some 90) #[true, true, true, true, true, true, false, false, false, false, false, false, false, false, false, false, false, false, false, false, false, false, false, false, false, false, false, false, false, false, false, false, false, false] rfl rfl (by kernel_rfl) (by decide) (fun K hK => ?_)
                  refine goes_ Try.func28 (by kernel_rfl) rfl #[.pointer (some ⟨a, 0, none⟩)] (by rfl) rfl rfl (by simp only [List.map_toArray, List.map_cons, List.map_nil]; rfl) ?_
                  have hsd := disk_SyncDir.deadA H12.out
                  refine hsd.mono ?_
                  rintro e w13 ⟨rfl, h13⟩
                  have H13 := Aside0.mk h13
                  clear h13 hsd
                  refine ⟨_, rfl, ?_⟩
                  refine hK.out _ _ ⟨(blk_cell (two_by H13.out HBX.out.2 BY.out) 0).trans rfl, (blk_cell (two_by H13.out HBX.out.2 BY.out) 1).trans rfl⟩ (fun hHeld => ?_)
                  clear hK K
                  refine norm_ (a' := ?_) ?_ ?_
                  rotate_left
                  · show Act.put _ (some 90) _ = _
                    simp only [Act.put, List.setIfInBounds_toArray, List.set_cons_zero, List.set_cons_succ, i64_w, i32_w]
                    rfl
                  refine one_ (i := 6) (N := some 91) #[true, true, true, true, true, true, true, false, false, false, false, false, false, false, false, false, false, false, false, false, false, false, false, false, false, false, false, false, false, false, false, false, false, false] rfl rfl (by kernel_rfl) (by decide) (fun K hK => ?_)
                  refine goes_ Try.func19 (by kernel_rfl) rfl #[.int .i64 51] (by rfl) rfl rfl (by simp only [List.map_toArray, List.map_cons, List.map_nil]; rfl) ?_
                  with_reducible refine (wicketlaw05_num.calls 51 51 _ rfl).mono ?_
                  rintro e w14 ⟨rfl, hd⟩
                  have H14 := Aside0.mk (H13.out.tell hd.below)
                  clear hd
                  refine ⟨_, rfl, ?_⟩
                  refine hK.out _ _ ⟨(blk_cell (two_by H14.out HBX.out.2 BY.out) 0).trans rfl, (blk_cell (two_by H14.out HBX.out.2 BY.out) 1).trans rfl⟩ (fun hHeld => ?_)
                  clear hK K
                  refine norm_ (a' := ?_) ?_ ?_
                  rotate_left
                  · show Act.put _ (some 91) _ = _
                    simp only [Act.put, List.setIfInBounds_toArray, List.set_cons_zero, List.set_cons_succ, i64_w, i32_w]
                    rfl
                  refine pure_ (i := 7) (N := some 92) (v := ?_) (a' := ?_) #[true, true, true, true, true, true, true, true, false, false, false, false, false, false, false, false, false, false, false, false, false, false, false, false, false, false, false, false, false, false, false, false, false, false] rfl rfl (by kernel_rfl) (fun _ _ _ h => h) (Or.inl ⟨by rfl, ?_⟩) ?_ ?_
                  rotate_left
                  · intro w'
                    go_simp
                    with_reducible rfl
                  rotate_left
                  · simp only [Act.put, List.setIfInBounds_toArray, List.set_cons_zero, List.set_cons_succ, i64_w, i32_w]
                    rfl
                  refine pure_ (i := 8) (N := some 93) (v := ?_) (a' := ?_) #[true, true, true, true, true, true, true, true, true, false, false, false, false, false, false, false, false, false, false, false, false, false, false, false, false, false, false, false, false, false, false, false, false, false] rfl rfl (by kernel_rfl) (fun _ _ _ h => h) (Or.inl ⟨by rfl, ?_⟩) ?_ ?_
                  rotate_left
                  · intro w'
                    go_simp
                    with_reducible rfl
                  rotate_left
                  · simp only [Act.put, List.setIfInBounds_toArray, List.set_cons_zero, List.set_cons_succ, i64_w, i32_w]
                    rfl
                  refine pure_ (i := 9) (N := some 94) (v := ?_) (a' := ?_) #[true, true, true, true, true, true, true, true, true, true, false, false, false, false, false, false, false, false, false, false, false, false, false, false, false, false, false, false, false, false, false, false, false, false] rfl rfl (by kernel_rfl) (fun _ _ _ h => h) (Or.inl ⟨by rfl, ?_⟩) ?_ ?_
                  rotate_left
                  · intro w'
                    go_simp
                    with_reducible rfl
                  rotate_left
                  · simp only [Act.put, List.setIfInBounds_toArray, List.set_cons_zero, List.set_cons_succ, i64_w, i32_w]
                    rfl
                  refine pure_ (i := 10) (N := some 95) (v := ?_) (a' := ?_) #[true, true, true, true, true, true, true, true, true, true, true, false, false, false, false, false, false, false, false, false, false, false, false, false, false, false, false, false, false, false, false, false, false, false] rfl rfl (by kernel_rfl) (fun _ _ _ h => h) (Or.inl ⟨by rfl, ?_⟩) ?_ ?_
                  rotate_left
                  · intro w'
                    go_simp
                    with_reducible rfl
                  rotate_left
                  · simp only [Act.put, List.setIfInBounds_toArray, List.set_cons_zero, List.set_cons_succ, i64_w, i32_w]
                    rfl
                  refine pure_ (i := 14) (N := some 99) (v := ?_) (a' := ?_) #[true, true, true, true, true, true, true, true, true, true, true, false, false, false, true, false, false, false, false, false, false, false, false, false, false, false, false, false, false, false, false, false, false, false] rfl rfl (by kernel_rfl) (fun _ _ _ h => h) (Or.inl ⟨by rfl, ?_⟩) ?_ ?_
                  rotate_left
                  · intro w'
                    go_simp
                    with_reducible rfl
                  rotate_left
                  · simp only [Act.put, List.setIfInBounds_toArray, List.set_cons_zero, List.set_cons_succ, i64_w, i32_w]
                    rfl
                  refine take_ (i := 11) (N := some 96) (v := ?_) (a' := ?_) #[true, true, true, true, true, true, true, true, true, true, true, true, false, false, true, false, false, false, false, false, false, false, false, false, false, false, false, false, false, false, false, false, false, false] rfl rfl (by kernel_rfl) (fun _ _ _ h => h) (Or.inl ⟨by rfl, ?_⟩) hHeld ?_ ?_
                  rotate_left
                  · rintro w' ⟨s0, s1⟩
                    go_simp
                    with_reducible rfl
                  rotate_left
                  · simp only [Act.put, List.setIfInBounds_toArray, List.set_cons_zero, List.set_cons_succ, i64_w, i32_w]
                    rfl
                  refine take_ (i := 15) (N := some 100) (v := ?_) (a' := ?_) #[true, true, true, true, true, true, true, true, true, true, true, true, false, false, true, true, false, false, false, false, false, false, false, false, false, false, false, false, false, false, false, false, false, false] rfl rfl (by kernel_rfl) (fun _ _ _ h => h) (Or.inl ⟨by rfl, ?_⟩) hHeld ?_ ?_
                  rotate_left
                  · rintro w' ⟨s0, s1⟩
                    go_simp
                    with_reducible rfl
                  rotate_left
                  · simp only [Act.put, List.setIfInBounds_toArray, List.set_cons_zero, List.set_cons_succ, i64_w, i32_w]
                    rfl
                  refine one_ (i := 12) (N := some 97) #[true, true, true, true, true, true, true, true, true, true, true, true, true, false, true, true, false, false, false, false, false, false, false, false, false, false, false, false, false, false, false, false, false, false] rfl rfl (by kernel_rfl) (by decide) (fun K hK => ?_)
                  refine goes_ Try.func16 (by kernel_rfl) rfl #[.agg #[.int .i64 y.1, .slice A3 y.2.length c3]] (by rfl) rfl rfl (by simp only [List.map_toArray, List.map_cons, List.map_nil]; rfl) ?_
                  with_reducible refine (wicketlaw05_crash.calls y.1 A3 c3 y.2 y.1 y.2 _ (Kd.C_below HC3.out (below_step HB1.out (two_below H14.out))) HCc3.out (crash_f HY.out.len8)).mono ?_
                  rintro e w15 ⟨v15, rfl, hr, hb⟩
                  obtain ⟨A15, c15, hv⟩ := Kd.R_slice hr
                  subst hv
                  have HR15 := Aside0.mk (Kd.R_reads' hr).2
                  have H15 := Aside0.mk (H14.out.tell hb)
                  clear hr hb
                  refine ⟨_, rfl, ?_⟩
                  refine hK.out _ _ ⟨(blk_cell (two_by H15.out HBX.out.2 BY.out) 0).trans rfl, (blk_cell (two_by H15.out HBX.out.2 BY.out) 1).trans rfl⟩ (fun hHeld => ?_)
                  clear hK K
                  refine norm_ (a' := ?_) ?_ ?_
                  rotate_left
                  · show Act.put _ (some 97) _ = _
                    simp only [Act.put, List.setIfInBounds_toArray, List.set_cons_zero, List.set_cons_succ, i64_w, i32_w]
                    rfl
                  refine one_ (i := 13) (N := some 98) #[true, true, true, true, true, true, true, true, true, true, true, true, true, true, true, true, false, false, false, false, false, false, false, false, false, false, false, false, false, false, false, false, false, false] rfl rfl (by kernel_rfl) (by decide) (fun K hK => ?_)
                  refine goes_ Try.func15 (by kernel_rfl) rfl #[.pointer (some ⟨a, 0, none⟩), .agg #[.int .i64 y.1, .slice A15 y.2.length c15]] (by rfl) rfl rfl (by simp only [List.map_toArray, List.map_cons, List.map_nil]; rfl) ?_
                  have hlf := disk_Left.own H15.out.ownA y.1 HY.out.d A15 c15 y.2 HR15.out.2 HR15.out.1 HY.out.t
                  rw [show leftOf (deadS D) y.1 y.2 = leftOf D y.1 y.2 from rfl, ← HW.out] at hlf
                  refine hlf.mono ?_
                  rintro e w16 ⟨v16, rfl, hr, hb, _⟩
                  obtain ⟨A16, c16, hv⟩ := Kd.R_slice hr
                  have HR16 := Aside0.mk (Kd.R_reads' (hv ▸ hr)).2
                  rw [← HLW.out] at hv
                  subst hv
                  have H16 := Aside0.mk (H15.out.tell hb)
                  have HLB16 := Aside0.mk hb
                  clear hr hb hlf
                  refine ⟨_, rfl, ?_⟩
                  refine hK.out _ _ ⟨(blk_cell (two_by H16.out HBX.out.2 BY.out) 0).trans rfl, (blk_cell (two_by H16.out HBX.out.2 BY.out) 1).trans rfl⟩ (fun hHeld => ?_)
                  clear hK K
                  refine norm_ (a' := ?_) ?_ ?_
                  rotate_left
                  · show Act.put _ (some 98) _ = _
                    simp only [Act.put, List.setIfInBounds_toArray, List.set_cons_zero, List.set_cons_succ, i64_w, i32_w]
                    rfl
                  refine one_ (i := 16) (N := some 101) #[true, true, true, true, true, true, true, true, true, true, true, true, true, true, true, true, true, false, false, false, false, false, false, false, false, false, false, false, false, false, false, false, false, false] rfl rfl (by kernel_rfl) (by decide) (fun K hK => ?_)
                  refine goes_ Try.func16 (by kernel_rfl) rfl #[.agg #[.int .i64 y.1, .slice A3 y.2.length c3]] (by rfl) rfl rfl (by simp only [List.map_toArray, List.map_cons, List.map_nil]; rfl) ?_
                  with_reducible refine (wicketlaw05_crash.calls y.1 A3 c3 y.2 y.1 y.2 _ (Kd.C_below HC3.out (below_step HB1.out (two_below H16.out))) HCc3.out (crash_f HY.out.len8)).mono ?_
                  rintro e w17 ⟨v17, rfl, hr, hb⟩
                  obtain ⟨A17, c17, hv⟩ := Kd.R_slice hr
                  subst hv
                  have HR17 := Aside0.mk (Kd.R_reads' hr).2
                  have H17 := Aside0.mk (H16.out.tell hb)
                  have CB17 := Aside0.mk hb
                  clear hr hb
                  refine ⟨_, rfl, ?_⟩
                  refine hK.out _ _ ⟨(blk_cell (two_by H17.out HBX.out.2 BY.out) 0).trans rfl, (blk_cell (two_by H17.out HBX.out.2 BY.out) 1).trans rfl⟩ (fun hHeld => ?_)
                  clear hK K
                  refine norm_ (a' := ?_) ?_ ?_
                  rotate_left
                  · show Act.put _ (some 101) _ = _
                    simp only [Act.put, List.setIfInBounds_toArray, List.set_cons_zero, List.set_cons_succ, i64_w, i32_w]
                    rfl
                  refine one_ (i := 17) (N := some 102) #[true, true, true, true, true, true, true, true, true, true, true, true, true, true, true, true, true, true, false, false, false, false, false, false, false, false, false, false, false, false, false, false, false, false] rfl rfl (by kernel_rfl) (by decide) (fun K hK => ?_)
                  refine goes_ Try.func15 (by kernel_rfl) rfl #[.pointer (some ⟨b, 0, none⟩), .agg #[.int .i64 y.1, .slice A17 y.2.length c17]] (by rfl) rfl rfl (by simp only [List.map_toArray, List.map_cons, List.map_nil]; rfl) ?_
                  have hlf := disk_Left.own H17.out.ownB y.1 HY.out.d A17 c17 y.2 HR17.out.2 HR17.out.1 HY.out.t
                  rw [show leftOf (D) y.1 y.2 = leftOf D y.1 y.2 from rfl, ← HW.out] at hlf
                  refine hlf.mono ?_
                  rintro e w18 ⟨v18, rfl, hr, hb, _⟩
                  obtain ⟨A18, c18, hv⟩ := Kd.R_slice hr
                  have HR18 := Aside0.mk (Kd.R_reads' (hv ▸ hr)).2
                  rw [← HLW.out] at hv
                  subst hv
                  have H18 := Aside0.mk (H17.out.tell hb)
                  have HLB18 := Aside0.mk hb
                  clear hr hb hlf
                  refine ⟨_, rfl, ?_⟩
                  refine hK.out _ _ ⟨(blk_cell (two_by H18.out HBX.out.2 BY.out) 0).trans rfl, (blk_cell (two_by H18.out HBX.out.2 BY.out) 1).trans rfl⟩ (fun hHeld => ?_)
                  clear hK K
                  refine norm_ (a' := ?_) ?_ ?_
                  rotate_left
                  · show Act.put _ (some 102) _ = _
                    simp only [Act.put, List.setIfInBounds_toArray, List.set_cons_zero, List.set_cons_succ, i64_w, i32_w]
                    rfl
                  refine one_ (i := 18) (N := some 103) #[true, true, true, true, true, true, true, true, true, true, true, true, true, true, true, true, true, true, true, false, false, false, false, false, false, false, false, false, false, false, false, false, false, false] rfl rfl (by kernel_rfl) (by decide) (fun K hK => ?_)
                  refine goes_ Try.func29 (by kernel_rfl) rfl #[.slice A16 LW c16, .slice A18 LW c18] (by rfl) rfl rfl (by simp only [List.map_toArray, List.map_cons, List.map_nil]; rfl) ?_
                  have hsm := wicketlaw05_same.calls ksm A16 c16 W A18 c18 W true _ (Kd.C_below HR16.out.2 (below_step CB17.out HLB18.out)) HR16.out.1 HR18.out.2 HR18.out.1 HKS.out
                  rw [← HLW.out] at hsm
                  refine hsm.mono ?_
                  rintro e w19 ⟨rfl, hb⟩
                  have H19 := Aside0.mk (H18.out.tell hb)
                  clear hb hsm
                  refine ⟨_, rfl, ?_⟩
                  refine hK.out _ _ ⟨(blk_cell (two_by H19.out HBX.out.2 BY.out) 0).trans rfl, (blk_cell (two_by H19.out HBX.out.2 BY.out) 1).trans rfl⟩ (fun hHeld => ?_)
                  clear hK K
                  refine norm_ (a' := ?_) ?_ ?_
                  rotate_left
                  · show Act.put _ (some 103) _ = _
                    simp only [Act.put, List.setIfInBounds_toArray, List.set_cons_zero, List.set_cons_succ, i64_w, i32_w]
                    rfl
                  refine pure_ (i := 19) (N := some 104) (v := ?_) (a' := ?_) #[true, true, true, true, true, true, true, true, true, true, true, true, true, true, true, true, true, true, true, true, false, false, false, false, false, false, false, false, false, false, false, false, false, false] rfl rfl (by kernel_rfl) (fun _ _ _ h => h) (Or.inl ⟨by rfl, ?_⟩) ?_ ?_
                  rotate_left
                  · intro w'
                    go_simp
                    with_reducible rfl
                  rotate_left
                  · simp only [Act.put, List.setIfInBounds_toArray, List.set_cons_zero, List.set_cons_succ, i64_w, i32_w]
                    rfl
                  refine pure_ (i := 20) (N := some 105) (v := ?_) (a' := ?_) #[true, true, true, true, true, true, true, true, true, true, true, true, true, true, true, true, true, true, true, true, true, false, false, false, false, false, false, false, false, false, false, false, false, false] rfl rfl (by kernel_rfl) (fun _ _ _ h => h) (Or.inl ⟨by rfl, ?_⟩) ?_ ?_
                  rotate_left
                  · intro w'
                    go_simp
                    with_reducible rfl
                  rotate_left
                  · simp only [Act.put, List.setIfInBounds_toArray, List.set_cons_zero, List.set_cons_succ, i64_w, i32_w]
                    rfl
                  refine pure_ (i := 21) (N := some 106) (v := ?_) (a' := ?_) #[true, true, true, true, true, true, true, true, true, true, true, true, true, true, true, true, true, true, true, true, true, true, false, false, false, false, false, false, false, false, false, false, false, false] rfl rfl (by kernel_rfl) (fun _ _ _ h => h) (Or.inl ⟨by rfl, ?_⟩) ?_ ?_
                  rotate_left
                  · intro w'
                    go_simp
                    with_reducible rfl
                  rotate_left
                  · simp only [Act.put, List.setIfInBounds_toArray, List.set_cons_zero, List.set_cons_succ, i64_w, i32_w]
                    rfl
                  refine pure_ (i := 23) (N := some 108) (v := ?_) (a' := ?_) #[true, true, true, true, true, true, true, true, true, true, true, true, true, true, true, true, true, true, true, true, true, true, false, true, false, false, false, false, false, false, false, false, false, false] rfl rfl (by kernel_rfl) (fun _ _ _ h => h) (Or.inl ⟨by rfl, ?_⟩) ?_ ?_
                  rotate_left
                  · intro w'
                    go_simp
                    with_reducible rfl
                  rotate_left
                  · simp only [Act.put, List.setIfInBounds_toArray, List.set_cons_zero, List.set_cons_succ, i64_w, i32_w]
                    rfl
                  refine pure_ (i := 24) (N := some 109) (v := ?_) (a' := ?_) #[true, true, true, true, true, true, true, true, true, true, true, true, true, true, true, true, true, true, true, true, true, true, false, true, true, false, false, false, false, false, false, false, false, false] rfl rfl (by kernel_rfl) (fun _ _ _ h => h) (Or.inl ⟨by rfl, ?_⟩) ?_ ?_
                  rotate_left
                  · intro w'
                    go_simp
                    with_reducible rfl
                  rotate_left
                  · simp only [Act.put, List.setIfInBounds_toArray, List.set_cons_zero, List.set_cons_succ, i64_w, i32_w]
                    rfl
                  refine one_ (i := 22) (N := some 107) #[true, true, true, true, true, true, true, true, true, true, true, true, true, true, true, true, true, true, true, true, true, true, true, true, true, false, false, false, false, false, false, false, false, false] rfl rfl (by kernel_rfl) (by decide) (fun K hK => ?_)
                  refine goes_ Try.func20 (by kernel_rfl) rfl #[.pointer (some ⟨a, 0, none⟩)] (by rfl) rfl rfl (by simp only [List.map_toArray, List.map_cons, List.map_nil]; rfl) ?_
                  with_reducible refine (disk_Count.own H19.out.ownA).mono ?_
                  rintro e w20 ⟨rfl, rfl⟩
                  rw [show (deadS D).ops = D.ops from rfl]
                  refine ⟨_, rfl, ?_⟩
                  refine hK.out _ _ ⟨(blk_cell (two_by H19.out HBX.out.2 BY.out) 0).trans rfl, (blk_cell (two_by H19.out HBX.out.2 BY.out) 1).trans rfl⟩ (fun hHeld => ?_)
                  clear hK K
                  refine norm_ (a' := ?_) ?_ ?_
                  rotate_left
                  · show Act.put _ (some 107) _ = _
                    simp only [Act.put, List.setIfInBounds_toArray, List.set_cons_zero, List.set_cons_succ, i64_w, i32_w]
                    rfl
                  refine pure_ (i := 25) (N := some 110) (v := ?_) (a' := ?_) #[true, true, true, true, true, true, true, true, true, true, true, true, true, true, true, true, true, true, true, true, true, true, true, true, true, true, false, false, false, false, false, false, false, false] rfl rfl (by kernel_rfl) (fun _ _ _ h => h) (Or.inl ⟨by rfl, ?_⟩) ?_ ?_
                  rotate_left
                  · intro w'
                    go_simp
                    with_reducible rfl
                  rotate_left
                  · simp only [Act.put, List.setIfInBounds_toArray, List.set_cons_zero, List.set_cons_succ, i64_w, i32_w]
                    rfl
                  refine pure_ (i := 26) (N := some 111) (v := ?_) (a' := ?_) #[true, true, true, true, true, true, true, true, true, true, true, true, true, true, true, true, true, true, true, true, true, true, true, true, true, true, true, false, false, false, false, false, false, false] rfl rfl (by kernel_rfl) (fun _ _ _ h => h) (Or.inl ⟨by rfl, ?_⟩) ?_ ?_
                  rotate_left
                  · intro w'
                    go_simp
                    with_reducible rfl
                  rotate_left
                  · simp only [Act.put, List.setIfInBounds_toArray, List.set_cons_zero, List.set_cons_succ, i64_w, i32_w]
                    rfl
                  refine pure_ (i := 27) (N := some 112) (v := ?_) (a' := ?_) #[true, true, true, true, true, true, true, true, true, true, true, true, true, true, true, true, true, true, true, true, true, true, true, true, true, true, true, true, false, false, false, false, false, false] rfl rfl (by kernel_rfl) (fun _ _ _ h => h) (Or.inl ⟨by rfl, ?_⟩) ?_ ?_
                  rotate_left
                  · intro w'
                    go_simp
                    with_reducible rfl
                  rotate_left
                  · simp only [Act.put, List.setIfInBounds_toArray, List.set_cons_zero, List.set_cons_succ, i64_w, i32_w]
                    rfl
                  refine pure_ (i := 28) (N := some 113) (v := ?_) (a' := ?_) #[true, true, true, true, true, true, true, true, true, true, true, true, true, true, true, true, true, true, true, true, true, true, true, true, true, true, true, true, true, false, false, false, false, false] rfl rfl (by kernel_rfl) (fun _ _ _ h => h) (Or.inl ⟨by rfl, ?_⟩) ?_ ?_
                  rotate_left
                  · intro w'
                    go_simp
                    with_reducible rfl
                  rotate_left
                  · simp only [Act.put, List.setIfInBounds_toArray, List.set_cons_zero, List.set_cons_succ, i64_w, i32_w]
                    rfl
                  refine one_ (i := 29) (N := some 114) #[true, true, true, true, true, true, true, true, true, true, true, true, true, true, true, true, true, true, true, true, true, true, true, true, true, true, true, true, true, true, false, false, false, false] rfl rfl (by kernel_rfl) (by decide) (fun K hK => ?_)
                  refine goes_ Try.func25 (by kernel_rfl) rfl #[.pointer (some ⟨a, 0, none⟩)] (by rfl) rfl rfl (by simp only [List.map_toArray, List.map_cons, List.map_nil]; rfl) ?_
                  with_reducible refine (disk_List.own H19.out.ownA).mono ?_
                  rintro e w21 ⟨v21, rfl, hr, hb, _⟩
                  rw [dead_list] at hr
                  obtain ⟨A21, c21, hv⟩ := Kd.R_slice hr
                  subst hv
                  have H21 := Aside0.mk (H19.out.tell hb)
                  clear hr hb
                  refine ⟨_, rfl, ?_⟩
                  refine hK.out _ _ ⟨(blk_cell (two_by H21.out HBX.out.2 BY.out) 0).trans rfl, (blk_cell (two_by H21.out HBX.out.2 BY.out) 1).trans rfl⟩ (fun hHeld => ?_)
                  clear hK K
                  refine norm_ (a' := ?_) ?_ ?_
                  rotate_left
                  · show Act.put _ (some 114) _ = _
                    simp only [Act.put, List.setIfInBounds_toArray, List.set_cons_zero, List.set_cons_succ, i64_w, i32_w]
                    rfl
                  refine pure_ (i := 30) (N := some 115) (v := ?_) (a' := ?_) #[true, true, true, true, true, true, true, true, true, true, true, true, true, true, true, true, true, true, true, true, true, true, true, true, true, true, true, true, true, true, true, false, false, false] rfl rfl (by kernel_rfl) (fun _ _ _ h => h) (Or.inl ⟨by rfl, ?_⟩) ?_ ?_
                  rotate_left
                  · intro w'
                    go_simp
                    with_reducible rfl
                  rotate_left
                  · simp only [Act.put, List.setIfInBounds_toArray, List.set_cons_zero, List.set_cons_succ, i64_w, i32_w]
                    rfl
                  refine pure_ (i := 31) (N := some 116) (v := ?_) (a' := ?_) #[true, true, true, true, true, true, true, true, true, true, true, true, true, true, true, true, true, true, true, true, true, true, true, true, true, true, true, true, true, true, true, true, false, false] rfl rfl (by kernel_rfl) (fun _ _ _ h => h) (Or.inl ⟨by rfl, ?_⟩) ?_ ?_
                  rotate_left
                  · intro w'
                    go_simp
                    with_reducible rfl
                  rotate_left
                  · simp only [Act.put, List.setIfInBounds_toArray, List.set_cons_zero, List.set_cons_succ, i64_w, i32_w]
                    rfl
                  refine pure_ (i := 32) (N := some 117) (v := ?_) (a' := ?_) #[true, true, true, true, true, true, true, true, true, true, true, true, true, true, true, true, true, true, true, true, true, true, true, true, true, true, true, true, true, true, true, true, true, false] rfl rfl (by kernel_rfl) (fun _ _ _ h => h) (Or.inl ⟨by rfl, ?_⟩) ?_ ?_
                  rotate_left
                  · intro w'
                    go_simp
                    with_reducible rfl
                  rotate_left
                  · simp only [Act.put, List.setIfInBounds_toArray, List.set_cons_zero, List.set_cons_succ, i64_w, i32_w]
                    rfl
                  refine pure_ (i := 33) (N := some 6) (v := ?_) (a' := ?_) #[true, true, true, true, true, true, true, true, true, true, true, true, true, true, true, true, true, true, true, true, true, true, true, true, true, true, true, true, true, true, true, true, true, true] rfl rfl (by kernel_rfl) (fun _ _ _ h => h) (Or.inl ⟨by rfl, ?_⟩) ?_ ?_
                  rotate_left
                  · intro w'
                    go_simp
                    with_reducible rfl
                  rotate_left
                  · simp only [Act.put, List.setIfInBounds_toArray, List.set_cons_zero, List.set_cons_succ, i64_w, i32_w]
                    rfl
                  refine done_ (by kernel_rfl) ?_
                  go_wp2_with fail
                  go_ret
                  exact ⟨rfl, below_step HB1.out (two_below H21.out)⟩
              · have kq : (D.ops == n - 1) = false := beq_eq_false_iff_ne.mpr heq
                obtain ⟨D', g, hg1, hg2, hR'⟩ := die_ne HR.out heq ⟨kd, nm, ds, p, an, cd, ct⟩
                have HR2 := Aside0.mk hR'
                have HCA1 : Aside0 (∀ w4, TwoD wb w4 (fun k => k = B) a b (armS D (n - D.ops)) (D) → Calls Try.prog 27 #[.pointer (some ⟨a, 0, none⟩), .agg #[.int .i64 kd, .string nm, .string ds, .slice Ap L cp, .int .i64 an, .int .i64 cd, .slice Ac ct.length cc]] w4 fun e w' => e = .returned (.int .i64 (g)) ∧ TwoD wb w' (fun k => k = B) a b (armS D' (n - D'.ops)) (D) ∧ w'.heap[B]? = w4.heap[B]?) := ⟨fun w4 h4 => by
                  have hcc := HCB.out w4 (below_step HB1.out (two_below h4))
                  rw [HL.out] at hcc
                  have h9 := law_one.pairA h4 ⟨kd, nm, ds, p, an, cd, ct⟩ HOK.out Ap cp Ac cc hcc
                  rw [hg2] at h9
                  rw [HL.out]
                  exact h9.mono (fun e w' hh => ⟨hh.1, hh.2.1, hh.2.2 B rfl⟩)⟩
                have HCB1 : Aside0 (∀ w4, TwoD wb w4 (fun k => k = B) a b (armS D' (n - D'.ops)) (D) → Calls Try.prog 27 #[.pointer (some ⟨b, 0, none⟩), .agg #[.int .i64 kd, .string nm, .string ds, .slice Ap L cp, .int .i64 an, .int .i64 cd, .slice Ac ct.length cc]] w4 fun e w' => e = .returned (.int .i64 (g)) ∧ TwoD wb w' (fun k => k = B) a b (armS D' (n - D'.ops)) (D') ∧ w'.heap[B]? = w4.heap[B]?) := ⟨fun w4 h4 => by
                  have hcc := HCB.out w4 (below_step HB1.out (two_below h4))
                  rw [HL.out] at hcc
                  have h9 := law_one.pairB h4 ⟨kd, nm, ds, p, an, cd, ct⟩ HOK.out Ap cp Ac cc hcc
                  rw [hg1] at h9
                  rw [HL.out]
                  exact h9.mono (fun e w' hh => ⟨hh.1, hh.2.1, hh.2.2 B rfl⟩)⟩
                clear hg1 hg2 heq hk1 hk6 hR'
                go_upto_region 21 with (fail)
                refine start_ (n := 18) (S := fun w' => w'.cell? ⟨B, 0, none⟩ = some (.int .i64 kd) ∧ w'.cell? ⟨B, 1, none⟩ = some (.string nm) ∧ w'.cell? ⟨B, 2, none⟩ = some (.string ds) ∧ w'.cell? ⟨B, 3, none⟩ = some (.slice Ap L cp) ∧ w'.cell? ⟨B, 4, none⟩ = some (.int .i64 an) ∧ w'.cell? ⟨B, 5, none⟩ = some (.int .i64 cd) ∧ w'.cell? ⟨B, 6, none⟩ = some (.slice Ac ct.length cc)) (ds := []) #[false, false, false, false, false, false, false, false, false, false, false, false, false, false, false, false, false, false] (by kernel_rfl) rfl rfl ⟨b0, b1, b2, b3, b5, b6, b7⟩ (fun hHeld => ?_)
                refine pure_ (i := 0) (N := some 128) (v := ?_) (a' := ?_) #[true, false, false, false, false, false, false, false, false, false, false, false, false, false, false, false, false, false] rfl rfl (by kernel_rfl) (fun _ _ _ h => h) (Or.inl ⟨by rfl, ?_⟩) ?_ ?_
                rotate_left
                · intro w'
                  go_simp
                  with_reducible rfl
                rotate_left
                · simp only [Act.put, List.setIfInBounds_toArray, List.set_cons_zero, List.set_cons_succ, i64_w, i32_w]
                  rfl
                refine pure_ (i := 3) (N := some 131) (v := ?_) (a' := ?_) #[true, false, false, true, false, false, false, false, false, false, false, false, false, false, false, false, false, false] rfl rfl (by kernel_rfl) (fun _ _ _ h => h) (Or.inl ⟨by rfl, ?_⟩) ?_ ?_
                rotate_left
                · intro w'
                  go_simp
                  with_reducible rfl
                rotate_left
                · simp only [Act.put, List.setIfInBounds_toArray, List.set_cons_zero, List.set_cons_succ, i64_w, i32_w]
                  rfl
                refine take_ (i := 1) (N := some 129) (v := ?_) (a' := ?_) #[true, true, false, true, false, false, false, false, false, false, false, false, false, false, false, false, false, false] rfl rfl (by kernel_rfl) (fun _ _ _ h => h) (Or.inl ⟨by rfl, ?_⟩) hHeld ?_ ?_
                rotate_left
                · rintro w' ⟨s0, s1, s2, s3, s4, s5, s6⟩
                  go_simp
                  with_reducible rfl
                rotate_left
                · simp only [Act.put, List.setIfInBounds_toArray, List.set_cons_zero, List.set_cons_succ, i64_w, i32_w]
                  rfl
                refine take_ (i := 4) (N := some 132) (v := ?_) (a' := ?_) #[true, true, false, true, true, false, false, false, false, false, false, false, false, false, false, false, false, false] rfl rfl (by kernel_rfl) (fun _ _ _ h => h) (Or.inl ⟨by rfl, ?_⟩) hHeld ?_ ?_
                rotate_left
                · rintro w' ⟨s0, s1, s2, s3, s4, s5, s6⟩
                  go_simp
                  with_reducible rfl
                rotate_left
                · simp only [Act.put, List.setIfInBounds_toArray, List.set_cons_zero, List.set_cons_succ, i64_w, i32_w]
                  rfl
                refine one_ (i := 2) (N := some 130) #[true, true, true, true, true, false, false, false, false, false, false, false, false, false, false, false, false, false] rfl rfl (by kernel_rfl) (by decide) (fun K hK => ?_)
                refine goes_ Try.func27 (by kernel_rfl) rfl #[.pointer (some ⟨a, 0, none⟩), .agg #[.int .i64 kd, .string nm, .string ds, .slice Ap L cp, .int .i64 an, .int .i64 cd, .slice Ac ct.length cc]] (by rfl) rfl rfl (by simp only [List.map_toArray, List.map_cons, List.map_nil]; rfl) ?_
                refine (HCA1.out _ (H.out.tell (below_drew1 (Below.refl _ _)))).mono ?_
                rintro e w10 ⟨rfl, h10, hk10⟩
                have H10 := Aside0.mk h10
                have BK10 : Aside0 (w10.heap[B]? = _) := Aside0.mk (hk10.trans BK.out)
                clear h10 hk10
                refine ⟨_, rfl, ?_⟩
                refine hK.out _ _ ⟨(blk_cell BK10.out 0).trans rfl, (blk_cell BK10.out 1).trans rfl, (blk_cell BK10.out 2).trans rfl, (blk_cell BK10.out 3).trans rfl, (blk_cell BK10.out 4).trans rfl, (blk_cell BK10.out 5).trans rfl, (blk_cell BK10.out 6).trans rfl⟩ (fun hHeld => ?_)
                clear hK K
                refine norm_ (a' := ?_) ?_ ?_
                rotate_left
                · show Act.put _ (some 130) _ = _
                  simp only [Act.put, List.setIfInBounds_toArray, List.set_cons_zero, List.set_cons_succ, i64_w, i32_w]
                  rfl
                refine one_ (i := 5) (N := some 133) #[true, true, true, true, true, true, false, false, false, false, false, false, false, false, false, false, false, false] rfl rfl (by kernel_rfl) (by decide) (fun K hK => ?_)
                refine goes_ Try.func27 (by kernel_rfl) rfl #[.pointer (some ⟨b, 0, none⟩), .agg #[.int .i64 kd, .string nm, .string ds, .slice Ap L cp, .int .i64 an, .int .i64 cd, .slice Ac ct.length cc]] (by rfl) rfl rfl (by simp only [List.map_toArray, List.map_cons, List.map_nil]; rfl) ?_
                refine (HCB1.out _ H10.out).mono ?_
                rintro e w11 ⟨rfl, h11, hk11⟩
                have H11 := Aside0.mk h11
                have BK11 : Aside0 (w11.heap[B]? = _) := Aside0.mk (hk11.trans BK10.out)
                clear h11 hk11
                refine ⟨_, rfl, ?_⟩
                refine hK.out _ _ ⟨(blk_cell BK11.out 0).trans rfl, (blk_cell BK11.out 1).trans rfl, (blk_cell BK11.out 2).trans rfl, (blk_cell BK11.out 3).trans rfl, (blk_cell BK11.out 4).trans rfl, (blk_cell BK11.out 5).trans rfl, (blk_cell BK11.out 6).trans rfl⟩ (fun hHeld => ?_)
                clear hK K
                refine norm_ (a' := ?_) ?_ ?_
                rotate_left
                · show Act.put _ (some 133) _ = _
                  simp only [Act.put, List.setIfInBounds_toArray, List.set_cons_zero, List.set_cons_succ, i64_w, i32_w]
                  rfl
                refine pure_ (i := 6) (N := some 134) (v := ?_) (a' := ?_) #[true, true, true, true, true, true, true, false, false, false, false, false, false, false, false, false, false, false] rfl rfl (by kernel_rfl) (fun _ _ _ h => h) (Or.inl ⟨by rfl, ?_⟩) ?_ ?_
                rotate_left
                · intro w'
                  go_simp
                  with_reducible rfl
                rotate_left
                · simp only [Act.put, List.setIfInBounds_toArray, List.set_cons_zero, List.set_cons_succ, i64_w, i32_w]
                  rfl
                refine pure_ (i := 7) (N := some 135) (v := ?_) (a' := ?_) #[true, true, true, true, true, true, true, true, false, false, false, false, false, false, false, false, false, false] rfl rfl (by kernel_rfl) (fun _ _ _ h => h) (Or.inl ⟨by rfl, ?_⟩) ?_ ?_
                rotate_left
                · intro w'
                  go_simp
                  with_reducible rfl
                rotate_left
                · simp only [Act.put, List.setIfInBounds_toArray, List.set_cons_zero, List.set_cons_succ, i64_w, i32_w]
                  rfl
                refine pure_ (i := 8) (N := some 136) (v := ?_) (a' := ?_) #[true, true, true, true, true, true, true, true, true, false, false, false, false, false, false, false, false, false] rfl rfl (by kernel_rfl) (fun _ _ _ h => h) (Or.inl ⟨by rfl, ?_⟩) ?_ ?_
                rotate_left
                · intro w'
                  go_simp
                  with_reducible rfl
                rotate_left
                · simp only [Act.put, List.setIfInBounds_toArray, List.set_cons_zero, List.set_cons_succ, i64_w, i32_w]
                  rfl
                refine one_ (i := 9) (N := some 137) #[true, true, true, true, true, true, true, true, true, true, false, false, false, false, false, false, false, false] rfl rfl (by kernel_rfl) (by decide) (fun K hK => ?_)
                refine goes_ Try.func21 (by kernel_rfl) rfl #[.pointer (some ⟨a, 0, none⟩)] (by rfl) rfl rfl (by simp only [List.map_toArray, List.map_cons, List.map_nil]; rfl) ?_
                with_reducible refine (disk_Dead.own H11.out.ownA).mono ?_
                rintro e w11 ⟨rfl, rfl⟩
                rw [show (armS D' (n - D'.ops)).dead = false from HR2.out.dead]
                refine ⟨_, rfl, ?_⟩
                refine hK.out _ _ ⟨(blk_cell BK11.out 0).trans rfl, (blk_cell BK11.out 1).trans rfl, (blk_cell BK11.out 2).trans rfl, (blk_cell BK11.out 3).trans rfl, (blk_cell BK11.out 4).trans rfl, (blk_cell BK11.out 5).trans rfl, (blk_cell BK11.out 6).trans rfl⟩ (fun hHeld => ?_)
                clear hK K
                refine norm_ (a' := ?_) ?_ ?_
                rotate_left
                · show Act.put _ (some 137) _ = _
                  simp only [Act.put, List.setIfInBounds_toArray, List.set_cons_zero, List.set_cons_succ, i64_w, i32_w]
                  rfl
                refine pure_ (i := 10) (N := some 138) (v := ?_) (a' := ?_) #[true, true, true, true, true, true, true, true, true, true, true, false, false, false, false, false, false, false] rfl rfl (by kernel_rfl) (fun _ _ _ h => h) (Or.inl ⟨by rfl, ?_⟩) ?_ ?_
                rotate_left
                · intro w'
                  go_simp
                  with_reducible rfl
                rotate_left
                · simp only [Act.put, List.setIfInBounds_toArray, List.set_cons_zero, List.set_cons_succ, i64_w, i32_w]
                  rfl
                refine pure_ (i := 11) (N := some 139) (v := ?_) (a' := ?_) #[true, true, true, true, true, true, true, true, true, true, true, true, false, false, false, false, false, false] rfl rfl (by kernel_rfl) (fun _ _ _ h => h) (Or.inl ⟨by rfl, ?_⟩) ?_ ?_
                rotate_left
                · intro w'
                  go_simp
                  with_reducible rfl
                rotate_left
                · simp only [Act.put, List.setIfInBounds_toArray, List.set_cons_zero, List.set_cons_succ, i64_w, i32_w]
                  rfl
                refine pure_ (i := 12) (N := some 140) (v := ?_) (a' := ?_) #[true, true, true, true, true, true, true, true, true, true, true, true, true, false, false, false, false, false] rfl rfl (by kernel_rfl) (fun _ _ _ h => h) (Or.inl ⟨by rfl, ?_⟩) ?_ ?_
                rotate_left
                · intro w'
                  go_simp
                  with_reducible rfl
                rotate_left
                · simp only [Act.put, List.setIfInBounds_toArray, List.set_cons_zero, List.set_cons_succ, i64_w, i32_w]
                  rfl
                refine pure_ (i := 14) (N := some 142) (v := ?_) (a' := ?_) #[true, true, true, true, true, true, true, true, true, true, true, true, true, false, true, false, false, false] rfl rfl (by kernel_rfl) (fun _ _ _ h => h) (Or.inl ⟨by rfl, ?_⟩) ?_ ?_
                rotate_left
                · intro w'
                  go_simp
                  with_reducible rfl
                rotate_left
                · simp only [Act.put, List.setIfInBounds_toArray, List.set_cons_zero, List.set_cons_succ, i64_w, i32_w]
                  rfl
                refine one_ (i := 13) (N := some 141) #[true, true, true, true, true, true, true, true, true, true, true, true, true, true, true, false, false, false] rfl rfl (by kernel_rfl) (by decide) (fun K hK => ?_)
                refine goes_ Try.func20 (by kernel_rfl) rfl #[.pointer (some ⟨a, 0, none⟩)] (by rfl) rfl rfl (by simp only [List.map_toArray, List.map_cons, List.map_nil]; rfl) ?_
                with_reducible refine (disk_Count.own H11.out.ownA).mono ?_
                rintro e w11 ⟨rfl, rfl⟩
                rw [show (armS D' (n - D'.ops)).ops = D'.ops from rfl]
                refine ⟨_, rfl, ?_⟩
                refine hK.out _ _ ⟨(blk_cell BK11.out 0).trans rfl, (blk_cell BK11.out 1).trans rfl, (blk_cell BK11.out 2).trans rfl, (blk_cell BK11.out 3).trans rfl, (blk_cell BK11.out 4).trans rfl, (blk_cell BK11.out 5).trans rfl, (blk_cell BK11.out 6).trans rfl⟩ (fun hHeld => ?_)
                clear hK K
                refine norm_ (a' := ?_) ?_ ?_
                rotate_left
                · show Act.put _ (some 141) _ = _
                  simp only [Act.put, List.setIfInBounds_toArray, List.set_cons_zero, List.set_cons_succ, i64_w, i32_w]
                  rfl
                refine one_ (i := 15) (N := some 143) #[true, true, true, true, true, true, true, true, true, true, true, true, true, true, true, true, false, false] rfl rfl (by kernel_rfl) (by decide) (fun K hK => ?_)
                refine goes_ Try.func20 (by kernel_rfl) rfl #[.pointer (some ⟨b, 0, none⟩)] (by rfl) rfl rfl (by simp only [List.map_toArray, List.map_cons, List.map_nil]; rfl) ?_
                with_reducible refine (disk_Count.own H11.out.ownB).mono ?_
                rintro e w11 ⟨rfl, rfl⟩
                refine ⟨_, rfl, ?_⟩
                refine hK.out _ _ ⟨(blk_cell BK11.out 0).trans rfl, (blk_cell BK11.out 1).trans rfl, (blk_cell BK11.out 2).trans rfl, (blk_cell BK11.out 3).trans rfl, (blk_cell BK11.out 4).trans rfl, (blk_cell BK11.out 5).trans rfl, (blk_cell BK11.out 6).trans rfl⟩ (fun hHeld => ?_)
                clear hK K
                refine norm_ (a' := ?_) ?_ ?_
                rotate_left
                · show Act.put _ (some 143) _ = _
                  simp only [Act.put, List.setIfInBounds_toArray, List.set_cons_zero, List.set_cons_succ, i64_w, i32_w]
                  rfl
                refine pure_ (i := 16) (N := some 144) (v := ?_) (a' := ?_) #[true, true, true, true, true, true, true, true, true, true, true, true, true, true, true, true, true, false] rfl rfl (by kernel_rfl) (fun _ _ _ h => h) (Or.inl ⟨by rfl, ?_⟩) ?_ ?_
                rotate_left
                · intro w'
                  go_simp
                  with_reducible rfl
                rotate_left
                · simp only [Act.put, List.setIfInBounds_toArray, List.set_cons_zero, List.set_cons_succ, i64_w, i32_w]
                  rfl
                refine pure_ (i := 17) (N := some 145) (v := ?_) (a' := ?_) #[true, true, true, true, true, true, true, true, true, true, true, true, true, true, true, true, true, true] rfl rfl (by kernel_rfl) (fun _ _ _ h => h) (Or.inl ⟨by rfl, ?_⟩) ?_ ?_
                rotate_left
                · intro w'
                  go_simp
                  with_reducible rfl
                rotate_left
                · simp only [Act.put, List.setIfInBounds_toArray, List.set_cons_zero, List.set_cons_succ, i64_w, i32_w]
                  rfl
                refine done_ (by kernel_rfl) ?_
                have HNX : Aside0 (∃ B, TwoD wb w11 (fun _ => False) a b (armS B (n - B.ops)) B ∧ DieR n B) := ⟨D', H11.out.free, HR2.out⟩
                clear b0 b1 b2 b3 b5 b6 b7 H H10 H11 BK BK10 BK11 HR
                go_wp2_with fail
                go_roundw
                case rel => exact ⟨i + 1, by omega, by go_num, HNX⟩
                case measure => simp [intOf]; omega
        · obtain rfl : i = N := by omega
          have HINV := Aside0.mk HT.out.ownB.inv
          obtain ⟨ksm, hksm⟩ := (same_ev (HINV.out.fsB y.1 y.2)).rounds
          have HKS := Aside0.mk hksm
          clear hksm
          obtain ⟨W, hW⟩ : ∃ W, W = (leftOf D y.1 y.2).map mkF := ⟨_, rfl⟩
          rw [← hW] at HKS
          have HW := Aside0.mk hW
          clear hW
          obtain ⟨LW, hLW⟩ : ∃ LW, LW = W.length := ⟨_, rfl⟩
          have HLW := Aside0.mk hLW
          clear hLW
          have d2 := (blk_cell (two_by HT.out HBX.out.1 BX.out) 2).trans rfl
          have y0 := (blk_cell (two_by HT.out HBX.out.2 BY.out) 0).trans rfl
          have y1 := (blk_cell (two_by HT.out HBX.out.2 BY.out) 1).trans rfl
          go_upto_region 23 with (fail)
          refine start_ (n := 10) (S := fun w' => w'.cell? ⟨By, 0, none⟩ = some (.int .i64 y.1) ∧ w'.cell? ⟨By, 1, none⟩ = some (.slice A3 y.2.length c3)) (ds := []) #[false, false, false, false, false, false, false, false, false, false] (by kernel_rfl) rfl rfl ⟨y0, y1⟩ (fun hHeld => ?_)
          refine pure_ (i := 0) (N := some 146) (v := ?_) (a' := ?_) #[true, false, false, false, false, false, false, false, false, false] rfl rfl (by kernel_rfl) (fun _ _ _ h => h) (Or.inl ⟨by rfl, ?_⟩) ?_ ?_
          rotate_left
          · intro w'
            go_simp
            with_reducible rfl
          rotate_left
          · simp only [Act.put, List.setIfInBounds_toArray, List.set_cons_zero, List.set_cons_succ, i64_w, i32_w]
            rfl
          refine pure_ (i := 4) (N := some 150) (v := ?_) (a' := ?_) #[true, false, false, false, true, false, false, false, false, false] rfl rfl (by kernel_rfl) (fun _ _ _ h => h) (Or.inl ⟨by rfl, ?_⟩) ?_ ?_
          rotate_left
          · intro w'
            go_simp
            with_reducible rfl
          rotate_left
          · simp only [Act.put, List.setIfInBounds_toArray, List.set_cons_zero, List.set_cons_succ, i64_w, i32_w]
            rfl
          refine take_ (i := 1) (N := some 147) (v := ?_) (a' := ?_) #[true, true, false, false, true, false, false, false, false, false] rfl rfl (by kernel_rfl) (fun _ _ _ h => h) (Or.inl ⟨by rfl, ?_⟩) hHeld ?_ ?_
          rotate_left
          · rintro w' ⟨s0, s1⟩
            go_simp
            with_reducible rfl
          rotate_left
          · simp only [Act.put, List.setIfInBounds_toArray, List.set_cons_zero, List.set_cons_succ, i64_w, i32_w]
            rfl
          refine take_ (i := 5) (N := some 151) (v := ?_) (a' := ?_) #[true, true, false, false, true, true, false, false, false, false] rfl rfl (by kernel_rfl) (fun _ _ _ h => h) (Or.inl ⟨by rfl, ?_⟩) hHeld ?_ ?_
          rotate_left
          · rintro w' ⟨s0, s1⟩
            go_simp
            with_reducible rfl
          rotate_left
          · simp only [Act.put, List.setIfInBounds_toArray, List.set_cons_zero, List.set_cons_succ, i64_w, i32_w]
            rfl
          refine one_ (i := 2) (N := some 148) #[true, true, true, false, true, true, false, false, false, false] rfl rfl (by kernel_rfl) (by decide) (fun K hK => ?_)
          refine goes_ Try.func16 (by kernel_rfl) rfl #[.agg #[.int .i64 y.1, .slice A3 y.2.length c3]] (by rfl) rfl rfl (by simp only [List.map_toArray, List.map_cons, List.map_nil]; rfl) ?_
          with_reducible refine (wicketlaw05_crash.calls y.1 A3 c3 y.2 y.1 y.2 _ (Kd.C_below HC3.out (below_step HB1.out (below_step (two_below HT.out) (below_drew1 (Below.refl _ _))))) HCc3.out (crash_f HY.out.len8)).mono ?_
          rintro e w15 ⟨v15, rfl, hr, hb⟩
          obtain ⟨A15, c15, hv⟩ := Kd.R_slice hr
          subst hv
          have HR15 := Aside0.mk (Kd.R_reads' hr).2
          have H15 := Aside0.mk (HT.out.tell (below_step (below_drew1 (Below.refl _ _)) hb))
          clear hr hb
          refine ⟨_, rfl, ?_⟩
          refine hK.out _ _ ⟨(blk_cell (two_by H15.out HBX.out.2 BY.out) 0).trans rfl, (blk_cell (two_by H15.out HBX.out.2 BY.out) 1).trans rfl⟩ (fun hHeld => ?_)
          clear hK K
          refine norm_ (a' := ?_) ?_ ?_
          rotate_left
          · show Act.put _ (some 148) _ = _
            simp only [Act.put, List.setIfInBounds_toArray, List.set_cons_zero, List.set_cons_succ, i64_w, i32_w]
            rfl
          refine one_ (i := 3) (N := some 149) #[true, true, true, true, true, true, false, false, false, false] rfl rfl (by kernel_rfl) (by decide) (fun K hK => ?_)
          refine goes_ Try.func15 (by kernel_rfl) rfl #[.pointer (some ⟨a, 0, none⟩), .agg #[.int .i64 y.1, .slice A15 y.2.length c15]] (by rfl) rfl rfl (by simp only [List.map_toArray, List.map_cons, List.map_nil]; rfl) ?_
          have hlf := disk_Left.own H15.out.ownA y.1 HY.out.d A15 c15 y.2 HR15.out.2 HR15.out.1 HY.out.t
          rw [show leftOf (armS D (n - D.ops)) y.1 y.2 = leftOf D y.1 y.2 from rfl, ← HW.out] at hlf
          refine hlf.mono ?_
          rintro e w16 ⟨v16, rfl, hr, hb, _⟩
          obtain ⟨A16, c16, hv⟩ := Kd.R_slice hr
          have HR16 := Aside0.mk (Kd.R_reads' (hv ▸ hr)).2
          rw [← HLW.out] at hv
          subst hv
          have H16 := Aside0.mk (H15.out.tell hb)
          have HLB16 := Aside0.mk hb
          clear hr hb hlf
          refine ⟨_, rfl, ?_⟩
          refine hK.out _ _ ⟨(blk_cell (two_by H16.out HBX.out.2 BY.out) 0).trans rfl, (blk_cell (two_by H16.out HBX.out.2 BY.out) 1).trans rfl⟩ (fun hHeld => ?_)
          clear hK K
          refine norm_ (a' := ?_) ?_ ?_
          rotate_left
          · show Act.put _ (some 149) _ = _
            simp only [Act.put, List.setIfInBounds_toArray, List.set_cons_zero, List.set_cons_succ, i64_w, i32_w]
            rfl
          refine one_ (i := 6) (N := some 152) #[true, true, true, true, true, true, true, false, false, false] rfl rfl (by kernel_rfl) (by decide) (fun K hK => ?_)
          refine goes_ Try.func16 (by kernel_rfl) rfl #[.agg #[.int .i64 y.1, .slice A3 y.2.length c3]] (by rfl) rfl rfl (by simp only [List.map_toArray, List.map_cons, List.map_nil]; rfl) ?_
          with_reducible refine (wicketlaw05_crash.calls y.1 A3 c3 y.2 y.1 y.2 _ (Kd.C_below HC3.out (below_step HB1.out (two_below H16.out))) HCc3.out (crash_f HY.out.len8)).mono ?_
          rintro e w17 ⟨v17, rfl, hr, hb⟩
          obtain ⟨A17, c17, hv⟩ := Kd.R_slice hr
          subst hv
          have HR17 := Aside0.mk (Kd.R_reads' hr).2
          have H17 := Aside0.mk (H16.out.tell hb)
          have CB17 := Aside0.mk hb
          clear hr hb
          refine ⟨_, rfl, ?_⟩
          refine hK.out _ _ ⟨(blk_cell (two_by H17.out HBX.out.2 BY.out) 0).trans rfl, (blk_cell (two_by H17.out HBX.out.2 BY.out) 1).trans rfl⟩ (fun hHeld => ?_)
          clear hK K
          refine norm_ (a' := ?_) ?_ ?_
          rotate_left
          · show Act.put _ (some 152) _ = _
            simp only [Act.put, List.setIfInBounds_toArray, List.set_cons_zero, List.set_cons_succ, i64_w, i32_w]
            rfl
          refine one_ (i := 7) (N := some 153) #[true, true, true, true, true, true, true, true, false, false] rfl rfl (by kernel_rfl) (by decide) (fun K hK => ?_)
          refine goes_ Try.func15 (by kernel_rfl) rfl #[.pointer (some ⟨b, 0, none⟩), .agg #[.int .i64 y.1, .slice A17 y.2.length c17]] (by rfl) rfl rfl (by simp only [List.map_toArray, List.map_cons, List.map_nil]; rfl) ?_
          have hlf := disk_Left.own H17.out.ownB y.1 HY.out.d A17 c17 y.2 HR17.out.2 HR17.out.1 HY.out.t
          rw [show leftOf (D) y.1 y.2 = leftOf D y.1 y.2 from rfl, ← HW.out] at hlf
          refine hlf.mono ?_
          rintro e w18 ⟨v18, rfl, hr, hb, _⟩
          obtain ⟨A18, c18, hv⟩ := Kd.R_slice hr
          have HR18 := Aside0.mk (Kd.R_reads' (hv ▸ hr)).2
          rw [← HLW.out] at hv
          subst hv
          have H18 := Aside0.mk (H17.out.tell hb)
          have HLB18 := Aside0.mk hb
          clear hr hb hlf
          refine ⟨_, rfl, ?_⟩
          refine hK.out _ _ ⟨(blk_cell (two_by H18.out HBX.out.2 BY.out) 0).trans rfl, (blk_cell (two_by H18.out HBX.out.2 BY.out) 1).trans rfl⟩ (fun hHeld => ?_)
          clear hK K
          refine norm_ (a' := ?_) ?_ ?_
          rotate_left
          · show Act.put _ (some 153) _ = _
            simp only [Act.put, List.setIfInBounds_toArray, List.set_cons_zero, List.set_cons_succ, i64_w, i32_w]
            rfl
          refine one_ (i := 8) (N := some 154) #[true, true, true, true, true, true, true, true, true, false] rfl rfl (by kernel_rfl) (by decide) (fun K hK => ?_)
          refine goes_ Try.func29 (by kernel_rfl) rfl #[.slice A16 LW c16, .slice A18 LW c18] (by rfl) rfl rfl (by simp only [List.map_toArray, List.map_cons, List.map_nil]; rfl) ?_
          have hsm := wicketlaw05_same.calls ksm A16 c16 W A18 c18 W true _ (Kd.C_below HR16.out.2 (below_step CB17.out HLB18.out)) HR16.out.1 HR18.out.2 HR18.out.1 HKS.out
          rw [← HLW.out] at hsm
          refine hsm.mono ?_
          rintro e w19 ⟨rfl, hb⟩
          have H19 := Aside0.mk (H18.out.tell hb)
          clear hb hsm
          refine ⟨_, rfl, ?_⟩
          refine hK.out _ _ ⟨(blk_cell (two_by H19.out HBX.out.2 BY.out) 0).trans rfl, (blk_cell (two_by H19.out HBX.out.2 BY.out) 1).trans rfl⟩ (fun hHeld => ?_)
          clear hK K
          refine norm_ (a' := ?_) ?_ ?_
          rotate_left
          · show Act.put _ (some 154) _ = _
            simp only [Act.put, List.setIfInBounds_toArray, List.set_cons_zero, List.set_cons_succ, i64_w, i32_w]
            rfl
          refine pure_ (i := 9) (N := some 6) (v := ?_) (a' := ?_) #[true, true, true, true, true, true, true, true, true, true] rfl rfl (by kernel_rfl) (fun _ _ _ h => h) (Or.inl ⟨by rfl, ?_⟩) ?_ ?_
          rotate_left
          · intro w'
            go_simp
            with_reducible rfl
          rotate_left
          · simp only [Act.put, List.setIfInBounds_toArray, List.set_cons_zero, List.set_cons_succ, i64_w, i32_w]
            rfl
          refine done_ (by kernel_rfl) ?_
          go_wp2_with fail
          go_ret
          exact ⟨rfl, below_step HB1.out (two_below H19.out)⟩
  · obtain ⟨e3, he3⟩ : ∃ e3, e3 = (newOf x.room x.files).2 := ⟨_, rfl⟩
    have hnew : ∀ (w2 : World) (Ao : Option Addr) (co : Nat), Kd.C kF w2 Ao x.files.length x.files → x.files.length ≤ co → Calls Try.prog 17 #[.slice Ao x.files.length co, .int .i64 x.room] w2 fun e w3 => e = .returned (.tuple #[.pointer none, .int .i64 e3]) ∧ Below w2.heap.size w2 w3 := fun w2 Ao co h1 h2 => by
      refine (disk_New.own x.room HX.out.room.2 Ao co x.files w2 h1 h2 (fun f hf => (HX.out.f f hf).1)).mono ?_
      rintro e w3 ⟨hb3, ⟨h4, _⟩ | ⟨_, rfl⟩⟩
      · exact absurd h4 h0
      · exact ⟨by rw [he3], hb3⟩
    have HNEW := Aside0.mk hnew
    clear hnew he3 h0
    refine start_ (n := 11) (S := fun w' => w'.cell? ⟨Bx, 0, none⟩ = some (.slice A x.files.length c) ∧ w'.cell? ⟨Bx, 1, none⟩ = some (.int .i64 x.room)) (ds := [5]) #[false, false, false, false, false, false, false, false, false, false, false] (by kernel_rfl) rfl rfl ⟨d0, d1⟩ (fun hHeld => ?_)
    refine pure_ (i := 0) (N := some 15) (v := ?_) (a' := ?_) #[true, false, false, false, false, false, false, false, false, false, false] rfl rfl (by kernel_rfl) (fun _ _ _ h => h) (Or.inl ⟨by rfl, ?_⟩) ?_ ?_
    rotate_left
    · intro w'
      go_simp
      with_reducible rfl
    rotate_left
    · simp only [Act.put, List.setIfInBounds_toArray, List.set_cons_zero, List.set_cons_succ, i64_w, i32_w]
      rfl
    refine pure_ (i := 3) (N := some 18) (v := ?_) (a' := ?_) #[true, false, false, true, false, false, false, false, false, false, false] rfl rfl (by kernel_rfl) (fun _ _ _ h => h) (Or.inl ⟨by rfl, ?_⟩) ?_ ?_
    rotate_left
    · intro w'
      go_simp
      with_reducible rfl
    rotate_left
    · simp only [Act.put, List.setIfInBounds_toArray, List.set_cons_zero, List.set_cons_succ, i64_w, i32_w]
      rfl
    refine take_ (i := 1) (N := some 16) (v := ?_) (a' := ?_) #[true, true, false, true, false, false, false, false, false, false, false] rfl rfl (by kernel_rfl) (fun _ _ _ h => h) (Or.inl ⟨by rfl, ?_⟩) hHeld ?_ ?_
    rotate_left
    · rintro w' ⟨s0, s1⟩
      go_simp
      with_reducible rfl
    rotate_left
    · simp only [Act.put, List.setIfInBounds_toArray, List.set_cons_zero, List.set_cons_succ, i64_w, i32_w]
      rfl
    refine take_ (i := 4) (N := some 19) (v := ?_) (a' := ?_) #[true, true, false, true, true, false, false, false, false, false, false] rfl rfl (by kernel_rfl) (fun _ _ _ h => h) (Or.inl ⟨by rfl, ?_⟩) hHeld ?_ ?_
    rotate_left
    · rintro w' ⟨s0, s1⟩
      go_simp
      with_reducible rfl
    rotate_left
    · simp only [Act.put, List.setIfInBounds_toArray, List.set_cons_zero, List.set_cons_succ, i64_w, i32_w]
      rfl
    refine one_ (i := 2) (N := some 17) #[true, true, true, true, true, false, false, false, false, false, false] rfl rfl (by kernel_rfl) (by decide) (fun K hK => ?_)
    refine goes_ Try.func18 (by kernel_rfl) rfl #[.slice A x.files.length c] (by rfl) rfl rfl (by simp only [List.map_toArray, List.map_cons, List.map_nil]; rfl) ?_
    with_reducible refine (wicketlaw05_copied.calls kcp A c x.files x.files _ (Kd.C_below HC.out (below_drew1 HB1.out)) HCc.out HKC.out).mono ?_
    rintro e wa2 ⟨v2, rfl, ho2, hb2⟩
    obtain ⟨Ao, co, hv2⟩ := Kd.S_slice ho2
    subst hv2
    have HOa := Aside0.mk (Kd.S_reads' ho2).2
    have HBa2 := Aside0.mk (below_step (below_drew1 (Below.refl wb.heap.size wb)) hb2)
    clear ho2 hb2
    refine ⟨_, rfl, ?_⟩
    refine hK.out _ _ ⟨pw_cell_below HBa2.out d0, pw_cell_below HBa2.out d1⟩ (fun hHeld => ?_)
    clear hK K
    refine norm_ (a' := ?_) ?_ ?_
    rotate_left
    · show Act.put _ (some 17) _ = _
      simp only [Act.put, List.setIfInBounds_toArray, List.set_cons_zero, List.set_cons_succ, i64_w, i32_w]
      rfl
    refine last_ (i := 5) (N := some 20) #[true, true, true, true, true, true, false, false, false, false, false] rfl rfl (by kernel_rfl) (by decide) (fun K hK => ?_)
    refine goes_ Try.func17 (by kernel_rfl) rfl #[.slice Ao x.files.length co, .int .i64 x.room] (by rfl) rfl rfl (by simp only [List.map_toArray, List.map_cons, List.map_nil]; rfl) ?_
    with_reducible refine (HNEW.out wa2 Ao co HOa.out.2 HOa.out.1).mono ?_
    rintro e wa3 ⟨rfl, hb3⟩
    have HBa3 := Aside0.mk (below_step HBa2.out hb3)
    clear hb3
    refine ⟨_, rfl, ?_⟩
    refine hK.out _ _ ?_
    clear hK K
    refine norm_ (a' := ?_) ?_ ?_
    rotate_left
    · show Act.put _ (some 20) _ = _
      simp only [Act.put, List.setIfInBounds_toArray, List.set_cons_zero, List.set_cons_succ, i64_w, i32_w]
      rfl
    refine pure_ (i := 6) (N := some 14) (v := ?_) (a' := ?_) #[true, true, true, true, true, true, true, false, false, false, false] rfl rfl (by kernel_rfl) (fun _ _ _ h => h) (Or.inl ⟨by rfl, ?_⟩) ?_ ?_
    rotate_left
    · intro w'
      go_simp
      with_reducible rfl
    rotate_left
    · simp only [Act.put, List.setIfInBounds_toArray, List.set_cons_zero, List.set_cons_succ, i64_w, i32_w]
      rfl
    refine pure_ (i := 7) (N := some 21) (v := ?_) (a' := ?_) #[true, true, true, true, true, true, true, true, false, false, false] rfl rfl (by kernel_rfl) (fun _ _ _ h => h) (Or.inl ⟨by rfl, ?_⟩) ?_ ?_
    rotate_left
    · intro w'
      go_simp
      with_reducible rfl
    rotate_left
    · simp only [Act.put, List.setIfInBounds_toArray, List.set_cons_zero, List.set_cons_succ, i64_w, i32_w]
      rfl
    refine pure_ (i := 8) (N := some 22) (v := ?_) (a' := ?_) #[true, true, true, true, true, true, true, true, true, false, false] rfl rfl (by kernel_rfl) (fun _ _ _ h => h) (Or.inl ⟨by rfl, ?_⟩) ?_ ?_
    rotate_left
    · intro w'
      go_simp
      with_reducible rfl
    rotate_left
    · simp only [Act.put, List.setIfInBounds_toArray, List.set_cons_zero, List.set_cons_succ, i64_w, i32_w]
      rfl
    refine pure_ (i := 9) (N := some 7) (v := ?_) (a' := ?_) #[true, true, true, true, true, true, true, true, true, true, false] rfl rfl (by kernel_rfl) (fun _ _ _ h => h) (Or.inl ⟨by rfl, ?_⟩) ?_ ?_
    rotate_left
    · intro w'
      go_simp
      with_reducible rfl
    rotate_left
    · simp only [Act.put, List.setIfInBounds_toArray, List.set_cons_zero, List.set_cons_succ, i64_w, i32_w]
      rfl
    refine pure_ (i := 10) (N := some 8) (v := ?_) (a' := ?_) #[true, true, true, true, true, true, true, true, true, true, true] rfl rfl (by kernel_rfl) (fun _ _ _ h => h) (Or.inl ⟨by rfl, ?_⟩) ?_ ?_
    rotate_left
    · intro w'
      go_simp
      with_reducible rfl
    rotate_left
    · simp only [Act.put, List.setIfInBounds_toArray, List.set_cons_zero, List.set_cons_succ, i64_w, i32_w]
      rfl
    refine done_ (by kernel_rfl) ?_
    have HBA1 := Aside0.mk (below_step HB1.out HBa3.out)
    replace d0 := (blk_cell ((HBa3.out.block Bx HBX.out.1).trans BX.out) 0).trans rfl
    replace d1 := (blk_cell ((HBa3.out.block Bx HBX.out.1).trans BX.out) 1).trans rfl
    clear HOa
    go_upto_region 2 with (fail)
    refine start_ (n := 11) (S := fun w' => w'.cell? ⟨Bx, 0, none⟩ = some (.slice A x.files.length c) ∧ w'.cell? ⟨Bx, 1, none⟩ = some (.int .i64 x.room)) (ds := [5]) #[false, false, false, false, false, false, false, false, false, false, false] (by kernel_rfl) rfl rfl ⟨d0, d1⟩ (fun hHeld => ?_)
    refine pure_ (i := 0) (N := some 24) (v := ?_) (a' := ?_) #[true, false, false, false, false, false, false, false, false, false, false] rfl rfl (by kernel_rfl) (fun _ _ _ h => h) (Or.inl ⟨by rfl, ?_⟩) ?_ ?_
    rotate_left
    · intro w'
      go_simp
      with_reducible rfl
    rotate_left
    · simp only [Act.put, List.setIfInBounds_toArray, List.set_cons_zero, List.set_cons_succ, i64_w, i32_w]
      rfl
    refine pure_ (i := 3) (N := some 27) (v := ?_) (a' := ?_) #[true, false, false, true, false, false, false, false, false, false, false] rfl rfl (by kernel_rfl) (fun _ _ _ h => h) (Or.inl ⟨by rfl, ?_⟩) ?_ ?_
    rotate_left
    · intro w'
      go_simp
      with_reducible rfl
    rotate_left
    · simp only [Act.put, List.setIfInBounds_toArray, List.set_cons_zero, List.set_cons_succ, i64_w, i32_w]
      rfl
    refine take_ (i := 1) (N := some 25) (v := ?_) (a' := ?_) #[true, true, false, true, false, false, false, false, false, false, false] rfl rfl (by kernel_rfl) (fun _ _ _ h => h) (Or.inl ⟨by rfl, ?_⟩) hHeld ?_ ?_
    rotate_left
    · rintro w' ⟨s0, s1⟩
      go_simp
      with_reducible rfl
    rotate_left
    · simp only [Act.put, List.setIfInBounds_toArray, List.set_cons_zero, List.set_cons_succ, i64_w, i32_w]
      rfl
    refine take_ (i := 4) (N := some 28) (v := ?_) (a' := ?_) #[true, true, false, true, true, false, false, false, false, false, false] rfl rfl (by kernel_rfl) (fun _ _ _ h => h) (Or.inl ⟨by rfl, ?_⟩) hHeld ?_ ?_
    rotate_left
    · rintro w' ⟨s0, s1⟩
      go_simp
      with_reducible rfl
    rotate_left
    · simp only [Act.put, List.setIfInBounds_toArray, List.set_cons_zero, List.set_cons_succ, i64_w, i32_w]
      rfl
    refine one_ (i := 2) (N := some 26) #[true, true, true, true, true, false, false, false, false, false, false] rfl rfl (by kernel_rfl) (by decide) (fun K hK => ?_)
    refine goes_ Try.func18 (by kernel_rfl) rfl #[.slice A x.files.length c] (by rfl) rfl rfl (by simp only [List.map_toArray, List.map_cons, List.map_nil]; rfl) ?_
    with_reducible refine (wicketlaw05_copied.calls kcp A c x.files x.files _ (Kd.C_below HC.out (below_drew1 HBA1.out)) HCc.out HKC.out).mono ?_
    rintro e wb2 ⟨v2, rfl, ho2, hb2⟩
    obtain ⟨Ao, co, hv2⟩ := Kd.S_slice ho2
    subst hv2
    have HOb := Aside0.mk (Kd.S_reads' ho2).2
    have HBb2 := Aside0.mk (below_step (below_drew1 (Below.refl wa3.heap.size wa3)) hb2)
    clear ho2 hb2
    refine ⟨_, rfl, ?_⟩
    refine hK.out _ _ ⟨pw_cell_below HBb2.out d0, pw_cell_below HBb2.out d1⟩ (fun hHeld => ?_)
    clear hK K
    refine norm_ (a' := ?_) ?_ ?_
    rotate_left
    · show Act.put _ (some 26) _ = _
      simp only [Act.put, List.setIfInBounds_toArray, List.set_cons_zero, List.set_cons_succ, i64_w, i32_w]
      rfl
    refine last_ (i := 5) (N := some 29) #[true, true, true, true, true, true, false, false, false, false, false] rfl rfl (by kernel_rfl) (by decide) (fun K hK => ?_)
    refine goes_ Try.func17 (by kernel_rfl) rfl #[.slice Ao x.files.length co, .int .i64 x.room] (by rfl) rfl rfl (by simp only [List.map_toArray, List.map_cons, List.map_nil]; rfl) ?_
    with_reducible refine (HNEW.out wb2 Ao co HOb.out.2 HOb.out.1).mono ?_
    rintro e wb3 ⟨rfl, hb3⟩
    have HBb3 := Aside0.mk (below_step HBA1.out (below_step HBb2.out hb3))
    clear hb3
    refine ⟨_, rfl, ?_⟩
    refine hK.out _ _ ?_
    clear hK K
    refine norm_ (a' := ?_) ?_ ?_
    rotate_left
    · show Act.put _ (some 29) _ = _
      simp only [Act.put, List.setIfInBounds_toArray, List.set_cons_zero, List.set_cons_succ, i64_w, i32_w]
      rfl
    refine pure_ (i := 6) (N := some 23) (v := ?_) (a' := ?_) #[true, true, true, true, true, true, true, false, false, false, false] rfl rfl (by kernel_rfl) (fun _ _ _ h => h) (Or.inl ⟨by rfl, ?_⟩) ?_ ?_
    rotate_left
    · intro w'
      go_simp
      with_reducible rfl
    rotate_left
    · simp only [Act.put, List.setIfInBounds_toArray, List.set_cons_zero, List.set_cons_succ, i64_w, i32_w]
      rfl
    refine pure_ (i := 7) (N := some 30) (v := ?_) (a' := ?_) #[true, true, true, true, true, true, true, true, false, false, false] rfl rfl (by kernel_rfl) (fun _ _ _ h => h) (Or.inl ⟨by rfl, ?_⟩) ?_ ?_
    rotate_left
    · intro w'
      go_simp
      with_reducible rfl
    rotate_left
    · simp only [Act.put, List.setIfInBounds_toArray, List.set_cons_zero, List.set_cons_succ, i64_w, i32_w]
      rfl
    refine pure_ (i := 8) (N := some 31) (v := ?_) (a' := ?_) #[true, true, true, true, true, true, true, true, true, false, false] rfl rfl (by kernel_rfl) (fun _ _ _ h => h) (Or.inl ⟨by rfl, ?_⟩) ?_ ?_
    rotate_left
    · intro w'
      go_simp
      with_reducible rfl
    rotate_left
    · simp only [Act.put, List.setIfInBounds_toArray, List.set_cons_zero, List.set_cons_succ, i64_w, i32_w]
      rfl
    refine pure_ (i := 9) (N := some 9) (v := ?_) (a' := ?_) #[true, true, true, true, true, true, true, true, true, true, false] rfl rfl (by kernel_rfl) (fun _ _ _ h => h) (Or.inl ⟨by rfl, ?_⟩) ?_ ?_
    rotate_left
    · intro w'
      go_simp
      with_reducible rfl
    rotate_left
    · simp only [Act.put, List.setIfInBounds_toArray, List.set_cons_zero, List.set_cons_succ, i64_w, i32_w]
      rfl
    refine pure_ (i := 10) (N := some 10) (v := ?_) (a' := ?_) #[true, true, true, true, true, true, true, true, true, true, true] rfl rfl (by kernel_rfl) (fun _ _ _ h => h) (Or.inl ⟨by rfl, ?_⟩) ?_ ?_
    rotate_left
    · intro w'
      go_simp
      with_reducible rfl
    rotate_left
    · simp only [Act.put, List.setIfInBounds_toArray, List.set_cons_zero, List.set_cons_succ, i64_w, i32_w]
      rfl
    refine done_ (by kernel_rfl) ?_
    clear HOb d0 d1 HBA1
    go_wp2_with fail
    refine (wicketlaw05_num.calls e3 e3 _ rfl).mono ?_
    rintro e w4 ⟨rfl, hd⟩
    replace HBb3 := Aside0.mk (below_step HBb3.out hd.below)
    clear hd
    go_wp2_with fail
    refine (wicketlaw05_num.calls e3 e3 _ rfl).mono ?_
    rintro e w5 ⟨rfl, hd⟩
    replace HBb3 := Aside0.mk (below_step HBb3.out hd.below)
    clear hd
    go_wp2_with fail
    refine (law_live.calls _).mono ?_
    rintro e w6 ⟨rfl, hb⟩
    replace HBb3 := Aside0.mk (below_step HBb3.out hb)
    clear hb
    go_wp2_with fail
    go_ret
    exact ⟨rfl, HBb3.out⟩
theorem diskDies_machine (w : World) (cs : Array Value) (x : StD) (hk : kStory.K w x cs.toList) (hw : StW x) (hb : bSt x ≤ 1048576) (n : Int) (hn : (Lit.int .i64 n).wf = true) (cs2 : Array Value) (y : CrD) (hk2 : kCr.K w y cs2.toList) (hw2 : CrW y) (hb2 : bCr y ≤ 1048576) :
    Calls Try.prog 5 #[.agg cs, .int .i64 n, .agg cs2] w fun e w' => e = .returned (.bool true) ∧ Below w.heap.size w w' := by
  obtain ⟨A, c, A2, c2, hcs, hc, hC, hc2, hC2⟩ := kStory_open hk
  obtain rfl : cs = #[.slice A x.files.length c, .int .i64 x.room, .slice A2 x.acts.length c2] := Array.ext' hcs
  obtain ⟨A3, c3, hcs3, hc3, hC3⟩ := kCr_open hk2
  obtain rfl : cs2 = #[.int .i64 y.1, .slice A3 y.2.length c3] := Array.ext' hcs3
  exact diskDies.walk x (StB.of hw hb) n (bounds_i64 hn) y (CrB.of hw2 hb2) A c A2 c2 A3 c3 w hC hc hC2 hC3 hc3
end Go.Proofs.Ythmkdmdfahhpmaa.Hand
