/- Disk: one call that changes, with what it keeps; two disks side by side. -/
import Derived.Test.YthmkdmdfahhpmaaDskAE
namespace Go.Proofs.Ythmkdmdfahhpmaa.Hand
open Go.RowKit Go.Maps Go.Proofs.YthmkdmdfahhpmaaW.PrintWords Go.Proofs.YthmkdmdfahhpmaaW.PrintLast Go.Proofs.YthmkdmdfahhpmaaW.PrintMore Go.Proofs.Ythmkdmdfahhpmaa.Q
set_option linter.unusedVariables false
set_option linter.unusedSimpArgs false
/-- The disk at d, grown out of the blocks F0 of wr0; nothing else of wr0 has turned. -/
def OwnK (F0 : Nat → Prop) (wr0 wr : World) (d : Nat) (S : DS) : Prop := ∃ F : Nat → Prop, DskAt wr F d S ∧ (∀ k, F k → F0 k ∨ wr0.heap.size ≤ k) ∧ KeptL F0 wr0 wr
theorem OwnK.start {F0 : Nat → Prop} {wr : World} {d : Nat} {S : DS} (h : DskAt wr F0 d S) : OwnK F0 wr wr d S := ⟨F0, h, fun _ h => .inl h, KeptL.refl _ _⟩
theorem OwnK.tell {F0 : Nat → Prop} {wr0 wr w' : World} {d : Nat} {S : DS} (h : OwnK F0 wr0 wr d S) (hb : Below wr.heap.size wr w') : OwnK F0 wr0 w' d S := by
  obtain ⟨F, h1, h2, h3⟩ := h
  exact ⟨F, h1.below hb, h2, h3.step hb⟩
theorem OwnK.step {F0 F : Nat → Prop} {wr0 wr w' : World} {d : Nat} {S : DS} (hF : ∀ k, F k → F0 k ∨ wr0.heap.size ≤ k) (h0 : KeptL F0 wr0 wr) (h : DskAt w' (grow F wr w') d S) (hk : KeptL F wr w') : OwnK F0 wr0 w' d S :=
  ⟨_, h, fun k hh => by
    rcases hh with hh | hh
    · exact hF k hh
    · exact .inr (Nat.le_trans h0.size hh.1), ⟨hk.os.trans h0.os, hk.tape.trans h0.tape, hk.output.trans h0.output, Nat.le_trans h0.size hk.size, fun b hb hn => (hk.block b (Nat.lt_of_lt_of_le hb h0.size) (fun hf => by rcases hF b hf with h | h; exact hn h; omega)).trans (h0.block b hb hn)⟩⟩
theorem disk_Create.ownK {F0 : Nat → Prop} {wr0 wr : World} {d : Nat} {S : DS} (h : OwnK F0 wr0 wr d S) (n : ByteArray) (hn : n.size ≤ 9223372036854775807) :
    Calls Try.prog 37 #[.pointer (some ⟨d, 0, none⟩), .string n] wr fun e w' => e = .returned (.int .i64 (opCreate S n).2) ∧ OwnK F0 wr0 w' d (opCreate S n).1 := by
  obtain ⟨F, h1, h2, h3⟩ := h
  refine (disk_Create.calls h1 n hn).mono ?_
  rintro e w' ⟨rfl, h4, hk⟩
  exact ⟨rfl, OwnK.step h2 h3 h4 hk⟩
theorem disk_Remove.ownK {F0 : Nat → Prop} {wr0 wr : World} {d : Nat} {S : DS} (h : OwnK F0 wr0 wr d S) (n : ByteArray) (hn : n.size ≤ 9223372036854775807) :
    Calls Try.prog 40 #[.pointer (some ⟨d, 0, none⟩), .string n] wr fun e w' => e = .returned (.int .i64 (opRemove S n).2) ∧ OwnK F0 wr0 w' d (opRemove S n).1 := by
  obtain ⟨F, h1, h2, h3⟩ := h
  refine (disk_Remove.calls h1 n hn).mono ?_
  rintro e w' ⟨rfl, h4, hk⟩
  exact ⟨rfl, OwnK.step h2 h3 h4 hk⟩
theorem disk_Sync.ownK {F0 : Nat → Prop} {wr0 wr : World} {d : Nat} {S : DS} (h : OwnK F0 wr0 wr d S) (n : ByteArray) (hn : n.size ≤ 9223372036854775807) :
    Calls Try.prog 31 #[.pointer (some ⟨d, 0, none⟩), .string n] wr fun e w' => e = .returned (.int .i64 (opSync S n).2) ∧ OwnK F0 wr0 w' d (opSync S n).1 := by
  obtain ⟨F, h1, h2, h3⟩ := h
  refine (disk_Sync.calls h1 n hn).mono ?_
  rintro e w' ⟨rfl, h4, hk⟩
  exact ⟨rfl, OwnK.step h2 h3 h4 hk⟩
theorem disk_Rename.ownK {F0 : Nat → Prop} {wr0 wr : World} {d : Nat} {S : DS} (h : OwnK F0 wr0 wr d S) (a b : ByteArray) (hn : a.size ≤ 9223372036854775807 ∧ b.size ≤ 9223372036854775807) :
    Calls Try.prog 39 #[.pointer (some ⟨d, 0, none⟩), .string a, .string b] wr fun e w' => e = .returned (.int .i64 (opRename S a b).2) ∧ OwnK F0 wr0 w' d (opRename S a b).1 := by
  obtain ⟨F, h1, h2, h3⟩ := h
  refine (disk_Rename.calls h1 a b hn).mono ?_
  rintro e w' ⟨rfl, h4, hk⟩
  exact ⟨rfl, OwnK.step h2 h3 h4 hk⟩
theorem disk_SyncDir.ownK {F0 : Nat → Prop} {wr0 wr : World} {d : Nat} {S : DS} (h : OwnK F0 wr0 wr d S)  :
    Calls Try.prog 28 #[.pointer (some ⟨d, 0, none⟩)] wr fun e w' => e = .returned (.int .i64 (opSyncDir S).2) ∧ OwnK F0 wr0 w' d (opSyncDir S).1 := by
  obtain ⟨F, h1, h2, h3⟩ := h
  refine (disk_SyncDir.calls h1 ).mono ?_
  rintro e w' ⟨rfl, h4, hk⟩
  exact ⟨rfl, OwnK.step h2 h3 h4 hk⟩
theorem disk_Append.ownK {F0 : Nat → Prop} {wr0 w0 wr : World} {d : Nat} {S : DS} (h : OwnK F0 wr0 w0 d S) (hb0 : Below w0.heap.size w0 wr) (n : ByteArray) (hn : n.size ≤ 9223372036854775807) (A : Option Addr) (c : Nat) (p : List Int) (hC : Kd.C kB wr A p.length p) (hpb : ∀ x, x ∈ p → 0 ≤ x ∧ x ≤ 255) (hpl : (p.length : Int) ≤ 1073741824) (hnf : ∀ ad, A = some ad → 0 < p.length → False ∨ w0.heap.size ≤ ad.block) :
    Calls Try.prog 38 #[.pointer (some ⟨d, 0, none⟩), .string n, .slice A p.length c] wr fun e w' => e = .returned (.int .i64 (opAppend S n p).2) ∧ OwnK F0 wr0 w' d (opAppend S n p).1 := by
  obtain ⟨F, h1, h2, h3⟩ := h
  refine (disk_Append.calls (h1.below hb0) n hn A c p hC hpb hpl (fun ad e hp hF => ?_)).mono ?_
  · have h5 := h1.lt _ hF
    rcases hnf ad e hp with h6 | h6
    · exact h6
    · omega
  · rintro e w' ⟨rfl, h4, hk⟩
    exact ⟨rfl, OwnK.step h2 (h3.step hb0) h4 hk⟩
set_option maxHeartbeats 4000000 in
set_option maxRecDepth 100000 in
theorem law_one.kept {F0 : Nat → Prop} {wr0 wr : World} {d : Nat} {S : DS} (h : OwnK F0 wr0 wr d S) (x : ActD) (hx : ActB x) (A : Option Addr) (c : Nat) (A2 : Option Addr) (c2 : Nat) (hC : Kd.C kB wr A x.p.length x.p) :
    Calls Try.prog 27 #[.pointer (some ⟨d, 0, none⟩), .agg (actCells x A c A2 c2)] wr fun e w' => e = .returned (.int .i64 (oneS S x).2) ∧ OwnK F0 wr0 w' d (oneS S x).1 := by
  obtain ⟨kd, nm, ds, p, n, cd, ct⟩ := x
  obtain ⟨hnm, hds, hpb, hpl, hn, -⟩ := hx
  simp only at hnm hds hpb hpl hn hC
  have HNM := Aside0.mk (And.intro hnm hds)
  have HPB := Aside0.mk (And.intro hpb hpl)
  obtain ⟨L, hL⟩ : ∃ L, L = p.length := ⟨_, rfl⟩
  have HL := Aside0.mk hL
  have H := Aside0.mk (h.tell (below_alloc (Below.refl _ _) (.cells #[.int .i64 kd, .string nm, .string ds, .slice A L c, .int .i64 n, .int .i64 cd, .slice A2 ct.length c2] 55)))
  have BK := Aside0.mk (blk_new wr (.cells #[.int .i64 kd, .string nm, .string ds, .slice A L c, .int .i64 n, .int .i64 cd, .slice A2 ct.length c2] 55))
  have HC := Aside0.mk (Kd.C_below hC (below_alloc (Below.refl _ _) (.cells #[.int .i64 kd, .string nm, .string ds, .slice A L c, .int .i64 n, .int .i64 cd, .slice A2 ct.length c2] 55)))
  clear hnm hds hpb hpl hn hC h
  show Calls Try.prog 27 #[.pointer (some ⟨d, 0, none⟩), .agg #[.int .i64 kd, .string nm, .string ds, .slice A p.length c, .int .i64 n, .int .i64 cd, .slice A2 ct.length c2]] wr _
  rw [← hL]
  rw [← hL] at HC
  clear hL
  go_enter Try.func27, Try.ntmps27
  go_upto_region 1 with (fail)
  obtain ⟨wb, hwb⟩ : ∃ wb, wb = wr.alloc (.cells #[.int .i64 kd, .string nm, .string ds, .slice A L c, .int .i64 n, .int .i64 cd, .slice A2 ct.length c2] 55) := ⟨_, rfl⟩
  obtain ⟨B, hB⟩ : ∃ B, B = wr.heap.size := ⟨_, rfl⟩
  rw [← hwb] at H BK HC
  rw [← hB] at BK
  rw [← hwb]
  rw [← hB]
  clear hwb hB
  have b0 := (blk_cell BK.out 0).trans rfl
  have b1 := (blk_cell BK.out 1).trans rfl
  have b2 := (blk_cell BK.out 2).trans rfl
  have b3 := (blk_cell BK.out 3).trans rfl
  by_cases hk1 : kd = 1
  · subst hk1
    go_wp2_with fail
    refine (disk_Create.ownK H.out nm HNM.out.1).mono ?_
    rintro e w5 ⟨rfl, hh⟩
    have HN := Aside0.mk hh
    clear hh
    go_wp2_with fail
    go_ret
    exact ⟨rfl, HN.out⟩
  · have k1 : (kd == 1) = false := beq_eq_false_iff_ne.mpr hk1
    by_cases hk2 : kd = 2
    · subst hk2
      clear hk1
      go_upto_region 5 with (fail)
      refine start_ (n := 9) (S := fun w' => w'.cell? ⟨B, 1, none⟩ = some (.string nm) ∧ w'.cell? ⟨B, 3, none⟩ = some (.slice A L c)) (ds := [7]) #[false, false, false, false, false, false, false, false, false] (by kernel_rfl) rfl rfl ⟨b1, b3⟩ (fun hHeld => ?_)
      refine pure_ (i := 0) (N := some 15) (v := ?_) (a' := ?_) #[true, false, false, false, false, false, false, false, false] rfl rfl (by kernel_rfl) (fun _ _ _ h => h) (Or.inl ⟨by rfl, ?_⟩) ?_ ?_
      rotate_left
      · intro w'
        go_simp
        with_reducible rfl
      rotate_left
      · simp only [Act.put, List.setIfInBounds_toArray, List.set_cons_zero, List.set_cons_succ, i64_w, i32_w]
        rfl
      refine pure_ (i := 1) (N := some 16) (v := ?_) (a' := ?_) #[true, true, false, false, false, false, false, false, false] rfl rfl (by kernel_rfl) (fun _ _ _ h => h) (Or.inl ⟨by rfl, ?_⟩) ?_ ?_
      rotate_left
      · intro w'
        go_simp
        with_reducible rfl
      rotate_left
      · simp only [Act.put, List.setIfInBounds_toArray, List.set_cons_zero, List.set_cons_succ, i64_w, i32_w]
        rfl
      refine pure_ (i := 4) (N := some 19) (v := ?_) (a' := ?_) #[true, true, false, false, true, false, false, false, false] rfl rfl (by kernel_rfl) (fun _ _ _ h => h) (Or.inl ⟨by rfl, ?_⟩) ?_ ?_
      rotate_left
      · intro w'
        go_simp
        with_reducible rfl
      rotate_left
      · simp only [Act.put, List.setIfInBounds_toArray, List.set_cons_zero, List.set_cons_succ, i64_w, i32_w]
        rfl
      refine take_ (i := 2) (N := some 17) (v := ?_) (a' := ?_) #[true, true, true, false, true, false, false, false, false] rfl rfl (by kernel_rfl) (fun _ _ _ h => h) (Or.inl ⟨by rfl, ?_⟩) hHeld ?_ ?_
      rotate_left
      · rintro w' ⟨s0, s1⟩
        go_simp
        with_reducible rfl
      rotate_left
      · simp only [Act.put, List.setIfInBounds_toArray, List.set_cons_zero, List.set_cons_succ, i64_w, i32_w]
        rfl
      refine take_ (i := 5) (N := some 20) (v := ?_) (a' := ?_) #[true, true, true, false, true, true, false, false, false] rfl rfl (by kernel_rfl) (fun _ _ _ h => h) (Or.inl ⟨by rfl, ?_⟩) hHeld ?_ ?_
      rotate_left
      · rintro w' ⟨s0, s1⟩
        go_simp
        with_reducible rfl
      rotate_left
      · simp only [Act.put, List.setIfInBounds_toArray, List.set_cons_zero, List.set_cons_succ, i64_w, i32_w]
        rfl
      refine one_ (i := 3) (N := some 18) #[true, true, true, true, true, true, false, false, false] rfl rfl (by kernel_rfl) (by decide) (fun K hK => ?_)
      refine Kd.R_lit_step (Kd.int .u8) (w0 := wb) wb.heap.size 5 (by rfl) rfl (xs := ([] : List Int)) (inner := []) (ok := fun _ => True) (okp := fun _ => True) ?hr (Reps.none _ _) (fun _ hk => hk) trivial (below_drew1 (Below.refl _ _)) (Nat.le_refl _) (by simp) ?_
      case hr => first | (go_simp; done) | (go_simp; rfl)
      intro v7 w7 ho7 hb7 hg7 hn7
      have HO7 := Aside0.mk ho7
      have HB7 := Aside0.mk hb7
      have HS7 := Aside0.mk hb7
      clear ho7 hb7 hg7 hn7
      refine hK.out _ _ ⟨pw_cell_below HB7.out b1, pw_cell_below HB7.out b3⟩ (fun hHeld => ?_)
      clear hK K
      refine norm_ (a' := ?_) ?_ ?_
      rotate_left
      · show Act.put _ (some 18) _ = _
        simp only [Act.put, List.setIfInBounds_toArray, List.set_cons_zero, List.set_cons_succ, i64_w, i32_w]
        rfl
      refine one_ (i := 6) (N := some 21) #[true, true, true, true, true, true, true, false, false] rfl rfl (by kernel_rfl) (by decide) (fun K hK => ?_)
      refine Kd.R_append_rows_step (Kd.int .u8) (w0 := wb) wb.heap.size (by rfl) (.tmp 18) (.tmp 20) 53 5 (.int .u8 0) 1 rfl Try.underlying53 infoB rfl (by decide) (by decide) v7 ([] : List Int) p A L c (fun _ => True) (fun _ => False) rfl rfl HO7.out (Kd.C_below HC.out HB7.out) (fun _ _ h => h) (fun _ h => h.elim) (fun _ _ => trivial) HB7.out HB7.out.size (by simp only [List.length_nil]; have := HPB.out.2; have := HL.out; omega) ?_
      intro v8 w8 ho8 hb8 hg8 hat8
      rw [List.nil_append] at ho8
      have HO8 := Aside0.mk ho8
      have HB8 := Aside0.mk hb8
      obtain ⟨A8, c8, hv8⟩ := Kd.R_slice ho8
      rw [← HL.out] at hv8
      subst hv8
      clear ho8 hb8 hg8 hat8
      refine hK.out _ _ ⟨pw_cell_below HB8.out b1, pw_cell_below HB8.out b3⟩ (fun hHeld => ?_)
      clear hK K
      refine norm_ (a' := ?_) ?_ ?_
      rotate_left
      · show Act.put _ (some 21) _ = _
        simp only [Act.put, List.setIfInBounds_toArray, List.set_cons_zero, List.set_cons_succ, i64_w, i32_w]
        rfl
      refine last_ (i := 7) (N := some 22) #[true, true, true, true, true, true, true, true, false] rfl rfl (by kernel_rfl) (by decide) (fun K hK => ?_)
      refine goes_ Try.func38 (by kernel_rfl) rfl #[.pointer (some ⟨d, 0, none⟩), .string nm, .slice A8 L c8] (by rfl) rfl rfl (by simp only [List.map_toArray, List.map_cons, List.map_nil]; rfl) ?_
      have hcall := disk_Append.ownK H.out HB8.out nm HNM.out.1 A8 c8 p (Kd.R_reads' HO8.out).2.2 HPB.out.1 (by have := HPB.out.2; omega) (fun ad e hp => .inr (R_base (e ▸ HO8.out)))
      rw [← HL.out] at hcall
      with_reducible refine hcall.mono ?_
      rintro e w9 ⟨rfl, hown⟩
      have HN := Aside0.mk hown
      clear hown hcall
      refine ⟨_, rfl, ?_⟩
      refine hK.out _ _ ?_
      clear hK K
      refine norm_ (a' := ?_) ?_ ?_
      rotate_left
      · show Act.put _ (some 22) _ = _
        simp only [Act.put, List.setIfInBounds_toArray, List.set_cons_zero, List.set_cons_succ, i64_w, i32_w]
        rfl
      refine pure_ (i := 8) (N := some 4) (v := ?_) (a' := ?_) #[true, true, true, true, true, true, true, true, true] rfl rfl (by kernel_rfl) (fun _ _ _ h => h) (Or.inl ⟨by rfl, ?_⟩) ?_ ?_
      rotate_left
      · intro w'
        go_simp
        with_reducible rfl
      rotate_left
      · simp only [Act.put, List.setIfInBounds_toArray, List.set_cons_zero, List.set_cons_succ, i64_w, i32_w]
        rfl
      refine done_ (by kernel_rfl) ?_
      go_wp2_with fail
      go_ret
      exact ⟨rfl, HN.out⟩
    · have k2 : (kd == 2) = false := beq_eq_false_iff_ne.mpr hk2
      by_cases hk3 : kd = 3
      · subst hk3
        clear hk1
        clear hk2
        go_wp2_with fail
        refine (disk_Sync.ownK H.out nm HNM.out.1).mono ?_
        rintro e w5 ⟨rfl, hh⟩
        have HN := Aside0.mk hh
        clear hh
        go_wp2_with fail
        go_ret
        exact ⟨rfl, HN.out⟩
      · have k3 : (kd == 3) = false := beq_eq_false_iff_ne.mpr hk3
        by_cases hk4 : kd = 4
        · subst hk4
          clear hk1
          clear hk2
          clear hk3
          go_wp2_with fail
          refine (disk_Rename.ownK H.out nm ds HNM.out).mono ?_
          rintro e w5 ⟨rfl, hh⟩
          have HN := Aside0.mk hh
          clear hh
          go_wp2_with fail
          go_ret
          exact ⟨rfl, HN.out⟩
        · have k4 : (kd == 4) = false := beq_eq_false_iff_ne.mpr hk4
          by_cases hk5 : kd = 5
          · subst hk5
            clear hk1
            clear hk2
            clear hk3
            clear hk4
            go_wp2_with fail
            refine (disk_Remove.ownK H.out nm HNM.out.1).mono ?_
            rintro e w5 ⟨rfl, hh⟩
            have HN := Aside0.mk hh
            clear hh
            go_wp2_with fail
            go_ret
            exact ⟨rfl, HN.out⟩
          · have k5 : (kd == 5) = false := beq_eq_false_iff_ne.mpr hk5
            go_wp2_with fail
            refine (disk_SyncDir.ownK H.out).mono ?_
            rintro e w5 ⟨rfl, hh⟩
            have HN := Aside0.mk hh
            clear hh
            go_wp2_with fail
            go_ret
            have he : oneS S ⟨kd, nm, ds, p, n, cd, ct⟩ = opSyncDir S := by simp only [oneS, if_neg hk1, if_neg hk2, if_neg hk3, if_neg hk4, if_neg hk5]
            rw [he]
            exact ⟨rfl, HN.out⟩
/-- Two disks, beside one another and beside the blocks X. -/
def TwoD (w wr : World) (X : Nat → Prop) (a b : Nat) (SA SB : DS) : Prop := ∃ Fa Fb : Nat → Prop, DskAt wr Fa a SA ∧ DskAt wr Fb b SB ∧ (∀ k, Fa k → w.heap.size ≤ k) ∧ (∀ k, Fb k → w.heap.size ≤ k) ∧ (∀ k, Fa k → ¬ Fb k) ∧ (∀ k, X k → ¬ Fa k ∧ ¬ Fb k ∧ k < wr.heap.size) ∧ Below w.heap.size w wr
theorem TwoD.of {w w1 w2 : World} {a b : Nat} {SA SB : DS} (h : OwnD w w1 a SA) (k : OwnD w1 w2 b SB) : TwoD w w2 (fun _ => False) a b SA SB := by
  obtain ⟨F, h1, h2, h3⟩ := h
  obtain ⟨G, k1, k2, k3⟩ := k
  exact ⟨F, G, h1.below k3, k1, h2, fun n hn => Nat.le_trans h3.size (k2 n hn), fun n hf hg => by have := h1.lt n hf; have := k2 n hg; omega, fun _ h => h.elim, below_step h3 k3⟩
theorem TwoD.tell {w wr w' : World} {X : Nat → Prop} {a b : Nat} {SA SB : DS} (h : TwoD w wr X a b SA SB) (hb : Below wr.heap.size wr w') : TwoD w w' X a b SA SB := by
  obtain ⟨F, G, h1, h2, h3, h4, h5, h6, h7⟩ := h
  exact ⟨F, G, h1.below hb, h2.below hb, h3, h4, h5, fun k hk => ⟨(h6 k hk).1, (h6 k hk).2.1, Nat.lt_of_lt_of_le (h6 k hk).2.2 hb.size⟩, below_step h7 hb⟩
/-- A block that has just been made lies beside both. -/
theorem TwoD.box {w wr : World} {X : Nat → Prop} {a b : Nat} {SA SB : DS} (h : TwoD w wr X a b SA SB) (o : Obj) : TwoD w (wr.alloc o) (fun k => k = wr.heap.size) a b SA SB := by
  have hb := below_alloc (Below.refl wr.heap.size wr) o
  obtain ⟨F, G, h1, h2, h3, h4, h5, h6, h7⟩ := h
  exact ⟨F, G, h1.below hb, h2.below hb, h3, h4, h5, fun k hk => ⟨fun hf => by have := h1.lt k hf; omega, fun hf => by have := h2.lt k hf; omega, by rw [hk]; simp⟩, below_step h7 hb⟩
theorem TwoD.free {w wr : World} {X : Nat → Prop} {a b : Nat} {SA SB : DS} (h : TwoD w wr X a b SA SB) : TwoD w wr (fun _ => False) a b SA SB := by
  obtain ⟨F, G, h1, h2, h3, h4, h5, h6, h7⟩ := h
  exact ⟨F, G, h1, h2, h3, h4, h5, fun _ h => h.elim, h7⟩
theorem TwoD.swap {w wr : World} {X : Nat → Prop} {a b : Nat} {SA SB : DS} (h : TwoD w wr X a b SA SB) : TwoD w wr X b a SB SA := by
  obtain ⟨F, G, h1, h2, h3, h4, h5, h6, h7⟩ := h
  exact ⟨G, F, h2, h1, h4, h3, fun k hg hf => h5 k hf hg, fun k hk => ⟨(h6 k hk).2.1, (h6 k hk).1, (h6 k hk).2.2⟩, h7⟩
theorem TwoD.ownA {w wr : World} {X : Nat → Prop} {a b : Nat} {SA SB : DS} (h : TwoD w wr X a b SA SB) : OwnD w wr a SA := by
  obtain ⟨F, G, h1, h2, h3, h4, h5, h6, h7⟩ := h
  exact ⟨F, h1, h3, h7⟩
theorem TwoD.ownB {w wr : World} {X : Nat → Prop} {a b : Nat} {SA SB : DS} (h : TwoD w wr X a b SA SB) : OwnD w wr b SB := h.swap.ownA
theorem TwoD.stepA {w wr w' : World} {X : Nat → Prop} {F0 G : Nat → Prop} {a b : Nat} {S SB : DS} (h1 : DskAt wr F0 a S) (h2 : DskAt wr G b SB) (h3 : ∀ k, F0 k → w.heap.size ≤ k) (h4 : ∀ k, G k → w.heap.size ≤ k) (h5 : ∀ k, F0 k → ¬ G k) (h6 : ∀ k, X k → ¬ F0 k ∧ ¬ G k ∧ k < wr.heap.size) (h7 : Below w.heap.size w wr) {S' : DS} (hK : OwnK F0 wr w' a S') :
    TwoD w w' X a b S' SB ∧ ∀ k, X k → w'.heap[k]? = wr.heap[k]? := by
  obtain ⟨F, k1, k2, k3⟩ := hK
  refine ⟨⟨F, G, k1, h2.kept k3 (fun k hg hf => h5 k hf hg), fun k hk => ?_, h4, fun k hf hg => ?_, fun k hk => ⟨fun hf => ?_, (h6 k hk).2.1, Nat.lt_of_lt_of_le (h6 k hk).2.2 k3.size⟩, h7.trans (k3.below h7.size h3)⟩, fun k hk => k3.block k (h6 k hk).2.2 (h6 k hk).1⟩
  · rcases k2 k hk with h | h
    · exact h3 k h
    · exact Nat.le_trans h7.size h
  · rcases k2 k hf with h | h
    · exact h5 k h hg
    · have := h2.lt k hg; omega
  · rcases k2 k hf with h | h
    · exact (h6 k hk).1 h
    · have := (h6 k hk).2.2; omega
theorem law_one.pairA {w wr : World} {X : Nat → Prop} {a b : Nat} {SA SB : DS} (h : TwoD w wr X a b SA SB) (x : ActD) (hx : ActB x) (A : Option Addr) (c : Nat) (A2 : Option Addr) (c2 : Nat) (hC : Kd.C kB wr A x.p.length x.p) :
    Calls Try.prog 27 #[.pointer (some ⟨a, 0, none⟩), .agg (actCells x A c A2 c2)] wr fun e w' => e = .returned (.int .i64 (oneS SA x).2) ∧ TwoD w w' X a b (oneS SA x).1 SB ∧ ∀ k, X k → w'.heap[k]? = wr.heap[k]? := by
  obtain ⟨F, G, h1, h2, h3, h4, h5, h6, h7⟩ := h
  refine (law_one.kept (OwnK.start h1) x hx A c A2 c2 hC).mono ?_
  rintro e w' ⟨rfl, hK⟩
  exact ⟨rfl, TwoD.stepA h1 h2 h3 h4 h5 h6 h7 hK⟩
theorem law_one.pairB {w wr : World} {X : Nat → Prop} {a b : Nat} {SA SB : DS} (h : TwoD w wr X a b SA SB) (x : ActD) (hx : ActB x) (A : Option Addr) (c : Nat) (A2 : Option Addr) (c2 : Nat) (hC : Kd.C kB wr A x.p.length x.p) :
    Calls Try.prog 27 #[.pointer (some ⟨b, 0, none⟩), .agg (actCells x A c A2 c2)] wr fun e w' => e = .returned (.int .i64 (oneS SB x).2) ∧ TwoD w w' X a b SA (oneS SB x).1 ∧ ∀ k, X k → w'.heap[k]? = wr.heap[k]? := by
  refine (law_one.pairA h.swap x hx A c A2 c2 hC).mono ?_
  rintro e w' ⟨rfl, h1, h2⟩
  exact ⟨rfl, h1.swap, h2⟩
theorem disk_Arm.pairA {w wr : World} {a b : Nat} {SA SB : DS} (h : TwoD w wr (fun _ => False) a b SA SB) (n : Int) (hn : -9223372036854775808 ≤ n ∧ n ≤ 9223372036854775807) :
    Calls Try.prog 26 #[.pointer (some ⟨a, 0, none⟩), .int .i64 n] wr fun e w' => (∃ v, e = .returned v) ∧ TwoD w w' (fun _ => False) a b (opArm SA n) SB := by
  obtain ⟨F, G, h1, h2, h3, h4, h5, h6, h7⟩ := h
  refine (disk_Arm.calls h1 n hn).mono ?_
  rintro e w' ⟨hv, k1, hk⟩
  exact ⟨hv, (TwoD.stepA h1 h2 h3 h4 h5 h6 h7 ⟨F, k1, fun _ h => .inl h, hk⟩).1⟩
end Go.Proofs.Ythmkdmdfahhpmaa.Hand
