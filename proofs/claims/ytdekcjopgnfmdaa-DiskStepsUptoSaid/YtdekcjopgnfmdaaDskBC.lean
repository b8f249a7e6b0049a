/- The document's disk: SyncDir, Remove, Rename, Sync, Read. -/
import Derived.Test.YtdekcjopgnfmdaaDskBB
namespace Go.Proofs.Ytdekcjopgnfmdaa.Hand
open Go.RowKit Go.Maps Go.Proofs.YtdekcjopgnfmdaaW.PrintWords Go.Proofs.YtdekcjopgnfmdaaW.PrintLast Go.Proofs.YtdekcjopgnfmdaaW.PrintMore Go.Proofs.Ytdekcjopgnfmdaa.Q
set_option linter.unusedVariables false
set_option linter.unusedSimpArgs false
theorem RskAt.unmoved {w w' : World} {F : Nat → Prop} {d : Nat} {S : DS} (h : RskAt w F d S) (hb : Below w.heap.size w w') : RskAt w' (grow F w w') d S ∧ KeptL F w w' := by
  obtain ⟨hI, hl, vf, vd, vs, vc, h1⟩ := h
  exact ⟨⟨hI, fun k hk => by
    rcases hk with hk | hk
    · exact Nat.lt_of_lt_of_le (hl k hk) hb.size
    · exact hk.2, vf, vd, vs, vc, (h1.below hb).wide (fun k hk => .inl hk)⟩, KeptL.of_below hb⟩
theorem RskM.fin {w w' : World} {F : Nat → Prop} {d : Nat} {S : DS} {vf vd vs vc : Value} (hI : Inv S) (hF : ∀ k, F k → k < w.heap.size) (hk : KeptL F w w') (h : RskM w' (fun k => F k ∨ w.heap.size ≤ k) d S vf vd vs vc) : RskAt w' (grow F w w') d S ∧ KeptL F w w' :=
  ⟨⟨hI, fun k h => by
    rcases h with h | h
    · exact Nat.lt_of_lt_of_le (hF k h) hk.size
    · exact h.2, vf, vd, vs, vc, h.tight⟩, hk⟩
/-- The disk opened: its directory's row. -/
theorem RskM.dirRow {w : World} {F : Nat → Prop} {d : Nat} {S : DS} {vf vd vs vc : Value} (h : RskM w F d S vf vd vs vc) : ∃ Ad cd, vd = .slice Ad S.dir.length cd ∧ S.dir.length ≤ cd ∧ Kd.C kEn w Ad S.dir.length (S.dir.map mkE) := by
  obtain ⟨A, c, hv⟩ := Kd.R_slice h.dir; have hr := (Kd.R_reads' (hv ▸ h.dir)).2; rw [List.length_map] at hv hr; exact ⟨A, c, hv, hr.1, hr.2⟩
theorem RskM.filRow {w : World} {F : Nat → Prop} {d : Nat} {S : DS} {vf vd vs vc : Value} (h : RskM w F d S vf vd vs vc) : ∃ Af cf, vf = .slice Af S.files.length cf ∧ S.files.length ≤ cf ∧ Kd.C kBd w Af S.files.length S.files := by
  obtain ⟨A, c, hv⟩ := Kd.R_slice h.fil; have hr := (Kd.R_reads' (hv ▸ h.fil)).2; exact ⟨A, c, hv, hr.1, hr.2⟩
set_option maxHeartbeats 2000000 in
set_option maxRecDepth 100000 in
theorem ref_SyncDir.calls {w : World} {F : Nat → Prop} {d : Nat} {S : DS} (h : RskAt w F d S) :
    Calls Try.prog 60 #[.pointer (some ⟨d, 0, none⟩)] w fun e w' => e = .returned (.int .i64 (opSyncDir S).2) ∧ RskAt w' (grow F w w') d (opSyncDir S).1 ∧ KeptL F w w' := by
  have HA := Aside0.mk h; obtain ⟨hI, hlt0, vf, vd, vs, vc, h1⟩ := h; have HLT := Aside0.mk hlt0; have HI := Aside0.mk hI; have H := Aside0.mk h1; have c7 := (blk_cell h1.blk 7).trans rfl
  cases hd : S.dead with
  | true =>
    rw [hd] at c7; have HOP : Aside0 (opSyncDir S = (S, 51)) := ⟨by unfold opSyncDir; rw [hd]; rfl⟩; clear h1 hd hI hlt0; go_enter Try.func60, Try.ntmps60
    go_wp2_with fail
    go_ret; rw [HOP.out]; exact ⟨rfl, HA.out.unmoved (Below.refl _ _)⟩
  | false =>
    rw [hd] at c7; have HDD := Aside0.mk hd; clear hd hI hlt0; obtain ⟨Ad, cd, hvd, hcd, hCd⟩ := h1.dirRow; subst hvd; have c5 := (blk_cell h1.blk 5).trans rfl; clear h1 hcd hCd; go_enter Try.func60, Try.ntmps60
    by_cases ho : S.ops ≥ 1048576
    · have b1 : decide (S.ops ≥ 1048576) = true := decide_eq_true ho; have HOP : Aside0 (opSyncDir S = (S, 5)) := ⟨by unfold opSyncDir; rw [if_neg (by rw [HDD.out]; decide), if_pos ho]⟩; clear ho; go_wp2_with fail
      go_ret; rw [HOP.out]; exact ⟨rfl, HA.out.unmoved (Below.refl _ _)⟩
    · have b1 : decide (S.ops ≥ 1048576) = false := decide_eq_false ho; have HOB : Aside0 (0 ≤ S.ops ∧ S.ops < 1048576) := ⟨by have := HI.out.opsB; omega⟩; have HOP : Aside0 (opSyncDir S = ifGoes S fun T => { T with safe := T.dir, chg := [] }) := ⟨by unfold opSyncDir; rw [if_neg (by rw [HDD.out]; decide), if_neg ho]⟩; clear ho; go_wp2_with fail
      clear b1; refine (ref_goes.calls H.out HI.out.armB HOB.out).mono ?_; rintro x w4 ⟨rfl, h4, hk4⟩; have H4 := Aside0.mk h4; have HK4 : Aside0 (KeptL F w w4) := ⟨(KeptL.of_below (Below.refl _ _)).trans (hk4.mono (fun k e => by rw [e]; exact H.out.fd))⟩; have HG := Aside0.mk (HI.out.goes HOB.out.2); obtain ⟨T, hT⟩ : ∃ T, T = (goes S).1 := ⟨_, rfl⟩; obtain ⟨g, hg⟩ : ∃ g, g = (goes S).2 := ⟨_, rfl⟩; rw [← hT] at H4 HG; rw [← hg] at HG; have hOP := HOP.out; rw [goes_eq, ← hT, ← hg] at hOP; replace HOP := Aside0.mk hOP; rw [← hg]; clear h4 hk4 hT hg hOP; by_cases hg0 : g = 0
      · subst hg0; have hOP := HOP.out; rw [if_pos rfl] at hOP; replace HOP := Aside0.mk hOP; clear hOP; have c2 := (blk_cell H4.out.blk 2).trans rfl; have c3 := (blk_cell H4.out.blk 3).trans rfl; have c4 := (blk_cell H4.out.blk 4).trans rfl; have z3 := blk_frozen H4.out.blk 3; have z4 := blk_frozen H4.out.blk 4; have HLE : Aside0 (T.dir = S.dir) := ⟨HG.out.2.2.1⟩; have HIC := Aside0.mk HI.out.syncDir; clear c5 c7; go_wp2_with fail
        go_ret; rw [HOP.out]; have hk := ((KeptL.refl (fun k => k = d) w4).setCell ⟨d, 3, none⟩ (.slice Ad S.dir.length cd) (.inl rfl)).setCell ⟨d, 4, none⟩ (.slice none 0 0) (.inl rfl); have hf := RskM.put (S := { T with safe := T.dir, chg := [] }) H4.out.blk hk (blkR_put (blkR_put H4.out.blk 3 _ rfl) 4 _ rfl) H4.out.fil H4.out.dir H4.out.dir (Kd.R_nil kC _ _ _ _) H4.out.fd; have hi := HIC.out; rw [HOP.out] at hi; exact ⟨rfl, RskM.fin hi HLT.out (HK4.out.trans (hk.mono (fun k e => by rw [e]; exact H.out.fd))) (hf.wide (fun k hk => .inl hk))⟩
      · have bg : (g == 0) = false := beq_eq_false_iff_ne.mpr hg0; have hOP := HOP.out; rw [if_neg hg0] at hOP; replace HOP := Aside0.mk hOP; clear hOP hg0; go_wp2_with fail
        go_ret; rw [HOP.out]; exact ⟨rfl, RskM.fin HG.out.1 HLT.out HK4.out (H4.out.wide (fun k hk => .inl hk))⟩
set_option maxHeartbeats 2000000 in
set_option maxRecDepth 100000 in
theorem ref_Remove.calls {w : World} {F : Nat → Prop} {d : Nat} {S : DS} (h : RskAt w F d S) (n : ByteArray) (hn : n.size ≤ 9223372036854775807) :
    Calls Try.prog 59 #[.pointer (some ⟨d, 0, none⟩), .string n] w fun e w' => e = .returned (.int .i64 (opRemove S n).2) ∧ RskAt w' (grow F w w') d (opRemove S n).1 ∧ KeptL F w w' := by
  have HA := Aside0.mk h; obtain ⟨hI, hlt0, vf, vd, vs, vc, h1⟩ := h; have HLT := Aside0.mk hlt0; have HI := Aside0.mk hI; have H := Aside0.mk h1; have c7 := (blk_cell h1.blk 7).trans rfl
  cases hd : S.dead with
  | true =>
    rw [hd] at c7; have HOP : Aside0 (opRemove S n = (S, 51)) := ⟨by unfold opRemove; rw [hd]; rfl⟩; clear h1 hd hI hlt0; go_enter Try.func59, Try.ntmps59
    go_wp2_with fail
    go_ret; rw [HOP.out]; exact ⟨rfl, HA.out.unmoved (Below.refl _ _)⟩
  | false =>
    rw [hd] at c7; have HDD := Aside0.mk hd; clear hd hI hlt0; obtain ⟨Ad, cd, hvd, hcd, hCd⟩ := h1.dirRow; subst hvd; have HCD := Aside0.mk (And.intro hcd hCd); have c2 := (blk_cell h1.blk 2).trans rfl; clear h1 hcd hCd; go_enter Try.func59, Try.ntmps59
    go_wp2_with fail
    refine (ref_find.at HCD.out.2 HCD.out.1 (by have := HI.out.lenD; omega) n).mono ?_; rintro x w2 ⟨hb2, ⟨rfl, hh⟩ | ⟨ji, hji, rfl, hh⟩⟩
    · have HOP : Aside0 (opRemove S n = (S, 7)) := ⟨by unfold opRemove; rw [HDD.out, hh]; rfl⟩; have HB2 := Aside0.mk hb2; clear hh hb2 c2; go_wp2_with fail
      go_ret; rw [HOP.out]; exact ⟨rfl, HA.out.unmoved HB2.out⟩
    · have HH := Aside0.mk hh; have HJI := Aside0.mk hji; have HB2 := Aside0.mk hb2; have H2 := Aside0.mk (H.out.below hb2); have c5 := (blk_cell H2.out.blk 5).trans rfl; obtain ⟨en, hen⟩ : ∃ en, en = S.dir[ji] := ⟨_, rfl⟩; rw [← hen] at HH; have HEN := Aside0.mk hen; clear hh hb2 hen c2; by_cases ho : S.ops ≥ 1048576
      · have b1 : decide (S.ops ≥ 1048576) = true := decide_eq_true ho; have HOP : Aside0 (opRemove S n = (S, 5)) := ⟨by unfold opRemove; rw [HDD.out, HH.out]; exact if_pos ho⟩; clear ho; go_wp2_with fail
        go_ret; rw [HOP.out]; exact ⟨rfl, HA.out.unmoved HB2.out⟩
      · have b1 : decide (S.ops ≥ 1048576) = false := decide_eq_false ho; have HOB : Aside0 (0 ≤ S.ops ∧ S.ops < 1048576) := ⟨by have := HI.out.opsB; omega⟩; have HOP : Aside0 (opRemove S n = ifGoes S fun T => note T (n, ByteArray.empty, 0)) := ⟨by unfold opRemove; rw [HDD.out, HH.out]; exact if_neg ho⟩; clear ho; go_wp2_with fail
        clear b1; refine (ref_goes.calls H2.out HI.out.armB HOB.out).mono ?_; rintro x w4 ⟨rfl, h4, hk4⟩; have H4 := Aside0.mk h4; have HK4 : Aside0 (KeptL F w w4) := ⟨(KeptL.of_below HB2.out).trans (hk4.mono (fun k e => by rw [e]; exact H.out.fd))⟩; have HG := Aside0.mk (HI.out.goes HOB.out.2); obtain ⟨T, hT⟩ : ∃ T, T = (goes S).1 := ⟨_, rfl⟩; obtain ⟨g, hg⟩ : ∃ g, g = (goes S).2 := ⟨_, rfl⟩; rw [← hT] at H4 HG; rw [← hg] at HG; have hOP := HOP.out; rw [goes_eq, ← hT, ← hg] at hOP; replace HOP := Aside0.mk hOP; rw [← hg]; clear h4 hk4 hT hg hOP; by_cases hg0 : g = 0
        · subst hg0; have hOP := HOP.out; rw [if_pos rfl] at hOP; replace HOP := Aside0.mk hOP; clear hOP; have HIC := Aside0.mk (HI.out.remove n); have HLL : Aside0 (T.dir.length ≤ 1048640 ∧ T.chg.length ≤ 1048640) := ⟨by rw [HG.out.2.2.1]; have := HI.out.lenD; omega, by rw [HG.out.2.2.2.2.1]; have := HI.out.lenC; have := HI.out.opsB; omega⟩; clear c5 c7; go_wp2_with fail
          refine (ref_change.calls H4.out HLL.out.1 HLL.out.2 n ⟨#[]⟩ 0).mono ?_; rintro x w9 ⟨⟨v9, rfl⟩, hk9, vd9, vc9, h9⟩
          have HFIN : Aside0 (RskAt w9 (grow F w w9) d (opRemove S n).1 ∧ KeptL F w w9) := ⟨RskM.fin HIC.out HLT.out (HK4.out.trans hk9) (by
            rw [HOP.out]
            exact h9.wide (fun k hk => by
              rcases hk with hk | hk
              · exact .inl hk
              · exact .inr (Nat.le_trans HK4.out.size hk.1)))⟩
          clear hk9 h9; go_wp2_with fail
          go_ret; exact ⟨by rw [HOP.out]; rfl, HFIN.out⟩
        · have bg : (g == 0) = false := beq_eq_false_iff_ne.mpr hg0; have hOP := HOP.out; rw [if_neg hg0] at hOP; replace HOP := Aside0.mk hOP; clear hOP hg0; go_wp2_with fail
          go_ret; rw [HOP.out]; exact ⟨rfl, RskM.fin HG.out.1 HLT.out HK4.out (H4.out.wide (fun k hk => .inl hk))⟩
set_option maxHeartbeats 2000000 in
set_option maxRecDepth 100000 in
theorem ref_Rename.calls {w : World} {F : Nat → Prop} {d : Nat} {S : DS} (h : RskAt w F d S) (n m : ByteArray) (hn : n.size ≤ 9223372036854775807 ∧ m.size ≤ 9223372036854775807) :
    Calls Try.prog 58 #[.pointer (some ⟨d, 0, none⟩), .string n, .string m] w fun e w' => e = .returned (.int .i64 (opRename S n m).2) ∧ RskAt w' (grow F w w') d (opRename S n m).1 ∧ KeptL F w w' := by
  have HA := Aside0.mk h; obtain ⟨hI, hlt0, vf, vd, vs, vc, h1⟩ := h; have HLT := Aside0.mk hlt0; have HI := Aside0.mk hI; have H := Aside0.mk h1; have c7 := (blk_cell h1.blk 7).trans rfl
  cases hd : S.dead with
  | true =>
    rw [hd] at c7; have HOP : Aside0 (opRename S n m = (S, 51)) := ⟨by unfold opRename; rw [hd]; rfl⟩; clear h1 hd hI hlt0; go_enter Try.func58, Try.ntmps58
    go_wp2_with fail
    go_ret; rw [HOP.out]; exact ⟨rfl, HA.out.unmoved (Below.refl _ _)⟩
  | false =>
    rw [hd] at c7; have HDD := Aside0.mk hd; clear hd hI hlt0; obtain ⟨kk, hkk⟩ := (name_ev m hn.2).rounds; have HKK := Aside0.mk hkk; obtain ⟨r, hr⟩ : ∃ r, r = nameOk m := ⟨_, rfl⟩; have HR := Aside0.mk hr; rw [← hr] at HKK; clear hkk hr hn; obtain ⟨Ad, cd, hvd, hcd, hCd⟩ := h1.dirRow; subst hvd; have HCD := Aside0.mk (And.intro hcd hCd); have c2 := (blk_cell h1.blk 2).trans rfl; clear h1 hcd hCd; go_enter Try.func58, Try.ntmps58
    go_wp2_with fail
    refine (ref_find.at HCD.out.2 HCD.out.1 (by have := HI.out.lenD; omega) n).mono ?_; rintro x w2 ⟨hb2, ⟨rfl, hh⟩ | ⟨ji, hji, rfl, hh⟩⟩
    · have HOP : Aside0 (opRename S n m = (S, 7)) := ⟨by unfold opRename; rw [HDD.out, hh]; rfl⟩; have HB2 := Aside0.mk hb2; clear hh hb2 c2; go_wp2_with fail
      go_ret; rw [HOP.out]; exact ⟨rfl, HA.out.unmoved HB2.out⟩
    · have HH := Aside0.mk hh; have HJI := Aside0.mk hji; have HB2 := Aside0.mk hb2; have H2 := Aside0.mk (H.out.below hb2); have c5 := (blk_cell H2.out.blk 5).trans rfl; obtain ⟨en, hen⟩ : ∃ en, en = S.dir[ji] := ⟨_, rfl⟩; rw [← hen] at HH; have HEN := Aside0.mk hen; clear hh hb2 hen c2; go_wp2_with fail
      refine (wicketref05_Name.calls kk m r w2 HKK.out).mono ?_; rintro x w3 ⟨rfl, hd3⟩; have HB3 := Aside0.mk (below_step HB2.out hd3.below); have H3 := Aside0.mk (H2.out.below hd3.below); clear hd3 c5
      cases r with
      | false =>
        have HOP : Aside0 (opRename S n m = (S, 50)) := ⟨by unfold opRename; rw [HDD.out, HH.out]; dsimp only; rw [if_neg (by decide), if_pos HR.out.symm]⟩; go_wp2_with fail
        go_ret; rw [HOP.out]; exact ⟨rfl, HA.out.unmoved HB3.out⟩
      | true =>
        have c5 := (blk_cell H3.out.blk 5).trans rfl; by_cases ho : S.ops ≥ 1048576
        · have b1 : decide (S.ops ≥ 1048576) = true := decide_eq_true ho; have HOP : Aside0 (opRename S n m = (S, 5)) := ⟨opRename_full HDD.out HH.out HR.out.symm ho⟩; clear ho; go_wp2_with fail
          go_ret; rw [HOP.out]; exact ⟨rfl, HA.out.unmoved HB3.out⟩
        · have b1 : decide (S.ops ≥ 1048576) = false := decide_eq_false ho; have HOB : Aside0 (0 ≤ S.ops ∧ S.ops < 1048576) := ⟨by have := HI.out.opsB; omega⟩; have HOP : Aside0 (opRename S n m = ifGoes S fun T => if n = m then T else note T (n, m, en.2)) := ⟨opRename_goes HDD.out HH.out HR.out.symm ho⟩; clear ho; go_wp2_with fail
          clear b1; refine (ref_goes.calls H3.out HI.out.armB HOB.out).mono ?_; rintro x w4 ⟨rfl, h4, hk4⟩; have H4 := Aside0.mk h4; have HK4 : Aside0 (KeptL F w w4) := ⟨(KeptL.of_below HB3.out).trans (hk4.mono (fun k e => by rw [e]; exact H.out.fd))⟩; have HG := Aside0.mk (HI.out.goes HOB.out.2); obtain ⟨T, hT⟩ : ∃ T, T = (goes S).1 := ⟨_, rfl⟩; obtain ⟨g, hg⟩ : ∃ g, g = (goes S).2 := ⟨_, rfl⟩; rw [← hT] at H4 HG; rw [← hg] at HG; have hOP := HOP.out; rw [goes_eq, ← hT, ← hg] at hOP; replace HOP := Aside0.mk hOP; rw [← hg]; clear h4 hk4 hT hg hOP; by_cases hg0 : g = 0
          · subst hg0; have hOP := HOP.out; rw [if_pos rfl] at hOP; replace HOP := Aside0.mk hOP; clear hOP; have HIC := Aside0.mk (HI.out.rename n m); by_cases hab : n = m
            · have t1 : (n.toList == m.toList) = true := by rw [hab]; exact beq_self_eq_true _
              have hOP := HOP.out; rw [if_pos hab] at hOP; replace HOP := Aside0.mk hOP; clear c5 c7 hab hOP; go_wp2_with fail
              go_ret; rw [HOP.out]; exact ⟨rfl, RskM.fin HG.out.1 HLT.out HK4.out (H4.out.wide (fun k hk => .inl hk))⟩
            · have t1 : (n.toList == m.toList) = false := by
                cases e : (n.toList == m.toList) with
                | false => rfl
                | true => exact absurd (bytes_eqD.1 (by simpa using e)) hab
              have hOP := HOP.out; rw [if_neg hab] at hOP; replace HOP := Aside0.mk hOP; have HLL : Aside0 (T.dir.length ≤ 1048640 ∧ T.chg.length ≤ 1048640) := ⟨by rw [HG.out.2.2.1]; have := HI.out.lenD; omega, by rw [HG.out.2.2.2.2.1]; have := HI.out.lenC; have := HI.out.opsB; omega⟩; have hrow := HCD.out.2; have c2 := (blk_cell H4.out.blk 2).trans rfl; obtain ⟨ad, rfl, e0, e1⟩ := ent_at hrow ji HJI.out; have hdir := (Kd.R_reads' (H4.out.dir)).2; rw [HG.out.2.2.1] at hdir; obtain ⟨ad', hA', q0, q1⟩ := ent_at hdir.2 ji HJI.out
              cases hA'
              rw [← HEN.out] at q1; have hjn := HJI.out; clear c5 c7 hab hOP hrow hdir e0 e1 q0; go_upto_region 12 with (fail)
              go_wp2_with fail
              refine (ref_change.calls H4.out HLL.out.1 HLL.out.2 n m en.2).mono ?_; rintro x w9 ⟨⟨v9, rfl⟩, hk9, vd9, vc9, h9⟩; have H9 := Aside0.mk h9; have HK9 := Aside0.mk hk9; clear hk9 h9 c2 q1
              have HFIN : Aside0 (RskAt w9 (grow F w w9) d (opRename S n m).1 ∧ KeptL F w w9) := ⟨RskM.fin HIC.out HLT.out (HK4.out.trans HK9.out) (by
                rw [HOP.out]
                exact H9.out.wide (fun k hk => by
                  rcases hk with hk | hk
                  · exact .inl hk
                  · exact .inr (Nat.le_trans HK4.out.size hk.1)))⟩
              clear H9 HK9; go_wp2_with fail
              go_ret; exact ⟨by rw [HOP.out]; rfl, HFIN.out⟩
          · have bg : (g == 0) = false := beq_eq_false_iff_ne.mpr hg0; have hOP := HOP.out; rw [if_neg hg0] at hOP; replace HOP := Aside0.mk hOP; clear hOP hg0; go_wp2_with fail
            go_ret; rw [HOP.out]; exact ⟨rfl, RskM.fin HG.out.1 HLT.out HK4.out (H4.out.wide (fun k hk => .inl hk))⟩
end Go.Proofs.Ytdekcjopgnfmdaa.Hand
