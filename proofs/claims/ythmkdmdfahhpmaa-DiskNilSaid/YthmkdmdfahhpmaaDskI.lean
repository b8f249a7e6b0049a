/- Disk: the program's Remove, Rename. -/
import Derived.Test.YthmkdmdfahhpmaaDskH
namespace Go.Proofs.Ythmkdmdfahhpmaa.Hand
open Go.RowKit Go.Maps Go.Proofs.YthmkdmdfahhpmaaW.PrintWords Go.Proofs.YthmkdmdfahhpmaaW.PrintLast Go.Proofs.YthmkdmdfahhpmaaW.PrintMore Go.Proofs.Ythmkdmdfahhpmaa.Q
set_option linter.unusedVariables false
set_option linter.unusedSimpArgs false
set_option maxHeartbeats 2000000 in
set_option maxRecDepth 100000 in
theorem disk_Remove.calls {w : World} {F : Nat → Prop} {d : Nat} {S : DS} (h : DskAt w F d S) (n : ByteArray) (hn : n.size ≤ 9223372036854775807) :
    Calls Try.prog 40 #[.pointer (some ⟨d, 0, none⟩), .string n] w fun e w' => e = .returned (.int .i64 (opRemove S n).2) ∧ DskAt w' (grow F w w') d (opRemove S n).1 ∧ KeptL F w w' := by
  have HA := Aside0.mk h
  obtain ⟨hI, md, ms, vf, vc, fm, h1⟩ := h
  have c8 := (blk_cell h1.blk 8).trans rfl
  have HN := Aside0.mk hn
  have HI := Aside0.mk hI
  have H := Aside0.mk h1
  cases hd : S.dead with
  | true =>
    rw [hd] at c8
    have HOP : Aside0 (opRemove S n = (S, 51)) := ⟨by unfold opRemove; rw [hd]; rfl⟩
    clear h1 hd hI
    go_enter Try.func40, Try.ntmps40
    go_wp2_with fail
    go_ret
    rw [HOP.out]
    exact ⟨rfl, HA.out.unmoved (Below.refl _ _)⟩
  | false =>
    rw [hd] at c8
    have HDD := Aside0.mk hd
    clear h1 hd hI
    go_enter Try.func40, Try.ntmps40
    go_wp2_with fail
    refine (disk_find.calls H.out (fun e he => ⟨(HI.out.okD e he).1, (HI.out.okD e he).2.1⟩) n HN.out).mono ?_
    rintro x w2 ⟨rfl, ⟨hh, rfl⟩ | ⟨en, hh, rfl⟩⟩
    · have HOP : Aside0 (opRemove S n = (S, 7)) := ⟨by unfold opRemove; rw [HDD.out, hh]; rfl⟩
      clear hh
      go_wp2_with fail
      go_ret
      rw [HOP.out]
      exact ⟨rfl, HA.out.unmoved (Below.refl _ _)⟩
    · have HH := Aside0.mk hh
      have c6 := (blk_cell H.out.blk 6).trans rfl
      by_cases ho : S.ops ≥ 1048576
      · have b1 : decide (S.ops ≥ 1048576) = true := decide_eq_true ho
        have HOP : Aside0 (opRemove S n = (S, 5)) := ⟨by unfold opRemove; rw [HDD.out, HH.out]; exact if_pos ho⟩
        clear hh ho
        go_wp2_with fail
        go_ret
        rw [HOP.out]
        exact ⟨rfl, HA.out.unmoved (Below.refl _ _)⟩
      · have b1 : decide (S.ops ≥ 1048576) = false := decide_eq_false ho
        have HOB : Aside0 (0 ≤ S.ops ∧ S.ops < 1048576) := ⟨by have := HI.out.opsB; omega⟩
        have HOP : Aside0 (opRemove S n = ifGoes S fun T => note T (n, ByteArray.empty, 0)) := ⟨by unfold opRemove; rw [HDD.out, HH.out]; exact if_neg ho⟩
        clear hh ho
        go_wp2_with fail
        clear b1 c6
        refine (disk_goes.calls H.out HI.out.armB HOB.out).mono ?_
        rintro x w4 ⟨rfl, h4, hk4⟩
        have H4 := Aside0.mk h4
        have HK4 : Aside0 (KeptL F w2 w4) := ⟨(KeptL.refl F w2).trans (hk4.mono (fun k e => by rw [e]; exact H.out.foot.1))⟩
        have HG := Aside0.mk (HI.out.goes HOB.out.2)
        obtain ⟨T, hT⟩ : ∃ T, T = (goes S).1 := ⟨_, rfl⟩
        obtain ⟨g, hg⟩ : ∃ g, g = (goes S).2 := ⟨_, rfl⟩
        rw [← hT] at H4 HG
        rw [← hg] at HG
        have hOP := HOP.out
        rw [goes_eq, ← hT, ← hg] at hOP
        replace HOP := Aside0.mk hOP
        rw [← hg]
        have HU : Aside0 (used T = used S) := ⟨by unfold used; rw [HG.out.2.1, HG.out.2.2.1]⟩
        clear h4 hk4 hT hg hOP
        by_cases hg0 : g = 0
        · subst hg0
          have hOP := HOP.out
          rw [if_pos rfl] at hOP
          replace HOP := Aside0.mk hOP
          clear hOP
          have hen := HI.out.okD en (has_some HH.out).1
          rw [(has_some HH.out).2] at hen
          have hj0 : 0 < T.files.length := by rw [HG.out.2.1]; omega
          have hub := HI.out.usedB
          have hnt := disk_note.calls H4.out HG.out.1 n ⟨#[]⟩ 0 hj0 hen.2.2.2 (by show 0 ≤ 32; omega) (.inl (by omega)) (by omega)
          rw [show ((0 : Nat) : Int) = 0 from rfl] at hnt
          have hab : n ≠ (⟨#[]⟩ : ByteArray) := fun e => by
            have h1 := hen.2.2.1
            rw [e] at h1
            exact absurd h1 (by decide)
          have hus := used_note HG.out.1 hab 0
          rw [HU.out] at hus
          have HUS := Aside0.mk hus
          have HNT := Aside0.mk hnt
          have HIC := Aside0.mk (HI.out.remove n)
          clear hen hj0 hub hnt hab hus
          go_wp2_with fail
          refine HNT.out.mono ?_
          rintro x w9 ⟨⟨v9, rfl⟩, hk9, vc9, h9⟩
          rw [← HUS.out] at h9
          have hKF := HK4.out
          have hK9 : KeptL F w2 w9 := hKF.trans hk9
          have HFIN : Aside0 (DskAt w9 (grow F w2 w9) d (opRemove S n).1 ∧ KeptL F w2 w9) := ⟨⟨HIC.out, by
            rw [HOP.out]
            exact ⟨md, ms, _, vc9, _, h9.monoF (fun k hk => by
              rcases hk with hk | hk
              · exact .inl hk
              · have h1 := hKF.size; exact .inr ⟨by omega, hk.2⟩) (lt_grow H.out.lt hK9.size)⟩⟩, hK9⟩
          clear hK9 hKF h9 hk9
          go_wp2_with fail
          go_ret
          exact ⟨by rw [HOP.out]; rfl, HFIN.out⟩
        · have bg : (g != 0) = true := bne_iff_ne.mpr hg0
          have hOP := HOP.out
          rw [if_neg hg0] at hOP
          replace HOP := Aside0.mk hOP
          clear hOP hg0
          go_wp2_with fail
          go_ret
          rw [HOP.out]
          refine ⟨rfl, ⟨HG.out.1, md, ms, vf, vc, fm, ?_⟩, HK4.out⟩
          rw [HU.out]
          exact H4.out.monoF (fun k hk => .inl hk) (lt_grow H.out.lt HK4.out.size)
theorem opRename_full {S : DS} {a b : ByteArray} {en : Ent} (hd : S.dead = false) (hh : has S.dir a = some en) (hn : nameOk b = true) (ho : S.ops ≥ 1048576) : opRename S a b = (S, 5) := by
  unfold opRename
  rw [hd, if_neg (by decide), hh]
  simp only
  rw [hn, if_neg (by decide), if_pos ho]
theorem opRename_goes {S : DS} {a b : ByteArray} {en : Ent} (hd : S.dead = false) (hh : has S.dir a = some en) (hn : nameOk b = true) (ho : ¬ S.ops ≥ 1048576) : opRename S a b = ifGoes S fun T => if a = b then T else note T (a, b, en.2) := by
  unfold opRename
  rw [hd, if_neg (by decide), hh]
  simp only
  rw [hn, if_neg (by decide), if_neg ho]
/-- What the directory's map gives of a name. -/
theorem dir_get {w : World} {m : Nat} {l : List Ent} (h : OwnE w m l) (s : ByteArray) (hs : s.size ≤ 9223372036854775807) :
    ∃ i : Int, (Instr.lookup 82 (.map (some m)) (.string s) false).run Try.prog w = .ok (.int .i64 i) w ∧ ∀ e, has l s = some e → i = e.2 := by
  obtain ⟨n, D, hO, hM⟩ := h
  obtain ⟨i, hrun, hat, hw⟩ := hO.lookup_int lawS Try.underlying82 Try.underlying3 (Try.zeroValue3 _) (key_of s hs)
  refine ⟨i, hrun, fun e he => ?_⟩
  have hl := hM.look_ s
  rw [he] at hl
  unfold view at hl
  split at hl
  · have h1 : D.atKey (ks s) (iv 0) = iv e.2 := by simpa using hl
    exact iv_inj (hat.symm.trans h1)
  · cases hl
set_option maxHeartbeats 2000000 in
set_option maxRecDepth 100000 in
theorem disk_Rename.calls {w : World} {F : Nat → Prop} {d : Nat} {S : DS} (h : DskAt w F d S) (a b : ByteArray) (hn : a.size ≤ 9223372036854775807 ∧ b.size ≤ 9223372036854775807) :
    Calls Try.prog 39 #[.pointer (some ⟨d, 0, none⟩), .string a, .string b] w fun e w' => e = .returned (.int .i64 (opRename S a b).2) ∧ DskAt w' (grow F w w') d (opRename S a b).1 ∧ KeptL F w w' := by
  have HA := Aside0.mk h
  obtain ⟨hI, md, ms, vf, vc, fm, h1⟩ := h
  have c8 := (blk_cell h1.blk 8).trans rfl
  have HNN := Aside0.mk hn
  obtain ⟨kk, hkk⟩ := (named_ev b hn.2).rounds
  have HKK := Aside0.mk hkk
  obtain ⟨r, hr⟩ : ∃ r, r = nameOk b := ⟨_, rfl⟩
  have HR := Aside0.mk hr
  rw [← hr] at HKK
  clear hkk hr
  have HI := Aside0.mk hI
  have H := Aside0.mk h1
  cases hd : S.dead with
  | true =>
    rw [hd] at c8
    have HOP : Aside0 (opRename S a b = (S, 51)) := ⟨by unfold opRename; rw [hd]; rfl⟩
    clear h1 hd hI
    go_enter Try.func39, Try.ntmps39
    go_wp2_with fail
    go_ret
    rw [HOP.out]
    exact ⟨rfl, HA.out.unmoved (Below.refl _ _)⟩
  | false =>
    rw [hd] at c8
    have HDD := Aside0.mk hd
    clear h1 hd hI
    go_enter Try.func39, Try.ntmps39
    go_wp2_with fail
    refine (disk_find.calls H.out (fun e he => ⟨(HI.out.okD e he).1, (HI.out.okD e he).2.1⟩) a HNN.out.1).mono ?_
    rintro x w2 ⟨rfl, ⟨hh, rfl⟩ | ⟨en, hh, rfl⟩⟩
    · have HOP : Aside0 (opRename S a b = (S, 7)) := ⟨by unfold opRename; rw [HDD.out, hh]; rfl⟩
      clear hh
      go_wp2_with fail
      go_ret
      rw [HOP.out]
      exact ⟨rfl, HA.out.unmoved (Below.refl _ _)⟩
    · have HH := Aside0.mk hh
      go_wp2_with fail
      refine (disk_named.calls kk b r w2 HKK.out).mono ?_
      rintro x w1 ⟨rfl, hd1⟩
      have hb1 := hd1.below
      have H1 := Aside0.mk (H.out.below hb1)
      have HB1 := Aside0.mk hb1
      clear hd1 hb1
      cases r with
      | false =>
        have HOP : Aside0 (opRename S a b = (S, 50)) := ⟨by unfold opRename; rw [HDD.out, HH.out, ← HR.out]; rfl⟩
        go_wp2_with fail
        go_ret
        rw [HOP.out]
        exact ⟨rfl, HA.out.unmoved HB1.out⟩
      | true =>
        have c6 := (blk_cell H1.out.blk 6).trans rfl
        by_cases ho : S.ops ≥ 1048576
        · have b1 : decide (S.ops ≥ 1048576) = true := decide_eq_true ho
          have HOP : Aside0 (opRename S a b = (S, 5)) := ⟨opRename_full HDD.out HH.out HR.out.symm ho⟩
          clear hh ho
          go_wp2_with fail
          go_ret
          rw [HOP.out]
          exact ⟨rfl, HA.out.unmoved HB1.out⟩
        · have b1 : decide (S.ops ≥ 1048576) = false := decide_eq_false ho
          have HOB : Aside0 (0 ≤ S.ops ∧ S.ops < 1048576) := ⟨by have := HI.out.opsB; omega⟩
          have HOP : Aside0 (opRename S a b = ifGoes S fun T => if a = b then T else note T (a, b, en.2)) := ⟨opRename_goes HDD.out HH.out HR.out.symm ho⟩
          clear hh ho
          go_wp2_with fail
          clear b1 c6
          refine (disk_goes.calls H1.out HI.out.armB HOB.out).mono ?_
          rintro x w4 ⟨rfl, h4, hk4⟩
          have H4 := Aside0.mk h4
          have HK4 : Aside0 (KeptL F w2 w4) := ⟨(KeptL.of_below HB1.out).trans (hk4.mono (fun k e => by rw [e]; exact H.out.foot.1))⟩
          have HG := Aside0.mk (HI.out.goes HOB.out.2)
          obtain ⟨T, hT⟩ : ∃ T, T = (goes S).1 := ⟨_, rfl⟩
          obtain ⟨g, hg⟩ : ∃ g, g = (goes S).2 := ⟨_, rfl⟩
          rw [← hT] at H4 HG
          rw [← hg] at HG
          have hOP := HOP.out
          rw [goes_eq, ← hT, ← hg] at hOP
          replace HOP := Aside0.mk hOP
          rw [← hg]
          have HU : Aside0 (used T = used S) := ⟨by unfold used; rw [HG.out.2.1, HG.out.2.2.1]⟩
          clear h4 hk4 hT hg hOP
          by_cases hg0 : g = 0
          · subst hg0
            have hOP := HOP.out
            rw [if_pos rfl] at hOP
            replace HOP := Aside0.mk hOP
            clear hOP
            have hen := HI.out.okD en (has_some HH.out).1
            rw [(has_some HH.out).2] at hen
            have hnb := nameOk_size HR.out.symm
            have HIC := Aside0.mk (HI.out.rename a b)
            by_cases eab : a = b
            · have b3 : (a.toList != b.toList) = false := by rw [eab]; simp
              have b4 : (a.toList == b.toList) = true := by rw [eab]; simp
              have HFIN : Aside0 (DskAt w4 (grow F w2 w4) d (opRename S a b).1 ∧ KeptL F w2 w4) := ⟨⟨HIC.out, by
                rw [HOP.out, if_pos eab]
                refine ⟨md, ms, vf, vc, fm, ?_⟩
                rw [HU.out]
                exact H4.out.monoF (fun k hk => .inl hk) (lt_grow H.out.lt HK4.out.size)⟩, HK4.out⟩
              clear hen hnb eab
              go_wp2_with fail
              go_ret
              exact ⟨by rw [HOP.out]; rfl, HFIN.out⟩
            · have b3 : (a.toList != b.toList) = true := by
                rw [bne_iff_ne]
                exact fun e => eab (bytes_eqD.1 e)
              have b4 : (a.toList == b.toList) = false := by rw [beq_eq_false_iff_ne]; exact fun e => eab (bytes_eqD.1 e)
              have hub := HI.out.usedB
              obtain ⟨j, hj⟩ : ∃ j : Nat, (j : Int) = en.2 := ⟨en.2.toNat, by omega⟩
              have hj0 : j < T.files.length := by rw [HG.out.2.1]; omega
              have hnt := disk_note.calls H4.out HG.out.1 a b j hj0 hen.2.2.2 hnb.2 (.inl (by omega)) (by omega)
              have hus := used_note HG.out.1 eab (j : Int)
              rw [HU.out] at hus
              have HUS := Aside0.mk hus
              have HNT := Aside0.mk hnt
              obtain ⟨i3, hl3, hi3⟩ := dir_get H4.out.dir a (by omega)
              have hi4 : i3 = (j : Int) := by rw [hi3 en (by rw [HG.out.2.2.1]; exact HH.out), hj]
              subst hi4
              have c3 := (blk_cell H4.out.blk 3).trans rfl
              have hOP := HOP.out
              rw [if_neg eab, ← hj] at hOP
              replace HOP := Aside0.mk hOP
              clear hen hnb hub hnt hus hi3 hj hj0 eab hOP
              go_wp2_with fail
              refine HNT.out.mono ?_
              rintro x w9 ⟨⟨v9, rfl⟩, hk9, vc9, h9⟩
              rw [← HUS.out] at h9
              have hKF := HK4.out
              have hK9 : KeptL F w2 w9 := hKF.trans hk9
              have HFIN : Aside0 (DskAt w9 (grow F w2 w9) d (opRename S a b).1 ∧ KeptL F w2 w9) := ⟨⟨HIC.out, by
                rw [HOP.out]
                exact ⟨md, ms, _, vc9, _, h9.monoF (fun k hk => by
                  rcases hk with hk | hk
                  · exact .inl hk
                  · have h1 := hKF.size; exact .inr ⟨by omega, hk.2⟩) (lt_grow H.out.lt hK9.size)⟩⟩, hK9⟩
              clear hK9 hKF h9 hk9
              go_wp2_with fail
              go_ret
              exact ⟨by rw [HOP.out]; rfl, HFIN.out⟩
          · have bg : (g != 0) = true := bne_iff_ne.mpr hg0
            have hOP := HOP.out
            rw [if_neg hg0] at hOP
            replace HOP := Aside0.mk hOP
            clear hOP hg0
            go_wp2_with fail
            go_ret
            rw [HOP.out]
            refine ⟨rfl, ⟨HG.out.1, md, ms, vf, vc, fm, ?_⟩, HK4.out⟩
            rw [HU.out]
            exact H4.out.monoF (fun k hk => .inl hk) (lt_grow H.out.lt HK4.out.size)
end Go.Proofs.Ythmkdmdfahhpmaa.Hand
