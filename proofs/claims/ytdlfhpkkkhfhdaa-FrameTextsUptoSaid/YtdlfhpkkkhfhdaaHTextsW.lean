/- law01's FrameTexts: the walk, on the one road it takes. -/
import Derived.Test.YtdlfhpkkkhfhdaaHPutText
import Derived.Outline
namespace Go.Proofs.Ytdlfhpkkkhfhdaa.Hand
open Go.RowKit Go.Proofs.YtdlfhpkkkhfhdaaW.PrintWords Go.Proofs.YtdlfhpkkkhfhdaaW.PrintLast Go.Proofs.YtdlfhpkkkhfhdaaW.PrintMore Go.Proofs.Ytdlfhpkkkhfhdaa.Q
set_option linter.unusedVariables false

/-- What is written over: one row's bytes, nothing else. -/
structure Over (W1 W : World) (B g cap n : Nat) : Prop where
  row : ∃ X : List Int, X.length = n ∧ RB W B (.slice (some ⟨g, 0, none⟩) n cap) X
  grown : W1.grownBy W (some g)
theorem Over.at_ {W1 W : World} {B g cap n j : Nat} (h : Over W1 W B g cap n) (hj : j < n) : (∃ y, W.cell? ⟨g, j, none⟩ = some (.int .u8 y)) ∧ W.frozen? ⟨g, j, none⟩ = false := by
  obtain ⟨X, hl, hX⟩ := h.row
  have h := Kd.R_celln (enc := Value.int .u8) (h1 := fun _ => rfl) (0 : Int) hX (j : Int) (by omega) (by omega)
  rw [Int.toNat_natCast] at h
  exact ⟨⟨_, h.1⟩, h.2⟩
theorem Over.put {W1 W : World} {B g cap n j : Nat} (h : Over W1 W B g cap n) (x : Int) : Over W1 (W.setCell ⟨g, j, none⟩ (.int .u8 x)) B g cap n := by
  obtain ⟨X, hl, hX⟩ := h.row
  have hs := Kd.R_putn (enc := Value.int .u8) (h1 := fun _ => rfl) hX (j : Int) x
  rw [Int.toNat_natCast] at hs
  exact ⟨⟨_, by rw [List.length_set]; exact hl, hs⟩, World.grownBy.trans h.grown ⟨rfl, rfl, rfl, by simp [World.setCell], fun k hk hne => Below.heap_setCell _ _ _ _ (fun e => hne (by rw [e]))⟩⟩
theorem below_grown {w a b : World} {g : Nat} (h : Below w.heap.size w a) (hg : a.grownBy b (some g)) (hb : w.heap.size ≤ g) : Below w.heap.size w b := h.grown hg h.size (fun k e => by obtain rfl := Option.some.inj e; exact hb)

set_option maxHeartbeats 1000000 in
theorem wicketlaw01_FrameTexts.walk (k : Nat) (A : Option Addr) (c : Nat) (l F P r1 : List Int) (s sv : ByteArray) (most m e : Int) (w : World) (hr : Kd.C (Kd.int .u8) w A l.length l) (hc : l.length ≤ c) (hs : s.size ≤ 100000000)
    (h1 : wicketlaw01_lent.f k l = some F) (hF : F.take l.length = l) (hF2 : l.length < F.length) (h2 : frame_PutText.f l s = some P) (h3 : wicketref01_PutUint.f k l s.size = some r1) (h4 : wicketref01_joined.f r1 (bytesOf s) = some P)
    (h6 : wicketlaw01_same.f P P = some true) (h8 : wicketlaw01_kept.f k F l = some true) (h9 : frame_Text.f k l most = some (sv, m, e)) (h10 : wicketref01_Text.f k l most = some (sv, m, e)) (h11 : wicketlaw01_num.f e = some e) (hP : P.length ≤ 140737488355000) :
    Calls Try.prog 4 #[.slice A l.length c, .string s, .int .i64 most] w fun e w' => e = .returned (.bool true) ∧ Below w.heap.size w w' := by
  have HB := Aside0.mk (Below.refl w.heap.size w)
  have HC0 := Aside0.mk hr
  have HC := Aside0.mk hr
  have H1 := Aside0.mk h1
  have H2 := Aside0.mk h2
  have H3 := Aside0.mk h3
  have H4 := Aside0.mk h4
  have H6 := Aside0.mk h6
  have H8 := Aside0.mk h8
  have H9 := Aside0.mk h9
  have H10 := Aside0.mk h10
  have H11 := Aside0.mk h11
  have HFT := Aside0.mk hF
  have HLM := Aside0.mk (Kd.C_max hr)
  clear hr h1 h2 h3 h4 h6 h8 h9 h10 h11 hF
  go_enter Try.func4, Try.ntmps4
  go_wp2_with fail
  refine (wicketlaw01_lent.calls k A c l F w HC.out hc H1.out).mono ?_
  rintro x w1 ⟨v1, rfl, ho, hb⟩
  obtain ⟨g, cap, hv, hg0, hg1, _⟩ := Kd.R_form ho (by omega)
  subst hv
  have hcap := (Kd.R_reads' ho).2.1
  have hcut := cut_own (some ⟨g, 0, none⟩) F.length cap l.length (by omega) hcap
  have HF := Aside0.mk ho
  clear ho
  replace HB := Aside0.mk (below_step HB.out hb)
  replace HC := Aside0.mk (Kd.C_below HC.out hb)
  clear hb
  have hCF : ∀ W, Kd.R (Kd.int .u8) 5 W w.heap.size (fun _ => True) (.slice (some ⟨g, 0, none⟩) F.length cap) F → Kd.C (Kd.int .u8) W (some ⟨g, 0, none⟩) l.length l := fun W h => by
    have h := Kd.C_take (m := l.length) (Kd.R_reads' h).2.2 (by omega)
    rwa [HFT.out] at h
  have HCF := Aside0.mk hCF
  clear hCF
  go_wp2_with fail
  refine (frame_PutText.calls _ cap l s P w1 (HCF.out _ HF.out) (by omega) H2.out).mono ?_
  rintro x w2 ⟨v2, rfl, ho, hb⟩
  have HR2 := Aside0.mk ho
  have HS2 := Aside0.mk hb.size
  have HS9 := Aside0.mk hb.size
  clear ho
  replace HB := Aside0.mk (below_step HB.out hb)
  replace HC := Aside0.mk (Kd.C_below HC.out hb)
  replace HF := Aside0.mk (Kd.R_below HF.out hb)
  clear hb
  go_wp2_with fail
  refine (frame_PutText.calls _ cap l s P w2 (HCF.out _ HF.out) (by omega) H2.out).mono ?_
  rintro x w3 ⟨v3, rfl, ho, hb⟩
  have HQ2 := Aside0.mk (own_lt_R HR2.out)
  have HR3 := Aside0.mk ho
  have HS3 := Aside0.mk hb.size
  clear ho
  replace HB := Aside0.mk (below_step HB.out hb)
  replace HC := Aside0.mk (Kd.C_below HC.out hb)
  replace HF := Aside0.mk (Kd.R_below HF.out hb)
  replace HR2 := Aside0.mk (Kd.R_below HR2.out hb)
  replace HS9 := Aside0.mk (Nat.le_trans HS9.out hb.size)
  clear hb
  go_wp2_with fail
  refine (wicketref01_PutText.calls k A c l r1 P s w3 HC.out hc hs H3.out H4.out).mono ?_
  rintro x w4 ⟨v4, rfl, ho, hb⟩
  have HQ3 := Aside0.mk (own_lt_R HR3.out)
  have HR4 := Aside0.mk ho
  clear ho
  replace HB := Aside0.mk (below_step HB.out hb)
  replace HC := Aside0.mk (Kd.C_below HC.out hb)
  replace HF := Aside0.mk (Kd.R_below HF.out hb)
  replace HR2 := Aside0.mk (Kd.R_below HR2.out hb)
  replace HS9 := Aside0.mk (Nat.le_trans HS9.out hb.size)
  replace HR3 := Aside0.mk (Kd.R_below HR3.out hb)
  clear hb
  obtain ⟨A2, c2, hv2⟩ := Kd.R_slice HR2.out
  obtain ⟨A3, c3, hv3⟩ := Kd.R_slice HR3.out
  obtain ⟨A4, c4, hv4⟩ := Kd.R_slice HR4.out
  subst hv2 hv3 hv4
  go_wp2_with fail
  refine (wicketlaw01_same.calls A2 c2 P A4 c4 P true w4 (Kd.R_reads' HR2.out).2.2 (Kd.R_reads' HR2.out).2.1 (Kd.R_reads' HR4.out).2.2 (Kd.R_reads' HR4.out).2.1 H6.out).mono ?_
  rintro x w5 ⟨rfl, hd⟩
  have hb := drawn_below hd
  clear hd
  replace HB := Aside0.mk (below_step HB.out hb)
  replace HC := Aside0.mk (Kd.C_below HC.out hb)
  replace HF := Aside0.mk (Kd.R_below HF.out hb)
  replace HR2 := Aside0.mk (Kd.R_below HR2.out hb)
  replace HS9 := Aside0.mk (Nat.le_trans HS9.out hb.size)
  replace HR3 := Aside0.mk (Kd.R_below HR3.out hb)
  replace HR4 := Aside0.mk (Kd.R_below HR4.out hb)
  clear hb
  go_wp2_with fail
  refine (wicketlaw01_same.calls A3 c3 P A4 c4 P true w5 (Kd.R_reads' HR3.out).2.2 (Kd.R_reads' HR3.out).2.1 (Kd.R_reads' HR4.out).2.2 (Kd.R_reads' HR4.out).2.1 H6.out).mono ?_
  rintro x w6 ⟨rfl, hd⟩
  have hb := drawn_below hd
  clear hd
  replace HB := Aside0.mk (below_step HB.out hb)
  replace HC := Aside0.mk (Kd.C_below HC.out hb)
  replace HF := Aside0.mk (Kd.R_below HF.out hb)
  replace HR2 := Aside0.mk (Kd.R_below HR2.out hb)
  replace HS9 := Aside0.mk (Nat.le_trans HS9.out hb.size)
  replace HR3 := Aside0.mk (Kd.R_below HR3.out hb)
  replace HR4 := Aside0.mk (Kd.R_below HR4.out hb)
  clear hb
  go_wp2_with fail
  refine (wicketlaw01_kept.calls k _ cap F A c l true w6 (Kd.R_reads' HF.out).2.2 hcap HC.out hc H8.out).mono ?_
  rintro x w7 ⟨rfl, hd⟩
  have hb := drawn_below hd
  clear hd
  replace HB := Aside0.mk (below_step HB.out hb)
  replace HC := Aside0.mk (Kd.C_below HC.out hb)
  replace HF := Aside0.mk (Kd.R_below HF.out hb)
  replace HR2 := Aside0.mk (Kd.R_below HR2.out hb)
  replace HS9 := Aside0.mk (Nat.le_trans HS9.out hb.size)
  replace HR3 := Aside0.mk (Kd.R_below HR3.out hb)
  replace HR4 := Aside0.mk (Kd.R_below HR4.out hb)
  clear hb
  go_wp2_with fail
  refine (frame_Text.calls k _ cap l most sv m e w7 (HCF.out _ HF.out) (by omega) H9.out).mono ?_
  rintro x w8 ⟨rfl, hd⟩
  have hb := drawn_below hd
  clear hd
  replace HB := Aside0.mk (below_step HB.out hb)
  replace HC := Aside0.mk (Kd.C_below HC.out hb)
  replace HF := Aside0.mk (Kd.R_below HF.out hb)
  replace HR2 := Aside0.mk (Kd.R_below HR2.out hb)
  replace HS9 := Aside0.mk (Nat.le_trans HS9.out hb.size)
  replace HR3 := Aside0.mk (Kd.R_below HR3.out hb)
  replace HR4 := Aside0.mk (Kd.R_below HR4.out hb)
  clear hb
  go_wp2_with fail
  refine (wicketref01_Text.calls k A c l most sv m e w8 HC.out hc H10.out).mono ?_
  rintro x w9 ⟨rfl, hd⟩
  have hb := drawn_below hd
  clear hd
  replace HB := Aside0.mk (below_step HB.out hb)
  replace HC := Aside0.mk (Kd.C_below HC.out hb)
  replace HF := Aside0.mk (Kd.R_below HF.out hb)
  replace HR2 := Aside0.mk (Kd.R_below HR2.out hb)
  replace HS9 := Aside0.mk (Nat.le_trans HS9.out hb.size)
  replace HR3 := Aside0.mk (Kd.R_below HR3.out hb)
  replace HR4 := Aside0.mk (Kd.R_below HR4.out hb)
  clear hb
  go_wp2_with fail
  refine (wicketlaw01_num.calls e e w9 H11.out).mono ?_
  rintro x w10 ⟨rfl, hd⟩
  have hb := drawn_below hd
  clear hd
  replace HB := Aside0.mk (below_step HB.out hb)
  replace HC := Aside0.mk (Kd.C_below HC.out hb)
  replace HF := Aside0.mk (Kd.R_below HF.out hb)
  replace HR2 := Aside0.mk (Kd.R_below HR2.out hb)
  replace HS9 := Aside0.mk (Nat.le_trans HS9.out hb.size)
  replace HR3 := Aside0.mk (Kd.R_below HR3.out hb)
  replace HR4 := Aside0.mk (Kd.R_below HR4.out hb)
  clear hb
  go_wp2_with fail
  refine (wicketlaw01_kept.calls k _ cap F A c l true w10 (Kd.R_reads' HF.out).2.2 hcap HC.out hc H8.out).mono ?_
  rintro x w11 ⟨rfl, hd⟩
  have hb := drawn_below hd
  clear hd
  replace HB := Aside0.mk (below_step HB.out hb)
  replace HC := Aside0.mk (Kd.C_below HC.out hb)
  replace HF := Aside0.mk (Kd.R_below HF.out hb)
  replace HR2 := Aside0.mk (Kd.R_below HR2.out hb)
  replace HS9 := Aside0.mk (Nat.le_trans HS9.out hb.size)
  replace HR3 := Aside0.mk (Kd.R_below HR3.out hb)
  replace HR4 := Aside0.mk (Kd.R_below HR4.out hb)
  clear hb
  have HO : Aside0 (Over w11 w11 w.heap.size g cap F.length) := ⟨⟨F, rfl, HF.out⟩, ⟨rfl, rfl, rfl, Nat.le_refl _, fun _ _ _ => rfl⟩⟩
  have hll := HLM.out
  go_wp2_with fail
  go_loopw [17] (fun v17 w' => ∃ i : Nat, i ≤ l.length ∧ v17 = .int .i64 i ∧ Aside0 (Over w11 w' w.heap.size g cap F.length)) (fun v17 _ => l.length - (intOf v17).toNat)
  case atStart => exact ⟨0, Nat.zero_le _, rfl, HO⟩
  case round =>
    clear HO
    obtain ⟨i, hi, rfl, HO⟩ := hrel
    by_cases hlt : i < l.length
    · obtain ⟨⟨y, hy1⟩, hy2⟩ := Over.at_ (j := i) HO.out (by omega)
      have HO2 := Aside0.mk (HO.out.put (j := i) 238)
      go_wp2_with fail
      go_roundw
      case rel => exact ⟨i + 1, by omega, by go_num, HO2⟩
      case measure => simp [intOf]; omega
    · obtain hie : i = l.length := by omega
      subst hie
      have hgr := HO.out.grown
      have q2 := HQ2.out
      have q3 := HQ3.out
      have q4 := own_lt_R HR4.out
      have hs2 := HS2.out
      have hs3 := HS3.out
      replace HB := Aside0.mk (below_grown HB.out hgr hg0)
      replace HC := Aside0.mk (Kd.C_below HC0.out HB.out)
      replace HR2 := Aside0.mk (RB_move HR2.out hgr (fun b e he => by have := q2 b e; obtain rfl := Option.some.inj he; omega))
      replace HR3 := Aside0.mk (RB_move HR3.out hgr (fun b e he => by have := q3 b e; obtain rfl := Option.some.inj he; omega))
      replace HR4 := Aside0.mk (RB_move HR4.out hgr (fun b e he => by have := q4 b e; obtain rfl := Option.some.inj he; omega))
      have HSz := Aside0.mk (Nat.le_trans HS9.out hgr.size)
      clear hgr HO HF HS9 q4
      go_wp2_with fail
      have hBw : ∀ b, Blk [(A2, P.length, c2), (A3, P.length, c3)] b → w1.heap.size ≤ b ∧ b < w3.heap.size := fun b hb => by
        rcases blk_two hb with h | h
        · have := q2 b h; omega
        · have := q3 b h; omega
      refine (alone_lit [(A2, P.length, c2), (A3, P.length, c3)] w1.heap.size wr HSz.out (rows_two HR2.out (Kd.R_lower HR3.out hs2)) (pair_two (fun b h1 h2 => by have := q2 b h1; have := q3 b h2; omega)) (by simp) (nk_all (r := Sl0) _ (by simp; exact hP))).mono ?_
      rintro x w15 ⟨rfl, hk⟩
      replace HB := Aside0.mk (HB.out.trans (hk.below HB.out.size (fun b hb => by have := hBw b hb; omega)))
      replace HC := Aside0.mk (Kd.C_below HC0.out HB.out)
      have q5 := own_lt_R HR4.out
      replace HR4 := Aside0.mk (RB_kept HR4.out hk (fun b e hb => by have h1 := hBw b hb; have := q5 b e; omega))
      clear hk q2 q3 q5 hBw hs2 hs3 HR2 HR3
      go_wp2_with fail
      refine (frame_PutText.calls A c l s P w15 HC.out hc H2.out).mono ?_
      rintro x w17 ⟨v7, rfl, ho, hb⟩
      obtain ⟨A7, c7, hv7⟩ := Kd.R_slice ho
      subst hv7
      have HR7 := Aside0.mk ho
      clear ho
      replace HB := Aside0.mk (below_step HB.out hb)
      replace HC := Aside0.mk (Kd.C_below HC.out hb)
      replace HR4 := Aside0.mk (Kd.R_below HR4.out hb)
      clear hb
      go_wp2_with fail
      refine (wicketlaw01_same.calls A7 c7 P A4 c4 P true w17 (Kd.R_reads' HR7.out).2.2 (Kd.R_reads' HR7.out).2.1 (Kd.R_reads' HR4.out).2.2 (Kd.R_reads' HR4.out).2.1 H6.out).mono ?_
      rintro x w18 ⟨rfl, hd⟩
      have hb := drawn_below hd
      clear hd
      replace HB := Aside0.mk (below_step HB.out hb)
      replace HC := Aside0.mk (Kd.C_below HC.out hb)
      replace HR4 := Aside0.mk (Kd.R_below HR4.out hb)
      replace HR7 := Aside0.mk (Kd.R_below HR7.out hb)
      clear hb
      go_wp2_with fail
      go_ret
      exact ⟨rfl, HB.out⟩
end Go.Proofs.Ytdlfhpkkkhfhdaa.Hand
