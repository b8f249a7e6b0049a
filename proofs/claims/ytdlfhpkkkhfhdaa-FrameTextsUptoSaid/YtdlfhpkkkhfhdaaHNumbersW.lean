/- law01's FrameNumbers: the walk, on the one road it takes. -/
import Derived.Test.YtdlfhpkkkhfhdaaQx
import Derived.Test.YtdlfhpkkkhfhdaaHAlone
import Derived.Outline
namespace Go.Proofs.Ytdlfhpkkkhfhdaa.Hand
open Go.RowKit Go.Proofs.YtdlfhpkkkhfhdaaW.PrintWords Go.Proofs.YtdlfhpkkkhfhdaaW.PrintLast Go.Proofs.YtdlfhpkkkhfhdaaW.PrintMore Go.Proofs.Ytdlfhpkkkhfhdaa.Q
set_option linter.unusedVariables false

set_option maxHeartbeats 1000000 in
theorem wicketlaw01_FrameNumbers.walk (k : Nat) (A : Option Addr) (c : Nat) (l F P Q : List Int) (n m u v e : Int) (w : World) (hr : Kd.C (Kd.int .u8) w A l.length l) (hc : l.length ≤ c)
    (hm : m = Go.bits .xor .u64 IntKind.u64.max n)
    (h1 : wicketlaw01_lent.f k l = some F) (hF : F.take l.length = l) (hF2 : l.length < F.length) (h2 : frame_PutUint.f l n = some P) (h3 : frame_PutUint.f l m = some Q) (h4 : wicketref01_PutUint.f k l n = some P) (h5 : wicketref01_PutUint.f k l m = some Q)
    (h6 : wicketlaw01_same.f P P = some true) (h7 : wicketlaw01_same.f Q Q = some true) (h8 : wicketlaw01_kept.f k F l = some true) (h9 : frame_Uint.f k l = some (u, v, e)) (h10 : wicketref01_Uint.f k l = some (u, v, e)) (h11 : wicketlaw01_num.f e = some e) (hP : P.length ≤ 140737488355000) (hQ : Q.length ≤ 140737488355000) :
    Calls Try.prog 3 #[.slice A l.length c, .int .u64 n] w fun e w' => e = .returned (.bool true) ∧ Below w.heap.size w w' := by
  subst hm
  have HB := Aside0.mk (Below.refl w.heap.size w)
  have HC0 := Aside0.mk hr
  have HC := Aside0.mk hr
  have H1 := Aside0.mk h1
  have H2 := Aside0.mk h2
  have H3 := Aside0.mk h3
  have H4 := Aside0.mk h4
  have H5 := Aside0.mk h5
  have H6 := Aside0.mk h6
  have H7 := Aside0.mk h7
  have H8 := Aside0.mk h8
  have H9 := Aside0.mk h9
  have H10 := Aside0.mk h10
  have H11 := Aside0.mk h11
  have HFT := Aside0.mk hF
  clear hr h1 h2 h3 h4 h5 h6 h7 h8 h9 h10 h11 hF
  go_enter Try.func3, Try.ntmps3
  go_wp2_with fail
  refine (wicketlaw01_lent.calls k A c l F w HC.out hc H1.out).mono ?_
  rintro x w1 ⟨v1, rfl, ho, hb⟩
  obtain ⟨g, cap, hv, hg0, hg1, _⟩ := Kd.R_form ho (by omega)
  subst hv
  have hcap := (Kd.R_reads' ho).2.1
  have hcut := cut_own (some ⟨g, 0, none⟩) F.length cap l.length (by omega) hcap
  have HF := Aside0.mk ho
  clear ho
  replace HB := Aside0.mk (below_step HB.out hb)
  replace HC := Aside0.mk (Kd.C_below HC.out hb)
  clear hb
  have hCF : ∀ W, Kd.R (Kd.int .u8) 5 W w.heap.size (fun _ => True) (.slice (some ⟨g, 0, none⟩) F.length cap) F → Kd.C (Kd.int .u8) W (some ⟨g, 0, none⟩) l.length l := fun W h => by
    have h := Kd.C_take (m := l.length) (Kd.R_reads' h).2.2 (by omega)
    rwa [HFT.out] at h
  have HCF := Aside0.mk hCF
  clear hCF
  go_wp2_with fail
  refine (frame_PutUint.calls _ cap l n P w1 (HCF.out _ HF.out) (by omega) H2.out).mono ?_
  rintro x w2 ⟨v2, rfl, ho, hb⟩
  have HR2 := Aside0.mk ho
  have HS2 := Aside0.mk hb.size
  have HS9 := Aside0.mk hb.size
  clear ho
  replace HB := Aside0.mk (below_step HB.out hb)
  replace HC := Aside0.mk (Kd.C_below HC.out hb)
  replace HF := Aside0.mk (Kd.R_below HF.out hb)
  clear hb
  go_wp2_with fail
  refine (frame_PutUint.calls _ cap l _ Q w2 (HCF.out _ HF.out) (by omega) H3.out).mono ?_
  rintro x w3 ⟨v3, rfl, ho, hb⟩
  have HQ2 := Aside0.mk (own_lt_R HR2.out)
  have HR3 := Aside0.mk ho
  have HS3 := Aside0.mk hb.size
  clear ho
  replace HB := Aside0.mk (below_step HB.out hb)
  replace HC := Aside0.mk (Kd.C_below HC.out hb)
  replace HF := Aside0.mk (Kd.R_below HF.out hb)
  replace HR2 := Aside0.mk (Kd.R_below HR2.out hb)
  replace HS9 := Aside0.mk (Nat.le_trans HS9.out hb.size)
  clear hb
  go_wp2_with fail
  refine (frame_PutUint.calls _ cap l n P w3 (HCF.out _ HF.out) (by omega) H2.out).mono ?_
  rintro x w4 ⟨v4, rfl, ho, hb⟩
  have HQ3 := Aside0.mk (own_lt_R HR3.out)
  have HR4 := Aside0.mk ho
  have HS4 := Aside0.mk hb.size
  clear ho
  replace HB := Aside0.mk (below_step HB.out hb)
  replace HC := Aside0.mk (Kd.C_below HC.out hb)
  replace HF := Aside0.mk (Kd.R_below HF.out hb)
  replace HR2 := Aside0.mk (Kd.R_below HR2.out hb)
  replace HS9 := Aside0.mk (Nat.le_trans HS9.out hb.size)
  replace HR3 := Aside0.mk (Kd.R_below HR3.out hb)
  clear hb
  go_wp2_with fail
  refine (wicketref01_PutUint.calls k A c l n P w4 HC.out hc H4.out).mono ?_
  rintro x w5 ⟨v5, rfl, ho, hb⟩
  have HQ4 := Aside0.mk (own_lt_R HR4.out)
  have HR5 := Aside0.mk ho
  clear ho
  replace HB := Aside0.mk (below_step HB.out hb)
  replace HC := Aside0.mk (Kd.C_below HC.out hb)
  replace HF := Aside0.mk (Kd.R_below HF.out hb)
  replace HR2 := Aside0.mk (Kd.R_below HR2.out hb)
  replace HS9 := Aside0.mk (Nat.le_trans HS9.out hb.size)
  replace HR3 := Aside0.mk (Kd.R_below HR3.out hb)
  replace HR4 := Aside0.mk (Kd.R_below HR4.out hb)
  clear hb
  obtain ⟨A2, c2, hv2⟩ := Kd.R_slice HR2.out
  obtain ⟨A3, c3, hv3⟩ := Kd.R_slice HR3.out
  obtain ⟨A4, c4, hv4⟩ := Kd.R_slice HR4.out
  obtain ⟨A5, c5, hv5⟩ := Kd.R_slice HR5.out
  subst hv2 hv3 hv4 hv5
  go_wp2_with fail
  refine (wicketlaw01_same.calls A2 c2 P A5 c5 P true w5 (Kd.R_reads' HR2.out).2.2 (Kd.R_reads' HR2.out).2.1 (Kd.R_reads' HR5.out).2.2 (Kd.R_reads' HR5.out).2.1 H6.out).mono ?_
  rintro x w6 ⟨rfl, hd⟩
  have hb := drawn_below hd
  clear hd
  replace HB := Aside0.mk (below_step HB.out hb)
  replace HC := Aside0.mk (Kd.C_below HC.out hb)
  replace HF := Aside0.mk (Kd.R_below HF.out hb)
  replace HR2 := Aside0.mk (Kd.R_below HR2.out hb)
  replace HS9 := Aside0.mk (Nat.le_trans HS9.out hb.size)
  replace HR3 := Aside0.mk (Kd.R_below HR3.out hb)
  replace HR4 := Aside0.mk (Kd.R_below HR4.out hb)
  replace HR5 := Aside0.mk (Kd.R_below HR5.out hb)
  clear hb
  go_wp2_with fail
  refine (wicketref01_PutUint.calls k A c l _ Q w6 HC.out hc H5.out).mono ?_
  rintro x w7 ⟨v6, rfl, ho, hb⟩
  obtain ⟨A6, c6, hv6⟩ := Kd.R_slice ho
  subst hv6
  have HR6 := Aside0.mk ho
  clear ho
  replace HB := Aside0.mk (below_step HB.out hb)
  replace HC := Aside0.mk (Kd.C_below HC.out hb)
  replace HF := Aside0.mk (Kd.R_below HF.out hb)
  replace HR2 := Aside0.mk (Kd.R_below HR2.out hb)
  replace HS9 := Aside0.mk (Nat.le_trans HS9.out hb.size)
  replace HR3 := Aside0.mk (Kd.R_below HR3.out hb)
  replace HR4 := Aside0.mk (Kd.R_below HR4.out hb)
  replace HR5 := Aside0.mk (Kd.R_below HR5.out hb)
  clear hb
  go_wp2_with fail
  refine (wicketlaw01_same.calls A3 c3 Q A6 c6 Q true w7 (Kd.R_reads' HR3.out).2.2 (Kd.R_reads' HR3.out).2.1 (Kd.R_reads' HR6.out).2.2 (Kd.R_reads' HR6.out).2.1 H7.out).mono ?_
  rintro x w8 ⟨rfl, hd⟩
  have hb := drawn_below hd
  clear hd
  replace HB := Aside0.mk (below_step HB.out hb)
  replace HC := Aside0.mk (Kd.C_below HC.out hb)
  replace HF := Aside0.mk (Kd.R_below HF.out hb)
  replace HR2 := Aside0.mk (Kd.R_below HR2.out hb)
  replace HS9 := Aside0.mk (Nat.le_trans HS9.out hb.size)
  replace HR3 := Aside0.mk (Kd.R_below HR3.out hb)
  replace HR4 := Aside0.mk (Kd.R_below HR4.out hb)
  replace HR5 := Aside0.mk (Kd.R_below HR5.out hb)
  clear hb
  clear HR6
  go_wp2_with fail
  refine (wicketlaw01_same.calls A4 c4 P A5 c5 P true w8 (Kd.R_reads' HR4.out).2.2 (Kd.R_reads' HR4.out).2.1 (Kd.R_reads' HR5.out).2.2 (Kd.R_reads' HR5.out).2.1 H6.out).mono ?_
  rintro x w9 ⟨rfl, hd⟩
  have hb := drawn_below hd
  clear hd
  replace HB := Aside0.mk (below_step HB.out hb)
  replace HC := Aside0.mk (Kd.C_below HC.out hb)
  replace HF := Aside0.mk (Kd.R_below HF.out hb)
  replace HR2 := Aside0.mk (Kd.R_below HR2.out hb)
  replace HS9 := Aside0.mk (Nat.le_trans HS9.out hb.size)
  replace HR3 := Aside0.mk (Kd.R_below HR3.out hb)
  replace HR4 := Aside0.mk (Kd.R_below HR4.out hb)
  replace HR5 := Aside0.mk (Kd.R_below HR5.out hb)
  clear hb
  go_wp2_with fail
  refine (wicketlaw01_kept.calls k _ cap F A c l true w9 (Kd.R_reads' HF.out).2.2 hcap HC.out hc H8.out).mono ?_
  rintro x w10 ⟨rfl, hd⟩
  have hb := drawn_below hd
  clear hd
  replace HB := Aside0.mk (below_step HB.out hb)
  replace HC := Aside0.mk (Kd.C_below HC.out hb)
  replace HF := Aside0.mk (Kd.R_below HF.out hb)
  replace HR2 := Aside0.mk (Kd.R_below HR2.out hb)
  replace HS9 := Aside0.mk (Nat.le_trans HS9.out hb.size)
  replace HR3 := Aside0.mk (Kd.R_below HR3.out hb)
  replace HR4 := Aside0.mk (Kd.R_below HR4.out hb)
  replace HR5 := Aside0.mk (Kd.R_below HR5.out hb)
  clear hb
  go_wp2_with fail
  refine (frame_Uint.calls k _ cap l u v e w10 (HCF.out _ HF.out) (by omega) H9.out).mono ?_
  rintro x w11 ⟨rfl, hd⟩
  have hb := drawn_below hd
  clear hd
  replace HB := Aside0.mk (below_step HB.out hb)
  replace HC := Aside0.mk (Kd.C_below HC.out hb)
  replace HF := Aside0.mk (Kd.R_below HF.out hb)
  replace HR2 := Aside0.mk (Kd.R_below HR2.out hb)
  replace HS9 := Aside0.mk (Nat.le_trans HS9.out hb.size)
  replace HR3 := Aside0.mk (Kd.R_below HR3.out hb)
  replace HR4 := Aside0.mk (Kd.R_below HR4.out hb)
  replace HR5 := Aside0.mk (Kd.R_below HR5.out hb)
  clear hb
  go_wp2_with fail
  refine (wicketref01_Uint.calls k A c l u v e w11 HC.out hc H10.out).mono ?_
  rintro x w12 ⟨rfl, hd⟩
  have hb := drawn_below hd
  clear hd
  replace HB := Aside0.mk (below_step HB.out hb)
  replace HC := Aside0.mk (Kd.C_below HC.out hb)
  replace HF := Aside0.mk (Kd.R_below HF.out hb)
  replace HR2 := Aside0.mk (Kd.R_below HR2.out hb)
  replace HS9 := Aside0.mk (Nat.le_trans HS9.out hb.size)
  replace HR3 := Aside0.mk (Kd.R_below HR3.out hb)
  replace HR4 := Aside0.mk (Kd.R_below HR4.out hb)
  replace HR5 := Aside0.mk (Kd.R_below HR5.out hb)
  clear hb
  go_wp2_with fail
  refine (wicketlaw01_num.calls e e w12 H11.out).mono ?_
  rintro x w13 ⟨rfl, hd⟩
  have hb := drawn_below hd
  clear hd
  replace HB := Aside0.mk (below_step HB.out hb)
  replace HC := Aside0.mk (Kd.C_below HC.out hb)
  replace HF := Aside0.mk (Kd.R_below HF.out hb)
  replace HR2 := Aside0.mk (Kd.R_below HR2.out hb)
  replace HS9 := Aside0.mk (Nat.le_trans HS9.out hb.size)
  replace HR3 := Aside0.mk (Kd.R_below HR3.out hb)
  replace HR4 := Aside0.mk (Kd.R_below HR4.out hb)
  replace HR5 := Aside0.mk (Kd.R_below HR5.out hb)
  clear hb
  go_wp2_with fail
  refine (wicketlaw01_kept.calls k _ cap F A c l true w13 (Kd.R_reads' HF.out).2.2 hcap HC.out hc H8.out).mono ?_
  rintro x w14 ⟨rfl, hd⟩
  have hb := drawn_below hd
  clear hd
  replace HB := Aside0.mk (below_step HB.out hb)
  replace HC := Aside0.mk (Kd.C_below HC.out hb)
  replace HF := Aside0.mk (Kd.R_below HF.out hb)
  replace HR2 := Aside0.mk (Kd.R_below HR2.out hb)
  replace HS9 := Aside0.mk (Nat.le_trans HS9.out hb.size)
  replace HR3 := Aside0.mk (Kd.R_below HR3.out hb)
  replace HR4 := Aside0.mk (Kd.R_below HR4.out hb)
  replace HR5 := Aside0.mk (Kd.R_below HR5.out hb)
  clear hb
  go_wp2_with fail
  have q2 := HQ2.out
  have q3 := HQ3.out
  have q4 := HQ4.out
  have hs2 := HS2.out
  have hs3 := HS3.out
  have hs4 := HS4.out
  have hBw : ∀ b, Blk [(A2, P.length, c2), (A3, Q.length, c3), (A4, P.length, c4)] b → w1.heap.size ≤ b ∧ b < w4.heap.size := fun b hb => by
    rcases blk_three hb with h | h | h
    · have := q2 b h; omega
    · have := q3 b h; omega
    · have := q4 b h; omega
  refine (alone_lit [(A2, P.length, c2), (A3, Q.length, c3), (A4, P.length, c4)] w1.heap.size w14 HS9.out (rows_three HR2.out (Kd.R_lower HR3.out hs2) (Kd.R_lower HR4.out (Nat.le_trans hs2 hs3))) (pair_three (fun b h1 h2 => by have := q2 b h1; have := q3 b h2; omega) (fun b h1 h2 => by have := q2 b h1; have := q4 b h2; omega) (fun b h1 h2 => by have := q3 b h1; have := q4 b h2; omega)) (by simp) (nk_all (r := Sl0) _ (by simp; omega))).mono ?_
  rintro x w15 ⟨rfl, hk⟩
  replace HB := Aside0.mk (HB.out.trans (hk.below HB.out.size (fun b hb => by have := hBw b hb; omega)))
  replace HC := Aside0.mk (Kd.C_below HC0.out HB.out)
  replace HF := Aside0.mk (RB_kept HF.out hk (fun b e hb => by have h1 := hBw b hb; have : g = b := Option.some.inj e; omega))
  have q5 := own_lt_R HR5.out
  replace HR5 := Aside0.mk (RB_kept HR5.out hk (fun b e hb => by have h1 := hBw b hb; have := q5 b e; omega))
  clear hk q2 q3 q4 q5 hBw hs2 hs3 hs4 HR2 HR3 HR4
  go_wp2_with fail
  refine (wicketlaw01_kept.calls k _ cap F A c l true w15 (Kd.R_reads' HF.out).2.2 hcap HC.out hc H8.out).mono ?_
  rintro x w16 ⟨rfl, hd⟩
  have hb := drawn_below hd
  clear hd
  replace HB := Aside0.mk (below_step HB.out hb)
  replace HC := Aside0.mk (Kd.C_below HC.out hb)
  replace HF := Aside0.mk (Kd.R_below HF.out hb)
  replace HR5 := Aside0.mk (Kd.R_below HR5.out hb)
  clear hb
  go_wp2_with fail
  refine (frame_PutUint.calls A c l n P w16 HC.out hc H2.out).mono ?_
  rintro x w17 ⟨v7, rfl, ho, hb⟩
  obtain ⟨A7, c7, hv7⟩ := Kd.R_slice ho
  subst hv7
  have HR7 := Aside0.mk ho
  clear ho
  replace HB := Aside0.mk (below_step HB.out hb)
  replace HC := Aside0.mk (Kd.C_below HC.out hb)
  replace HF := Aside0.mk (Kd.R_below HF.out hb)
  replace HR5 := Aside0.mk (Kd.R_below HR5.out hb)
  clear hb
  go_wp2_with fail
  refine (wicketlaw01_same.calls A7 c7 P A5 c5 P true w17 (Kd.R_reads' HR7.out).2.2 (Kd.R_reads' HR7.out).2.1 (Kd.R_reads' HR5.out).2.2 (Kd.R_reads' HR5.out).2.1 H6.out).mono ?_
  rintro x w18 ⟨rfl, hd⟩
  have hb := drawn_below hd
  clear hd
  replace HB := Aside0.mk (below_step HB.out hb)
  replace HC := Aside0.mk (Kd.C_below HC.out hb)
  replace HF := Aside0.mk (Kd.R_below HF.out hb)
  replace HR5 := Aside0.mk (Kd.R_below HR5.out hb)
  replace HR7 := Aside0.mk (Kd.R_below HR7.out hb)
  clear hb
  go_wp2_with fail
  go_ret
  exact ⟨rfl, HB.out⟩
end Go.Proofs.Ytdlfhpkkkhfhdaa.Hand
