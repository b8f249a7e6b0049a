/- law01's FrameScans: the walk, on the one road it takes. -/
import Derived.Test.YtdlfhpkkkhfhdaaDoorQx
import Derived.Test.YtdlfhpkkkhfhdaaDoorHLive
import Derived.Test.YtdlfhpkkkhfhdaaDoorHAlone
import Derived.Test.YtdlfhpkkkhfhdaaDoorHLoads
import Derived.Deep.DeepCutAuto
import Derived.Outline
namespace Go.Proofs.YtdlfhpkkkhfhdaaDoor.Hand
open Go.RowKit Go.Proofs.YtdlfhpkkkhfhdaaDoorW.PrintWords Go.Proofs.YtdlfhpkkkhfhdaaDoorW.PrintLast Go.Proofs.YtdlfhpkkkhfhdaaDoorW.PrintMore Go.Proofs.YtdlfhpkkkhfhdaaDoor.Q
set_option linter.unusedVariables false

set_option maxHeartbeats 1000000 in
set_option maxRecDepth 100000 in
theorem wicketlaw01_FrameScans.walk (k : Nat) (A : Option Addr) (c : Nat) (l F : List Int) (X : List S40) (Y : List S44) (n e : Int) (w : World) (hT : Tb w) (hr : Kd.C (Kd.int .u8) w A l.length l) (hc : l.length ≤ c)
    (h1 : wicketlaw01_lent.f k l = some F) (hF : F.take l.length = l) (hF2 : l.length < F.length) (h2 : frame_Scan.f k l = some (X, n, e)) (h3 : wicketref01_Scan.f k l = some (Y, n, e)) (h5 : wicketlaw01_frames.f k X Y = some true)
    (h4 : wicketlaw01_num.f e = some e) (h6 : wicketlaw01_kept.f k F l = some true) (h7 : ∀ j, j < X.length → (X.getD j z40).f1.length ≤ 140737488355000) (hXY : X.length = Y.length) (h8 : wicketlaw01_live.f = some true) :
    Calls Tryd.prog 8 #[.slice A l.length c] w fun e w' => e = .returned (.bool true) ∧ Below w.heap.size w w' := by
  have HB := Aside0.mk (Below.refl w.heap.size w)
  have HC := Aside0.mk hr
  have HT := Aside0.mk hT
  have H1 := Aside0.mk h1
  have H2 := Aside0.mk h2
  have H3 := Aside0.mk h3
  have H4 := Aside0.mk h4
  have H5 := Aside0.mk h5
  have H6 := Aside0.mk h6
  have H7 := Aside0.mk h7
  have H8 := Aside0.mk h8
  have HXY := Aside0.mk hXY
  have HFT := Aside0.mk hF
  have HC0 := Aside0.mk hr
  have HT0 := Aside0.mk hT
  clear hr hT h1 h2 h3 h4 h5 h6 h7 h8 hF hXY
  go_enter Tryd.func8, Tryd.ntmps8
  go_wp2_with fail
  refine (wicketlaw01_lent.calls k A c l F w HC.out hc H1.out).mono ?_
  rintro x w1 ⟨v1, rfl, ho, hb⟩
  obtain ⟨g, cap, hv, hg0, hg1, _⟩ := Kd.R_form ho (by omega)
  subst hv
  have hcap := (Kd.R_reads' ho).2.1
  have hcut := cut_own (some ⟨g, 0, none⟩) F.length cap l.length (by omega) hcap
  have HF := Aside0.mk ho
  clear ho
  replace HB := Aside0.mk (below_step HB.out hb)
  replace HC := Aside0.mk (Kd.C_below HC.out hb)
  replace HT := Aside0.mk (HT.out.below hb)
  clear hb
  have hCF : ∀ W, Kd.R (Kd.int .u8) 5 W w.heap.size (fun _ => True) (.slice (some ⟨g, 0, none⟩) F.length cap) F → Kd.C (Kd.int .u8) W (some ⟨g, 0, none⟩) l.length l := fun W h => by
    have h := Kd.C_take (m := l.length) (Kd.R_reads' h).2.2 (by omega)
    rwa [HFT.out] at h
  have HCF := Aside0.mk hCF
  clear hCF
  go_wp2_with fail
  refine (frame_Scan.calls k _ cap l X n e w1 HT.out (HCF.out _ HF.out) (by omega) H2.out).mono ?_
  rintro x w2 ⟨v2, rfl, ho, hb⟩
  have HR2 := Aside0.mk (Kd.S_mono (ok' := fun k => w1.heap.size ≤ k ∧ k < w2.heap.size) (Kd.S_bound ho) (fun k hk => ⟨hk.2.1, hk.2.2.1⟩))
  have HS2 := Aside0.mk hb.size
  have HS9 := Aside0.mk hb.size
  clear ho
  replace HB := Aside0.mk (below_step HB.out hb)
  replace HC := Aside0.mk (Kd.C_below HC.out hb)
  replace HT := Aside0.mk (HT.out.below hb)
  replace HF := Aside0.mk (Kd.R_below HF.out hb)
  clear hb
  go_wp2_with fail
  refine (frame_Scan.calls k _ cap l X n e w2 HT.out (HCF.out _ HF.out) (by omega) H2.out).mono ?_
  rintro x w3 ⟨v3, rfl, ho, hb⟩
  have HR3 := Aside0.mk (Kd.S_mono (ok' := fun k => w2.heap.size ≤ k ∧ k < w3.heap.size) (Kd.S_bound ho) (fun k hk => ⟨hk.2.1, hk.2.2.1⟩))
  have HS3 := Aside0.mk hb.size
  clear ho
  replace HB := Aside0.mk (below_step HB.out hb)
  replace HC := Aside0.mk (Kd.C_below HC.out hb)
  replace HT := Aside0.mk (HT.out.below hb)
  replace HF := Aside0.mk (Kd.R_below HF.out hb)
  replace HR2 := Aside0.mk (Kd.S_below HR2.out hb)
  replace HS9 := Aside0.mk (Nat.le_trans HS9.out hb.size)
  clear hb
  go_wp2_with fail
  refine (wicketref01_Scan.calls k A c l Y n e w3 HC.out hc H3.out).mono ?_
  rintro x w4 ⟨v4, rfl, ho, hb⟩
  have HR4 := Aside0.mk (Kd.S_mono (ok' := fun k => w3.heap.size ≤ k) (Kd.S_bound ho) (fun k hk => hk.2.1))
  clear ho
  replace HB := Aside0.mk (below_step HB.out hb)
  replace HC := Aside0.mk (Kd.C_below HC.out hb)
  replace HT := Aside0.mk (HT.out.below hb)
  replace HF := Aside0.mk (Kd.R_below HF.out hb)
  replace HR2 := Aside0.mk (Kd.S_below HR2.out hb)
  replace HS9 := Aside0.mk (Nat.le_trans HS9.out hb.size)
  replace HR3 := Aside0.mk (Kd.S_below HR3.out hb)
  clear hb
  obtain ⟨A2, c2, hv2⟩ := Kd.S_slice HR2.out
  obtain ⟨A3, c3, hv3⟩ := Kd.S_slice HR3.out
  obtain ⟨A4, c4, hv4⟩ := Kd.S_slice HR4.out
  subst hv2 hv3 hv4
  go_wp2_with fail
  refine (wicketlaw01_num.calls e e w4 H4.out).mono ?_
  rintro x w5 ⟨rfl, hd⟩
  have hb := drawn_below hd
  clear hd
  replace HB := Aside0.mk (below_step HB.out hb)
  replace HC := Aside0.mk (Kd.C_below HC.out hb)
  replace HT := Aside0.mk (HT.out.below hb)
  replace HF := Aside0.mk (Kd.R_below HF.out hb)
  replace HR2 := Aside0.mk (Kd.S_below HR2.out hb)
  replace HS9 := Aside0.mk (Nat.le_trans HS9.out hb.size)
  replace HR3 := Aside0.mk (Kd.S_below HR3.out hb)
  replace HR4 := Aside0.mk (Kd.S_below HR4.out hb)
  clear hb
  go_wp2_with fail
  refine (wicketlaw01_num.calls e e w5 H4.out).mono ?_
  rintro x w6 ⟨rfl, hd⟩
  have hb := drawn_below hd
  clear hd
  replace HB := Aside0.mk (below_step HB.out hb)
  replace HC := Aside0.mk (Kd.C_below HC.out hb)
  replace HT := Aside0.mk (HT.out.below hb)
  replace HF := Aside0.mk (Kd.R_below HF.out hb)
  replace HR2 := Aside0.mk (Kd.S_below HR2.out hb)
  replace HS9 := Aside0.mk (Nat.le_trans HS9.out hb.size)
  replace HR3 := Aside0.mk (Kd.S_below HR3.out hb)
  replace HR4 := Aside0.mk (Kd.S_below HR4.out hb)
  clear hb
  go_wp2_with fail
  refine (wicketlaw01_frames.calls k A2 c2 X A4 c4 Y true w6 (Kd.S_reads' HR2.out).2.2 (Kd.S_reads' HR2.out).2.1 (Kd.S_reads' HR4.out).2.2 (Kd.S_reads' HR4.out).2.1 H5.out).mono ?_
  rintro x w7 ⟨rfl, hd⟩
  have hb := drawn_below hd
  clear hd
  replace HB := Aside0.mk (below_step HB.out hb)
  replace HC := Aside0.mk (Kd.C_below HC.out hb)
  replace HT := Aside0.mk (HT.out.below hb)
  replace HF := Aside0.mk (Kd.R_below HF.out hb)
  replace HR2 := Aside0.mk (Kd.S_below HR2.out hb)
  replace HS9 := Aside0.mk (Nat.le_trans HS9.out hb.size)
  replace HR3 := Aside0.mk (Kd.S_below HR3.out hb)
  replace HR4 := Aside0.mk (Kd.S_below HR4.out hb)
  clear hb
  go_wp2_with fail
  refine (wicketlaw01_frames.calls k A3 c3 X A4 c4 Y true w7 (Kd.S_reads' HR3.out).2.2 (Kd.S_reads' HR3.out).2.1 (Kd.S_reads' HR4.out).2.2 (Kd.S_reads' HR4.out).2.1 H5.out).mono ?_
  rintro x w8 ⟨rfl, hd⟩
  have hb := drawn_below hd
  clear hd
  replace HB := Aside0.mk (below_step HB.out hb)
  replace HC := Aside0.mk (Kd.C_below HC.out hb)
  replace HT := Aside0.mk (HT.out.below hb)
  replace HF := Aside0.mk (Kd.R_below HF.out hb)
  replace HR2 := Aside0.mk (Kd.S_below HR2.out hb)
  replace HS9 := Aside0.mk (Nat.le_trans HS9.out hb.size)
  replace HR3 := Aside0.mk (Kd.S_below HR3.out hb)
  replace HR4 := Aside0.mk (Kd.S_below HR4.out hb)
  clear hb
  go_wp2_with fail
  refine (wicketlaw01_kept.calls k _ cap F A c l true w8 (Kd.R_reads' HF.out).2.2 hcap HC.out hc H6.out).mono ?_
  rintro x w9 ⟨rfl, hd⟩
  have hb := drawn_below hd
  clear hd
  replace HB := Aside0.mk (below_step HB.out hb)
  replace HC := Aside0.mk (Kd.C_below HC.out hb)
  replace HT := Aside0.mk (HT.out.below hb)
  replace HF := Aside0.mk (Kd.R_below HF.out hb)
  replace HR2 := Aside0.mk (Kd.S_below HR2.out hb)
  replace HS9 := Aside0.mk (Nat.le_trans HS9.out hb.size)
  replace HR3 := Aside0.mk (Kd.S_below HR3.out hb)
  replace HR4 := Aside0.mk (Kd.S_below HR4.out hb)
  clear hb
  go_upto_region 7 with (fail)
  go_cut [89] (fun v89 wc => v89 = .bool false ∧ Aside0 (Below w.heap.size w wc) ∧ Aside0 (RB wc w.heap.size (.slice (some ⟨g, 0, none⟩) F.length cap) F) ∧ Aside0 (Kd.S k44 44 wc w3.heap.size (fun k => w3.heap.size ≤ k) (.slice A4 Y.length c4) Y))
  case first =>
    by_cases hlt : Y.length < 100
    · have hxl : X.length = Y.length := HXY.out
      obtain ⟨rs2, hl2, hr2, hp2, hb2, A2', c2', hv2', hE2⟩ := S_rows HR2.out
      obtain ⟨rs3, hl3, hr3, hp3, hb3, A3', c3', hv3', hE3⟩ := S_rows HR3.out
      injection hv2' with e1 _ e2
      injection hv3' with e3 _ e4
      subst e1 e2 e3 e4
      have hcall := wicketlaw01_loads.calls A2 A3 c2 c3 rs2 rs3 w9 hE2 hE3 (by omega) (by omega)
      rw [hl2, hl3] at hcall
      have hs2 := HS2.out
      have hs3 := HS3.out
      obtain ⟨NN, hNN⟩ : ∃ NN, NN = (rs2 ++ rs3).length := ⟨_, rfl⟩
      have HAL := fun (v : Value) (W : World) (hG : Gath w9 (rs2 ++ rs3) v W) => alone_loads (B := w1.heap.size) HS9.out hG (fun k hk => ⟨_, hr2 k hk⟩) (fun k hk => ⟨_, Kd.R_lower (hr3 k hk) hs2⟩) hp2 hp3 (fun b h1 h2 => by have := hb2 b h1; have := hb3 b h2; omega) (by omega)
        (fun k hk => by have h := RB_len (hr2 k hk); have h9 := H7.out k (by omega); unfold nk; omega) (fun k hk => by have h := RB_len (hr3 k hk); have h9 := H7.out k (by omega); unfold nk; omega) NN hNN.symm
      have hBl : ∀ b, Blk (rs2 ++ rs3) b → w1.heap.size ≤ b ∧ b < w3.heap.size := fun b hb => by
        rcases blk_append hb with h | h
        · have := hb2 b h; omega
        · have := hb3 b h; omega
      have HAL' := Aside0.mk HAL
      have HCL := Aside0.mk hcall
      have HBl := Aside0.mk hBl
      have hlt2 : (Y.length : Int) < 100 := by omega
      clear hNN
      clear HAL hcall hBl hl2 hr2 hp2 hb2 hE2 hl3 hr3 hp3 hb3 hE3 hs2 hs3 hxl hlt
      go_wp2_with fail
      refine HCL.out.mono ?_
      rintro x w10 ⟨v, rfl, hG⟩
      obtain ⟨LA, Lc, hv, hal⟩ := HAL'.out _ _ hG
      subst hv
      have hb := hG.below
      replace HB := Aside0.mk (below_step HB.out hb)
      replace HF := Aside0.mk (Kd.R_below HF.out hb)
      replace HR4 := Aside0.mk (Kd.S_below HR4.out hb)
      have HAL2 := Aside0.mk hal
      clear hG hal hb HAL' HCL HR2 HR3
      go_wp2_with fail
      refine HAL2.out.mono ?_
      rintro x w11 ⟨rfl, hk⟩
      have hBl := HBl.out
      replace HB := Aside0.mk (HB.out.trans (hk.below HB.out.size (fun b hb => by have := hBl b hb; omega)))
      replace HF := Aside0.mk (RB_kept HF.out hk (fun b e hb => by have h1 := hBl b hb; have : g = b := Option.some.inj e; omega))
      replace HR4 := Aside0.mk (Kd.S_step HR4.out (fun b hb hlt => hk.block b hlt (fun hs => by have := hBl b hs; omega)))
      clear hk hBl HAL2 HBl
      go_wp2_with fail
      go_meet
      case rel => exact ⟨rfl, HB, HF, HR4⟩
    · have hlt2 : ¬ (Y.length : Int) < 100 := by omega
      clear hlt
      go_wp2_with fail
      go_meet
      case rel => exact ⟨rfl, HB, HF, HR4⟩
  case rest =>
    clear HB HF HR4 HR2 HR3 HC HT HS9
    obtain ⟨rfl, HB, HF, HR4⟩ := hcut
    have HC := Aside0.mk (Kd.C_below HC0.out HB.out)
    have HT := Aside0.mk (HT0.out.below HB.out)
    go_wp2_with fail
    refine (frame_Scan.calls k _ cap l X n e _ HT.out (HCF.out _ HF.out) (by omega) H2.out).mono ?_
    rintro x w12 ⟨v5, rfl, ho, hb⟩
    obtain ⟨A5, c5, hv5⟩ := Kd.S_slice ho
    subst hv5
    have HR5 := Aside0.mk ho
    clear ho
    replace HB := Aside0.mk (below_step HB.out hb)
    replace HC := Aside0.mk (Kd.C_below HC.out hb)
    replace HT := Aside0.mk (HT.out.below hb)
    replace HF := Aside0.mk (Kd.R_below HF.out hb)
    replace HR4 := Aside0.mk (Kd.S_below HR4.out hb)
    clear hb
    go_wp2_with fail
    refine (wicketlaw01_kept.calls k _ cap F A c l true w12 (Kd.R_reads' HF.out).2.2 hcap HC.out hc H6.out).mono ?_
    rintro x w13 ⟨rfl, hd⟩
    have hb := drawn_below hd
    clear hd
    replace HB := Aside0.mk (below_step HB.out hb)
    replace HC := Aside0.mk (Kd.C_below HC.out hb)
    replace HT := Aside0.mk (HT.out.below hb)
    replace HF := Aside0.mk (Kd.R_below HF.out hb)
    replace HR4 := Aside0.mk (Kd.S_below HR4.out hb)
    replace HR5 := Aside0.mk (Kd.S_below HR5.out hb)
    clear hb
    go_wp2_with fail
    refine (wicketlaw01_num.calls e e w13 H4.out).mono ?_
    rintro x w14 ⟨rfl, hd⟩
    have hb := drawn_below hd
    clear hd
    replace HB := Aside0.mk (below_step HB.out hb)
    replace HC := Aside0.mk (Kd.C_below HC.out hb)
    replace HT := Aside0.mk (HT.out.below hb)
    replace HF := Aside0.mk (Kd.R_below HF.out hb)
    replace HR4 := Aside0.mk (Kd.S_below HR4.out hb)
    replace HR5 := Aside0.mk (Kd.S_below HR5.out hb)
    clear hb
    go_wp2_with fail
    refine (wicketlaw01_frames.calls k A5 c5 X A4 c4 Y true w14 (Kd.S_reads' HR5.out).2.2 (Kd.S_reads' HR5.out).2.1 (Kd.S_reads' HR4.out).2.2 (Kd.S_reads' HR4.out).2.1 H5.out).mono ?_
    rintro x w15 ⟨rfl, hd⟩
    have hb := drawn_below hd
    clear hd
    replace HB := Aside0.mk (below_step HB.out hb)
    replace HC := Aside0.mk (Kd.C_below HC.out hb)
    replace HT := Aside0.mk (HT.out.below hb)
    replace HF := Aside0.mk (Kd.R_below HF.out hb)
    replace HR4 := Aside0.mk (Kd.S_below HR4.out hb)
    replace HR5 := Aside0.mk (Kd.S_below HR5.out hb)
    clear hb
    go_wp2_with fail
    refine (wicketlaw01_live.calls true w15 HT.out H8.out).mono ?_
    rintro x w16 ⟨rfl, hb⟩
    replace HB := Aside0.mk (below_step HB.out hb)
    replace HC := Aside0.mk (Kd.C_below HC.out hb)
    replace HT := Aside0.mk (HT.out.below hb)
    replace HF := Aside0.mk (Kd.R_below HF.out hb)
    replace HR4 := Aside0.mk (Kd.S_below HR4.out hb)
    replace HR5 := Aside0.mk (Kd.S_below HR5.out hb)
    clear hb
    go_wp2_with fail
    go_ret
    exact ⟨rfl, HB.out⟩
end Go.Proofs.YtdlfhpkkkhfhdaaDoor.Hand
