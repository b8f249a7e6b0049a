/- law01's FrameOpens: the walk, on the one road it takes. -/
import Derived.Test.YtdlfhpkkkhfhdaaDoorQx
import Derived.Test.YtdlfhpkkkhfhdaaDoorHLive
import Derived.Test.YtdlfhpkkkhfhdaaDoorHAlone
import Derived.Outline
namespace Go.Proofs.YtdlfhpkkkhfhdaaDoor.Hand
open Go.RowKit Go.Proofs.YtdlfhpkkkhfhdaaDoorW.PrintWords Go.Proofs.YtdlfhpkkkhfhdaaDoorW.PrintLast Go.Proofs.YtdlfhpkkkhfhdaaDoorW.PrintMore Go.Proofs.YtdlfhpkkkhfhdaaDoor.Q
set_option linter.unusedVariables false

theorem alloc_size (w : World) (o : Obj) : (w.alloc o).heap.size = w.heap.size + 1 := by simp
/-- A box of two cells. -/
structure Box (w : World) (b : Nat) (x y : Value) : Prop where
  lt : b < w.heap.size
  c0 : w.cell? ⟨b, 0, none⟩ = some x
  c1 : w.cell? ⟨b, 1, none⟩ = some y
theorem Box.below {w w' : World} {b : Nat} {x y : Value} (h : Box w b x y) (hb : Below w.heap.size w w') : Box w' b x y := ⟨Nat.lt_of_lt_of_le h.lt hb.size, pw_cell_below hb h.c0, pw_cell_below hb h.c1⟩
theorem Box.new2 (w : World) (x y : Value) (t : TypeId) : Box (w.alloc (.cells #[x, y] t)) w.heap.size x y := ⟨by simp, (World.cell?_alloc_mark w #[x, y] t (0, 0) 0).trans rfl, (World.cell?_alloc_mark w #[x, y] t (0, 0) 1).trans rfl⟩
theorem Box.new3 (w : World) (x y z : Value) (t : TypeId) : Box (w.alloc (.cells #[x, y, z] t)) w.heap.size x y := ⟨by simp, (World.cell?_alloc_mark w #[x, y, z] t (0, 0) 0).trans rfl, (World.cell?_alloc_mark w #[x, y, z] t (0, 0) 1).trans rfl⟩
theorem below_new (w : World) (o : Obj) : Below w.heap.size w (w.alloc o) := below_alloc (Below.refl _ _) o

set_option maxHeartbeats 1000000 in
theorem wicketlaw01_FrameOpens.walk (k : Nat) (A : Option Addr) (c : Nat) (l F P : List Int) (kd at0 n e : Int) (w : World) (hT : Tb w) (hr : Kd.C (Kd.int .u8) w A l.length l) (hc : l.length ≤ c)
    (h1 : wicketlaw01_lent.f k l = some F) (hF : F.take l.length = l) (hF2 : l.length < F.length) (h2 : frame_Open.f l = some (kd, P, n, e)) (h3 : wicketref01_Open.f k l = some (kd, P, at0, n, e))
    (h4 : wicketlaw01_num.f e = some e) (h5 : wicketlaw01_same.f P P = some true) (h6 : wicketlaw01_kept.f k F l = some true) (h7 : P.length ≤ 140737488355000) (h8 : wicketlaw01_live.f = some true) :
    Calls Tryd.prog 6 #[.slice A l.length c] w fun e w' => e = .returned (.bool true) ∧ Below w.heap.size w w' := by
  have HB := Aside0.mk (Below.refl w.heap.size w)
  have HC := Aside0.mk hr
  have HT := Aside0.mk hT
  have H1 := Aside0.mk h1
  have H2 := Aside0.mk h2
  have H3 := Aside0.mk h3
  have H4 := Aside0.mk h4
  have H5 := Aside0.mk h5
  have H6 := Aside0.mk h6
  have H8 := Aside0.mk h8
  have HFT := Aside0.mk hF
  have HC0 := Aside0.mk hr
  have HT0 := Aside0.mk hT
  clear hr hT h1 h2 h3 h4 h5 h6 h8 hF
  go_enter Tryd.func6, Tryd.ntmps6
  go_wp2_with fail
  refine (wicketlaw01_lent.calls k A c l F w HC.out hc H1.out).mono ?_
  rintro x w1 ⟨v1, rfl, ho, hb⟩
  obtain ⟨g, cap, hv, hg0, hg1, _⟩ := Kd.R_form ho (by omega)
  subst hv
  have hcap := (Kd.R_reads' ho).2.1
  have hcut := cut_own (some ⟨g, 0, none⟩) F.length cap l.length (by omega) hcap
  have HF := Aside0.mk ho
  clear ho
  replace HB := Aside0.mk (below_step HB.out hb)
  replace HC := Aside0.mk (Kd.C_below HC.out hb)
  replace HT := Aside0.mk (HT.out.below hb)
  clear hb
  have hCF : ∀ W, Kd.R (Kd.int .u8) 5 W w.heap.size (fun _ => True) (.slice (some ⟨g, 0, none⟩) F.length cap) F → Kd.C (Kd.int .u8) W (some ⟨g, 0, none⟩) l.length l := fun W h => by
    have h := Kd.C_take (m := l.length) (Kd.R_reads' h).2.2 (by omega)
    rwa [HFT.out] at h
  have HCF := Aside0.mk hCF
  clear hCF
  go_wp2_with fail
  refine (frame_Open.calls _ cap l kd P n e w1 HT.out (HCF.out _ HF.out) (by omega) H2.out).mono ?_
  rintro x w2 ⟨v2, rfl, ho, hb⟩
  obtain ⟨A2, c2, hv2⟩ := Kd.R_slice ho
  subst hv2
  have HR2 := Aside0.mk ho
  have HQ2 := Aside0.mk (own_lt_R ho)
  have HS2 := Aside0.mk hb.size
  have HS9 := Aside0.mk hb.size
  clear ho
  replace HB := Aside0.mk (below_step HB.out hb)
  replace HC := Aside0.mk (Kd.C_below HC.out hb)
  replace HT := Aside0.mk (HT.out.below hb)
  replace HF := Aside0.mk (Kd.R_below HF.out hb)
  clear hb
  go_wp2_with fail
  have hb := below_new w2 (.cells #[.int .u8 kd, .slice A2 P.length c2] 40)
  have HX := Aside0.mk (Box.new2 w2 (.int .u8 kd) (.slice A2 P.length c2) 40)
  replace HB := Aside0.mk (below_step HB.out hb)
  replace HC := Aside0.mk (Kd.C_below HC.out hb)
  replace HT := Aside0.mk (HT.out.below hb)
  replace HF := Aside0.mk (Kd.R_below HF.out hb)
  replace HR2 := Aside0.mk (Kd.R_below HR2.out hb)
  replace HS9 := Aside0.mk (Nat.le_trans HS9.out hb.size)
  clear hb
  refine (frame_Open.calls _ cap l kd P n e _ HT.out (HCF.out _ HF.out) (by omega) H2.out).mono ?_
  rintro x w3 ⟨v3, rfl, ho, hb⟩
  obtain ⟨A3, c3, hv3⟩ := Kd.R_slice ho
  subst hv3
  have HR3 := Aside0.mk ho
  have HQ3 := Aside0.mk (own_lt_R ho)
  have HS3 := Aside0.mk hb.size
  clear ho
  replace HB := Aside0.mk (below_step HB.out hb)
  replace HC := Aside0.mk (Kd.C_below HC.out hb)
  replace HT := Aside0.mk (HT.out.below hb)
  replace HF := Aside0.mk (Kd.R_below HF.out hb)
  replace HR2 := Aside0.mk (Kd.R_below HR2.out hb)
  replace HS9 := Aside0.mk (Nat.le_trans HS9.out hb.size)
  replace HX := Aside0.mk (HX.out.below hb)
  clear hb
  go_wp2_with fail
  have hb := below_new w3 (.cells #[.int .u8 kd, .slice A3 P.length c3] 40)
  have HY := Aside0.mk (Box.new2 w3 (.int .u8 kd) (.slice A3 P.length c3) 40)
  replace HB := Aside0.mk (below_step HB.out hb)
  replace HC := Aside0.mk (Kd.C_below HC.out hb)
  replace HT := Aside0.mk (HT.out.below hb)
  replace HF := Aside0.mk (Kd.R_below HF.out hb)
  replace HR2 := Aside0.mk (Kd.R_below HR2.out hb)
  replace HS9 := Aside0.mk (Nat.le_trans HS9.out hb.size)
  replace HX := Aside0.mk (HX.out.below hb)
  replace HR3 := Aside0.mk (Kd.R_below HR3.out hb)
  clear hb
  refine (wicketref01_Open.calls k A c l kd P at0 n e _ HC.out hc H3.out).mono ?_
  rintro x w4 ⟨v4, rfl, ho, hb⟩
  obtain ⟨A4, c4, hv4⟩ := Kd.R_slice ho
  subst hv4
  have HR4 := Aside0.mk ho
  clear ho
  replace HB := Aside0.mk (below_step HB.out hb)
  replace HC := Aside0.mk (Kd.C_below HC.out hb)
  replace HT := Aside0.mk (HT.out.below hb)
  replace HF := Aside0.mk (Kd.R_below HF.out hb)
  replace HR2 := Aside0.mk (Kd.R_below HR2.out hb)
  replace HS9 := Aside0.mk (Nat.le_trans HS9.out hb.size)
  replace HX := Aside0.mk (HX.out.below hb)
  replace HR3 := Aside0.mk (Kd.R_below HR3.out hb)
  replace HY := Aside0.mk (HY.out.below hb)
  clear hb
  go_wp2_with fail
  have hb := below_new w4 (.cells #[.int .u8 kd, .slice A4 P.length c4, .int .i64 at0] 44)
  have HZ := Aside0.mk (Box.new3 w4 (.int .u8 kd) (.slice A4 P.length c4) (.int .i64 at0) 44)
  replace HB := Aside0.mk (below_step HB.out hb)
  replace HC := Aside0.mk (Kd.C_below HC.out hb)
  replace HT := Aside0.mk (HT.out.below hb)
  replace HF := Aside0.mk (Kd.R_below HF.out hb)
  replace HR2 := Aside0.mk (Kd.R_below HR2.out hb)
  replace HS9 := Aside0.mk (Nat.le_trans HS9.out hb.size)
  replace HX := Aside0.mk (HX.out.below hb)
  replace HR3 := Aside0.mk (Kd.R_below HR3.out hb)
  replace HY := Aside0.mk (HY.out.below hb)
  replace HR4 := Aside0.mk (Kd.R_below HR4.out hb)
  clear hb
  refine (wicketlaw01_num.calls e e _ H4.out).mono ?_
  rintro x w5 ⟨rfl, hd⟩
  have hb := drawn_below hd
  clear hd
  replace HB := Aside0.mk (below_step HB.out hb)
  replace HC := Aside0.mk (Kd.C_below HC.out hb)
  replace HT := Aside0.mk (HT.out.below hb)
  replace HF := Aside0.mk (Kd.R_below HF.out hb)
  replace HR2 := Aside0.mk (Kd.R_below HR2.out hb)
  replace HS9 := Aside0.mk (Nat.le_trans HS9.out hb.size)
  replace HX := Aside0.mk (HX.out.below hb)
  replace HR3 := Aside0.mk (Kd.R_below HR3.out hb)
  replace HY := Aside0.mk (HY.out.below hb)
  replace HR4 := Aside0.mk (Kd.R_below HR4.out hb)
  replace HZ := Aside0.mk (HZ.out.below hb)
  clear hb
  go_wp2_with fail
  refine (wicketlaw01_num.calls e e w5 H4.out).mono ?_
  rintro x w6 ⟨rfl, hd⟩
  have hb := drawn_below hd
  clear hd
  replace HB := Aside0.mk (below_step HB.out hb)
  replace HC := Aside0.mk (Kd.C_below HC.out hb)
  replace HT := Aside0.mk (HT.out.below hb)
  replace HF := Aside0.mk (Kd.R_below HF.out hb)
  replace HR2 := Aside0.mk (Kd.R_below HR2.out hb)
  replace HS9 := Aside0.mk (Nat.le_trans HS9.out hb.size)
  replace HX := Aside0.mk (HX.out.below hb)
  replace HR3 := Aside0.mk (Kd.R_below HR3.out hb)
  replace HY := Aside0.mk (HY.out.below hb)
  replace HR4 := Aside0.mk (Kd.R_below HR4.out hb)
  replace HZ := Aside0.mk (HZ.out.below hb)
  clear hb
  obtain ⟨_, x0, x1⟩ := HX.out
  obtain ⟨_, y0, y1⟩ := HY.out
  obtain ⟨_, z0, z1⟩ := HZ.out
  go_wp2_with fail
  refine (wicketlaw01_same.calls A2 c2 P A4 c4 P true w6 (Kd.R_reads' HR2.out).2.2 (Kd.R_reads' HR2.out).2.1 (Kd.R_reads' HR4.out).2.2 (Kd.R_reads' HR4.out).2.1 H5.out).mono ?_
  rintro x w7 ⟨rfl, hd⟩
  have hb := drawn_below hd
  clear hd
  replace HB := Aside0.mk (below_step HB.out hb)
  replace HC := Aside0.mk (Kd.C_below HC.out hb)
  replace HT := Aside0.mk (HT.out.below hb)
  replace HF := Aside0.mk (Kd.R_below HF.out hb)
  replace HR2 := Aside0.mk (Kd.R_below HR2.out hb)
  replace HS9 := Aside0.mk (Nat.le_trans HS9.out hb.size)
  replace HX := Aside0.mk (HX.out.below hb)
  replace HR3 := Aside0.mk (Kd.R_below HR3.out hb)
  replace HY := Aside0.mk (HY.out.below hb)
  replace HR4 := Aside0.mk (Kd.R_below HR4.out hb)
  replace HZ := Aside0.mk (HZ.out.below hb)
  clear hb
  clear x0 x1 y0 y1 z0 z1
  obtain ⟨_, x0, x1⟩ := HX.out
  obtain ⟨_, y0, y1⟩ := HY.out
  obtain ⟨_, z0, z1⟩ := HZ.out
  go_wp2_with fail
  refine (wicketlaw01_same.calls A3 c3 P A4 c4 P true w7 (Kd.R_reads' HR3.out).2.2 (Kd.R_reads' HR3.out).2.1 (Kd.R_reads' HR4.out).2.2 (Kd.R_reads' HR4.out).2.1 H5.out).mono ?_
  rintro x w8 ⟨rfl, hd⟩
  have hb := drawn_below hd
  clear hd
  replace HB := Aside0.mk (below_step HB.out hb)
  replace HC := Aside0.mk (Kd.C_below HC.out hb)
  replace HT := Aside0.mk (HT.out.below hb)
  replace HF := Aside0.mk (Kd.R_below HF.out hb)
  replace HR2 := Aside0.mk (Kd.R_below HR2.out hb)
  replace HS9 := Aside0.mk (Nat.le_trans HS9.out hb.size)
  replace HX := Aside0.mk (HX.out.below hb)
  replace HR3 := Aside0.mk (Kd.R_below HR3.out hb)
  replace HY := Aside0.mk (HY.out.below hb)
  replace HR4 := Aside0.mk (Kd.R_below HR4.out hb)
  replace HZ := Aside0.mk (HZ.out.below hb)
  clear hb
  clear x0 x1 y0 y1 z0 z1
  go_wp2_with fail
  refine (wicketlaw01_kept.calls k _ cap F A c l true w8 (Kd.R_reads' HF.out).2.2 hcap HC.out hc H6.out).mono ?_
  rintro x w9 ⟨rfl, hd⟩
  have hb := drawn_below hd
  clear hd
  replace HB := Aside0.mk (below_step HB.out hb)
  replace HC := Aside0.mk (Kd.C_below HC.out hb)
  replace HT := Aside0.mk (HT.out.below hb)
  replace HF := Aside0.mk (Kd.R_below HF.out hb)
  replace HR2 := Aside0.mk (Kd.R_below HR2.out hb)
  replace HS9 := Aside0.mk (Nat.le_trans HS9.out hb.size)
  replace HX := Aside0.mk (HX.out.below hb)
  replace HR3 := Aside0.mk (Kd.R_below HR3.out hb)
  replace HY := Aside0.mk (HY.out.below hb)
  replace HR4 := Aside0.mk (Kd.R_below HR4.out hb)
  replace HZ := Aside0.mk (HZ.out.below hb)
  clear hb
  obtain ⟨_, x0, x1⟩ := HX.out
  obtain ⟨_, y0, y1⟩ := HY.out
  go_wp2_with fail
  have q2 := HQ2.out
  have q3 := HQ3.out
  have hs2 := HS2.out
  have hs3 := HS3.out
  rw [alloc_size] at hs3 q3
  have hBw : ∀ b, Blk [(A2, P.length, c2), (A3, P.length, c3)] b → w1.heap.size ≤ b := fun b hb => by
    rcases blk_two hb with h | h
    · have := q2 b h; omega
    · have := q3 b h; omega
  refine (alone_lit [(A2, P.length, c2), (A3, P.length, c3)] w1.heap.size w9 HS9.out (rows_two HR2.out (Kd.R_lower HR3.out (by rw [alloc_size]; omega))) (pair_two (fun b h1 h2 => by have := q2 b h1; have := q3 b h2; omega)) (by simp) (nk_all (r := Sl0) _ (by simp; exact h7))).mono ?_
  rintro x w10 ⟨rfl, hk⟩
  replace HB := Aside0.mk (HB.out.trans (hk.below HB.out.size (fun b hb => by have := hBw b hb; omega)))
  replace HC := Aside0.mk (Kd.C_below HC0.out HB.out)
  replace HT := Aside0.mk (HT0.out.below HB.out)
  replace HF := Aside0.mk (RB_kept HF.out hk (fun b e hb => by have h1 := hBw b hb; have : g = b := Option.some.inj e; omega))
  clear hk q2 q3 hBw hs2 hs3 HR2 HR3 HR4 HX HY HZ x0 x1 y0 y1
  go_wp2_with fail
  refine (wicketlaw01_kept.calls k _ cap F A c l true w10 (Kd.R_reads' HF.out).2.2 hcap HC.out hc H6.out).mono ?_
  rintro x w11 ⟨rfl, hd⟩
  have hb := drawn_below hd
  clear hd
  replace HB := Aside0.mk (below_step HB.out hb)
  replace HC := Aside0.mk (Kd.C_below HC.out hb)
  replace HT := Aside0.mk (HT.out.below hb)
  replace HF := Aside0.mk (Kd.R_below HF.out hb)
  clear hb
  go_wp2_with fail
  refine (wicketlaw01_live.calls true w11 HT.out H8.out).mono ?_
  rintro x w12 ⟨rfl, hb⟩
  replace HB := Aside0.mk (below_step HB.out hb)
  replace HC := Aside0.mk (Kd.C_below HC.out hb)
  replace HT := Aside0.mk (HT.out.below hb)
  replace HF := Aside0.mk (Kd.R_below HF.out hb)
  clear hb
  go_wp2_with fail
  go_ret
  exact ⟨rfl, HB.out⟩
end Go.Proofs.YtdlfhpkkkhfhdaaDoor.Hand
