/- Wheel: WheelCuts. -/
import Derived.Test.YtkgdlmgodpgcoaaWhlAC
namespace Go.Proofs.Ytkgdlmgodpgcoaa.Hand
open Go.RowKit Go.Maps Go.Proofs.YtkgdlmgodpgcoaaW.PrintWords Go.Proofs.YtkgdlmgodpgcoaaW.PrintLast Go.Proofs.YtkgdlmgodpgcoaaW.PrintMore
set_option linter.unusedVariables false
set_option linter.unusedSimpArgs false

theorem PlayI.pair {w0 w w1 w2 : World} {g m g2 m2 : Nat} {s : Int × List TimT} (h1 : PlayI w w1 g m s) (h2 : PlayI w1 w2 g2 m2 s) (hb : Below w0.heap.size w0 w) : ∃ F1 F2, Two w0 w2 F1 F2 g m s.1 s.2 g2 m2 s.1 s.2 := by
  obtain ⟨F1, a1, a2, a3⟩ := h1
  obtain ⟨F2, b1, b2, b3⟩ := h2
  exact ⟨F1, F2, a1.kept (KeptW.of_below (F := fun _ => False) b3) (fun _ _ h => h), b1, fun k h1 h2 => by have := a1.lt k h1; have := b2 k h2; omega, fun k h => Nat.le_trans hb.size (a2 k h), fun k h => by have := b2 k h; have := a3.size; have := hb.size; omega, (hb.trans (a3.mono hb.size)).trans (b3.mono (Nat.le_trans hb.size a3.size))⟩
theorem Two.canon {w0 w : World} {F1 F2 : Nat → Prop} {g m g2 m2 : Nat} {n : Int} {L : List TimT} (h : Two w0 w F1 F2 g m n L g2 m2 n L) : Two w0 w F1 F2 g m n (byId L) g2 m2 n (byId L) ∧ Srt (byId L) := by
  have h2 := byId_srt h.a.facts.2.1
  exact ⟨⟨h.a.perm h2.2.symm, h.b.perm h2.2.symm, h.dis, h.lowA, h.lowB, h.bel⟩, h2.1⟩
set_option maxHeartbeats 8000000 in
set_option maxRecDepth 100000 in
theorem wheelCuts.walk (now0 : Int) (A : Option Addr) (N c : Nat) (acts : List ActT) (a b : Int) (w : World) (hC : kAct.C w A N acts) (hU : U now0) (hok : ∀ i, i < acts.length → actOk (actN acts i)) (ha : U a) (hb : U b) :
    Calls Try.prog 7 #[.agg #[.int .u64 now0, .slice A N c], .int .u64 a, .int .u64 b] w fun e w' => e = .returned (.bool true) ∧ Below w.heap.size w w' := by
  have HC := Aside0.mk hC
  have HOK := Aside0.mk hok
  have HU0 := Aside0.mk hU
  have HA := Aside0.mk ha
  have HB := Aside0.mk hb
  have hx := blk_new w (.cells #[.int .u64 now0, .slice A N c] 52 (0, 0))
  have d0 := (blk_cell hx 0).trans rfl
  have d1 := (blk_cell hx 1).trans rfl
  clear hC hU hok ha hb
  go_enter Try.func7, Try.ntmps7
  go_wp2_with fail
  obtain ⟨w1, hw1⟩ : ∃ w1, w1 = w.alloc (.cells #[.int .u64 now0, .slice A N c] 52) := ⟨_, rfl⟩
  have HB1 : Aside0 (Below w.heap.size w w1) := ⟨by rw [hw1]; exact below_alloc (Below.refl _ _) _⟩
  obtain ⟨Bx, hBx⟩ : ∃ Bx, Bx = w.heap.size := ⟨_, rfl⟩
  rw [← hw1, ← hBx] at hx d0 d1
  rw [← hw1]
  rw [← hBx]
  clear hw1 hx hBx
  refine (law_play.calls now0 A N c acts w1 (Kd.C_below HC.out HB1.out) HU0.out HOK.out).mono ?_
  rintro e w2 ⟨g, m, rfl, hp1⟩
  have hb2 : Below w1.heap.size w1 w2 := by obtain ⟨_, _, _, h⟩ := hp1; exact h
  replace d0 := pw_cell_below hb2 d0
  replace d1 := pw_cell_below hb2 d1
  have HP1 := Aside0.mk hp1
  have HB2 := Aside0.mk (HB1.out.trans (hb2.mono HB1.out.size))
  clear hp1 hb2
  go_wp2_with fail
  refine (law_play.calls now0 A N c acts w2 (Kd.C_below HC.out HB2.out) HU0.out HOK.out).mono ?_
  rintro e w3 ⟨g2, m2, rfl, hp2⟩
  have HT0 : Aside0 (∃ F1 F2, Two w w3 F1 F2 g m (playT now0 acts).1 (playT now0 acts).2 g2 m2 (playT now0 acts).1 (playT now0 acts).2) := ⟨PlayI.pair HP1.out hp2 HB1.out⟩
  clear hp2 HP1 HB2 HC HOK HU0 HB1 d0 d1
  obtain ⟨F1, F2, hT⟩ := HT0.out
  obtain ⟨S, hS⟩ : ∃ S, S = byId (playT now0 acts).2 := ⟨_, rfl⟩
  obtain ⟨t, ht⟩ : ∃ t, t = (playT now0 acts).1 := ⟨_, rfl⟩
  have hT2 := hT.canon
  rw [← hS, ← ht] at hT2
  have HT := Aside0.mk hT2.1
  have HS := Aside0.mk hT2.2
  have HLS := Aside0.mk hT2.1.a.facts.2.2.1
  clear hT hT2 hS ht HT0
  go_wp2_with fail
  refine (law_live.calls w3).mono ?_
  rintro e w4 ⟨rfl, hb4⟩
  have HT4 := Aside0.mk (HT.out.below hb4)
  clear HT hb4
  go_wp2_with fail
  refine (wheel_Now.all HT4.out.a).mono ?_
  rintro e w5 ⟨rfl, rfl⟩
  by_cases g1 : a < t
  · have b1 : decide (a < t) = true := decide_eq_true g1
    go_wp2_with fail
    go_ret
    exact ⟨rfl, HT4.out.bel⟩
  have b1 : decide (a < t) = false := decide_eq_false g1
  by_cases g2' : b < a
  · have b2 : decide (b < a) = true := decide_eq_true g2'
    go_wp2_with fail
    go_ret
    exact ⟨rfl, HT4.out.bel⟩
  have b2 : decide (b < a) = false := decide_eq_false g2'
  go_wp2_with fail
  refine (wheel_Advance.all HT4.out.a a HA.out (by omega)).mono ?_
  rintro e w6 ⟨v1, F1', rfl, hw6, hF6, hk6, hr6⟩
  obtain ⟨hT6, hk6', hF6'⟩ := HT4.out.first hw6 hF6 hk6
  have HT6 := Aside0.mk hT6
  have hr6' : UR w6 0 (fun k => ¬ (F1' k ∨ F2 k)) v1 ((sorted (S.filter (isOver a))).map (·.1)) := Kd.R_mono hr6 (fun k hk h => by
    rcases h with h | h
    · exact hk.2 h
    · rcases hk.1 with h2 | h2
      · exact HT4.out.dis k h2 h
      · have := HT4.out.b.lt k h; omega)
  have HR6 := Aside0.mk hr6'
  clear hw6 hF6 hk6 hr6 hr6' hT6 hk6' hF6' HT4 b1 b2
  go_wp2_with fail
  refine (wheel_Advance.all HT6.out.a b HB.out (by omega)).mono ?_
  rintro e w7 ⟨v2, F1'', rfl, hw7, hF7, hk7, hr7⟩
  obtain ⟨hT7, hk7', hF7'⟩ := HT6.out.first hw7 hF7 hk7
  have HT7 := Aside0.mk hT7
  have hr7' : UR w7 0 (fun k => ¬ (F1'' k ∨ F2 k)) v2 ((sorted ((S.filter (isStay a)).filter (isOver b))).map (·.1)) := Kd.R_mono hr7 (fun k hk h => by
    rcases h with h | h
    · exact hk.2 h
    · rcases hk.1 with h2 | h2
      · exact HT6.out.dis k h2 h
      · have := HT6.out.b.lt k h; omega)
  have HR7 := Aside0.mk hr7'
  have HQ7 := Aside0.mk (KR.kept HR6.out hk7' hF7')
  clear hw7 hF7 hk7 hr7 hr7' hT7 hk7' hF7' HT6 HR6
  go_wp2_with fail
  refine (wheel_Advance.all HT7.out.b b HB.out (by omega)).mono ?_
  rintro e w8 ⟨v3, F2', rfl, hw8, hF8, hk8, hr8⟩
  obtain ⟨hT8, hk8', hF8'⟩ := HT7.out.swap.first hw8 hF8 hk8
  have HT8 := Aside0.mk hT8
  have hr8' : UR w8 0 (fun k => ¬ (F2' k ∨ F1'' k)) v3 ((sorted (S.filter (isOver b))).map (·.1)) := Kd.R_mono hr8 (fun k hk h => by
    rcases h with h | h
    · exact hk.2 h
    · rcases hk.1 with h2 | h2
      · exact HT7.out.dis k h h2
      · have := HT7.out.a.lt k h; omega)
  have HR8 := Aside0.mk hr8'
  have HP8 := Aside0.mk (KR.kept (F := fun k => F2 k ∨ F1'' k) (Kd.R_mono HR7.out (fun k hk h => hk h.symm)) hk8' hF8')
  have HQ8 := Aside0.mk (KR.kept (F := fun k => F2 k ∨ F1'' k) (Kd.R_mono HQ7.out (fun k hk h => hk h.symm)) hk8' hF8')
  clear hw8 hF8 hk8 hr8 hr8' hT8 hk8' hF8' HT7 HR7 HQ7
  obtain ⟨A1, c1, hv1⟩ := Kd.R_slice HQ8.out
  obtain ⟨A2, c2, hv2⟩ := Kd.R_slice HP8.out
  obtain ⟨A3, c3, hv3⟩ := Kd.R_slice HR8.out
  have HE : Aside0 ((sorted (S.filter (isOver a))).map (·.1) ++ (sorted ((S.filter (isStay a)).filter (isOver b))).map (·.1) = (sorted (S.filter (isOver b))).map (·.1)) := ⟨by rw [← List.map_append, over_over S (by omega)]⟩
  have HFF : Aside0 ((S.filter (isStay a)).filter (isStay b) = S.filter (isStay b)) := ⟨stay_stay (by omega)⟩
  have hlS : S.length ≤ 8192 := HLS.out
  obtain ⟨X1, hX1⟩ : ∃ X1, X1 = (sorted (S.filter (isOver a))).map (·.1) := ⟨_, rfl⟩
  obtain ⟨X2, hX2⟩ : ∃ X2, X2 = (sorted ((S.filter (isStay a)).filter (isOver b))).map (·.1) := ⟨_, rfl⟩
  obtain ⟨X3, hX3⟩ : ∃ X3, X3 = (sorted (S.filter (isOver b))).map (·.1) := ⟨_, rfl⟩
  have hl1 : X1.length ≤ 8192 := by rw [hX1, List.length_map, sorted_length]; exact Nat.le_trans (List.length_filter_le _ _) hlS
  have hl2 : X2.length ≤ 8192 := by rw [hX2, List.length_map, sorted_length]; exact Nat.le_trans (List.length_filter_le _ _) (Nat.le_trans (List.length_filter_le _ _) hlS)
  rw [← hX1] at HQ8 HE hv1
  rw [← hX2] at HP8 HE hv2
  rw [← hX3] at HR8 HE hv3
  have HL1 := Aside0.mk hl1
  have HL2 := Aside0.mk hl2
  obtain ⟨M1, hM1⟩ : ∃ M1, M1 = X1.length := ⟨_, rfl⟩
  obtain ⟨M2, hM2⟩ : ∃ M2, M2 = X2.length := ⟨_, rfl⟩
  obtain ⟨M3, hM3⟩ : ∃ M3, M3 = X3.length := ⟨_, rfl⟩
  rw [← hM1] at hv1
  rw [← hM2] at hv2
  rw [← hM3] at hv3
  have HM1 := Aside0.mk hM1
  have HM2 := Aside0.mk hM2
  have HM3 := Aside0.mk hM3
  subst hv1 hv2 hv3
  rw [HFF.out] at HT8
  have HST : Aside0 (Srt (S.filter (isStay b))) := ⟨HS.out.filter _⟩
  obtain ⟨T, hT⟩ : ∃ T, T = S.filter (isStay b) := ⟨_, rfl⟩
  rw [← hT] at HT8 HST
  have hH : Drawn0 w8 w8 → True := fun _ => trivial
  have heq : ∀ W, (Op.equalIn 10000 40 (.agg #[.int .i64 (cntOf T b 0 : Nat), .int .i64 (cntOf T b 1 : Nat), .int .i64 (cntOf T b 2 : Nat), .int .i64 (cntOf T b 3 : Nat), .int .i64 (cntOf T b 4 : Nat)]) (.agg #[.int .i64 (cntOf T b 0 : Nat), .int .i64 (cntOf T b 1 : Nat), .int .i64 (cntOf T b 2 : Nat), .int .i64 (cntOf T b 3 : Nat), .int .i64 (cntOf T b 4 : Nat)])).run Try.prog W = .ok true W := fun W => equal5 _ _ _ _ _ W
  have HBA := Aside0.mk (below_alloc (Below.refl w8.heap.size w8) (.cells #[] 22))
  have HNR : Aside0 (UR (w8.alloc (.cells #[] 22)) w8.heap.size (fun _ => True) (.slice (some ⟨w8.heap.size, 0, none⟩) 0 0) []) := ⟨wnil_row w8 _ trivial⟩
  have HC1 : Aside0 ((Kd.int .u64).C (w8.alloc (.cells #[] 22)) A1 M1 X1) := ⟨by rw [HM1.out]; exact Kd.C_below (Kd.R_reads' (HM1.out ▸ HQ8.out)).2.2 HBA.out⟩
  have HC2 : Aside0 ((Kd.int .u64).C w8 A2 M2 X2) := ⟨by rw [HM2.out]; exact (Kd.R_reads' (HM2.out ▸ HP8.out)).2.2⟩
  have HC3 : Aside0 ((Kd.int .u64).C w8 A3 M3 X3) := ⟨by rw [HM3.out]; exact (Kd.R_reads' (HM3.out ▸ HR8.out)).2.2⟩
  have HS8 : Aside0 (w8.heap.size ≤ (w8.alloc (.cells #[] 22)).heap.size) := ⟨by simp⟩
  have HL8 : Aside0 (([] : List Int).length + M1 ≤ 8192 ∧ M1 + M2 ≤ 16384) := ⟨by have := HL1.out; have := HL2.out; have := HM1.out; have := HM2.out; simp; omega⟩
  clear hX1 hX2 hX3 hM1 hM2 hM3 hl1 hl2 hlS HS HLS HQ8 HP8 HR8 hT hH
  go_wp2_with (first
    | (go_at_call 14; (with_reducible refine (law_num.calls _ _).mono ?_); rintro e wx ⟨rfl, rfl⟩)
    | ((with_reducible refine gate_builtin (b := .append) (xs := #[.tmp 69, .tmp 70]) rfl ?_); at_builtin; refine Kd.R_append_row (Value.int .u64) (0 : Int) (h1 := fun _ => rfl) (w0 := wx) wx.heap.size rfl (.tmp 69) (.tmp 70) 42 22 (.int .u64 0) 8 rfl Try.underlying42 info22 rfl (by decide) _ [] X1 A1 M1 c1 (fun _ => True) rfl rfl (fun _ _ => trivial) HNR.out HC1.out HBA.out HS8.out (by have := HL8.out.1; omega) ?_; intro v9 w9 ho hb hg hat; rw [List.nil_append] at ho; have HO9 := Aside0.mk ho; have HB9 := Aside0.mk hb; clear ho hb hg hat HC1)
    | ((with_reducible refine gate_builtin (b := .append) (xs := #[.tmp 71, .tmp 72]) rfl ?_); at_builtin; refine Kd.R_append_row (Value.int .u64) (0 : Int) (h1 := fun _ => rfl) (w0 := wx) wx.heap.size rfl (.tmp 71) (.tmp 72) 42 22 (.int .u64 0) 8 rfl Try.underlying42 info22 rfl (by decide) v9 X1 X2 A2 M2 c2 (fun _ => True) rfl rfl (fun _ _ => trivial) HO9.out (Kd.C_below HC2.out HB9.out) HB9.out HB9.out.size (by have := HL8.out.2; have := HM1.out; omega) ?_; intro v10 w10 ho hb hg hat; obtain ⟨A10, c10, hv10⟩ := Kd.R_slice ho; obtain ⟨N10, hN10⟩ : ∃ N10, N10 = (X1 ++ X2).length := ⟨_, rfl⟩; rw [← hN10] at hv10; subst hv10; have HC10 : Aside0 (IC w10 A10 N10 (X1 ++ X2)) := ⟨by have h := (Kd.R_reads' ho).2.2; rw [← hN10] at h; exact h⟩; have HC13 : Aside0 (IC w10 A3 M3 X3) := ⟨Kd.C_below HC3.out hb⟩; have HT10 := Aside0.mk (HT8.out.below hb); clear ho hb hg hat hN10 HO9 HB9 HC2 HC3 HT8 HBA HNR HS8)
    | (go_at_call 25; (with_reducible refine (law_ids.calls A10 A3 N10 M3 c10 c3 (X1 ++ X2) X3 _ HC10.out HC13.out).mono ?_); rintro e w11 ⟨rfl, hd⟩; have HT11 := Aside0.mk (HT10.out.below (drawn_belowW hd)); rw [decide_eq_true HE.out]; clear hd HC10 HC13 HT10 HE)
    | (go_at_call 33; (with_reducible refine (law_timers.calls HT11.out.b HST.out).mono ?_); rintro e w12 ⟨v12, rfl, hr, hb⟩; obtain ⟨A12, c12, hv12⟩ := Kd.R_slice hr; obtain ⟨N12, hN12⟩ : ∃ N12, N12 = (flatT T).length := ⟨_, rfl⟩; rw [← hN12] at hv12; subst hv12; have HC12 : Aside0 (IC w12 A12 N12 (flatT T)) := ⟨by have h := (Kd.R_reads' hr).2.2; rw [← hN12] at h; exact h⟩; have HT12 := Aside0.mk (HT11.out.below hb); clear hr hb hN12 HT11)
    | (go_at_call 33; (with_reducible refine (law_timers.calls HT12.out.a HST.out).mono ?_); rintro e w13 ⟨v13, rfl, hr, hb⟩; obtain ⟨A13, c13, hv13⟩ := Kd.R_slice hr; obtain ⟨N13, hN13⟩ : ∃ N13, N13 = (flatT T).length := ⟨_, rfl⟩; rw [← hN13] at hv13; subst hv13; have HC23 : Aside0 (IC w13 A13 N13 (flatT T)) := ⟨by have h := (Kd.R_reads' hr).2.2; rw [← hN13] at h; exact h⟩; have HC22 : Aside0 (IC w13 A12 N12 (flatT T)) := ⟨Kd.C_below HC12.out hb⟩; have HT13 := Aside0.mk (HT12.out.below hb); clear hr hb hN13 HT12 HC12)
    | (go_at_call 25; (with_reducible refine (law_ids.calls A12 A13 N12 N13 c12 c13 (flatT T) (flatT T) _ HC22.out HC23.out).mono ?_); rintro e w14 ⟨rfl, hd⟩; have HT14 := Aside0.mk (HT13.out.below (drawn_belowW hd)); rw [decide_eq_true (rfl : flatT T = flatT T)]; clear hd HC22 HC23 HT13)
    | (go_at_call 21; (with_reducible refine (wheel_Spread.all HT14.out.b).mono ?_); rintro e w15 ⟨rfl, hb⟩; have HT15 := Aside0.mk (HT14.out.below hb); clear hb HT14)
    | (go_at_call 21; (with_reducible refine (wheel_Spread.all HT15.out.a).mono ?_); rintro e w16 ⟨rfl, hb⟩; have HT16 := Aside0.mk (HT15.out.below hb); clear hb HT15))
  go_ret
  exact ⟨rfl, HT16.out.bel⟩
end Go.Proofs.Ytkgdlmgodpgcoaa.Hand
