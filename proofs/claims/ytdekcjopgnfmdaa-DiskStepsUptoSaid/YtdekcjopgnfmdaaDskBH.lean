/- The document's disk: New. -/
import Derived.Test.YtdekcjopgnfmdaaDskBD
namespace Go.Proofs.Ytdekcjopgnfmdaa.Hand
open Go.RowKit Go.Maps Go.Proofs.YtdekcjopgnfmdaaW.PrintWords Go.Proofs.YtdekcjopgnfmdaaW.PrintLast Go.Proofs.YtdekcjopgnfmdaaW.PrintMore Go.Proofs.Ytdekcjopgnfmdaa.Q
set_option linter.unusedVariables false
set_option linter.unusedSimpArgs false
/-- What the document's New answers. -/
def RNewAns (w w' : World) (r : DS × Int) (e : Ending) : Prop := ((r.2 = 0 ∧ ∃ d, e = .returned (.tuple #[.pointer (some ⟨d, 0, none⟩), .int .i64 0]) ∧ RskAt w' (fun k => w.heap.size ≤ k ∧ k < w'.heap.size) d r.1) ∨ (r.2 ≠ 0 ∧ e = .returned (.tuple #[.pointer none, .int .i64 r.2]))) ∧ Below w.heap.size w w'
theorem kBd_mk (w : World) (base : Nat) (ok : Nat → Prop) (x : Fil) {v : Value} (h : Kd.R kB 5 w base ok v x.1) : kBd.M w base ok x [v, .int .i64 x.2] := ⟨[v], [.int .i64 x.2], rfl, ⟨v, rfl, h⟩, rfl⟩
set_option maxHeartbeats 4000000 in
set_option maxRecDepth 100000 in
theorem ref_New.calls (room : Int) (hr : room ≤ 9223372036854775807) (A : Option Addr) (c : Nat) (fs : List FilD) (w : World) (hC : Kd.C kRF w A fs.length (fs.map toR)) (hc : fs.length ≤ c) (hok : ∀ f, f ∈ fs → FilOk f) :
    Calls Try.prog 42 #[.slice A fs.length c, .int .i64 room] w fun e w' => RNewAns w w' (newOf room fs) e := by
  by_cases h0 : room < 0
  · have b0 : decide (room < 0) = true := decide_eq_true h0; have HOP : Aside0 (newOf room fs = (ds0 room, 2)) := ⟨by unfold newOf; rw [if_pos h0]⟩; clear h0 hC hc hok hr; go_enter Try.func42, Try.ntmps42
    go_wp2_with fail
    go_ret2; rw [HOP.out]; exact ⟨.inr ⟨by show (2 : Int) ≠ 0; decide, rfl⟩, Below.refl _ _⟩
  have b0 : decide (room < 0) = false := decide_eq_false h0; by_cases h1 : fs.length > 64
  · have b1 : decide ((fs.length : Int) > 64) = true := decide_eq_true (by omega); have HOP : Aside0 (newOf room fs = (ds0 room, 32)) := ⟨by unfold newOf; rw [if_neg h0, if_pos h1]⟩; clear h0 h1 hC hc hok hr; go_enter Try.func42, Try.ntmps42
    go_wp2_with fail
    go_ret2; rw [HOP.out]; exact ⟨.inr ⟨by show (32 : Int) ≠ 0; decide, rfl⟩, Below.refl _ _⟩
  have b1 : decide ((fs.length : Int) > 64) = false := decide_eq_false (by omega); have HOP : Aside0 (newOf room fs = newEnd (newGo (ds0 room) fs)) := ⟨by unfold newOf; rw [if_neg h0, if_neg h1]⟩; have HRB : Aside0 (0 ≤ room ∧ room ≤ 9223372036854775807 ∧ fs.length ≤ 64) := ⟨by omega⟩; have HC := Aside0.mk hC; have HCC := Aside0.mk hc; have HOK := Aside0.mk hok; have hlb : (fs.length : Int) ≤ 64 := by omega
  clear h0 h1 hC hc hok hr; go_enter Try.func42, Try.ntmps42
  go_upto_region 6 with (fail)
  obtain ⟨w0, d, hw0, hd, hbd, hB0, hs0⟩ := boxed w (.cells #[.int .i64 room, .slice none 0 0, .slice none 0 0, .slice none 0 0, .slice none 0 0, .int .i64 0, .int .i64 0, .bool false] 79 (0, 0)); rw [← hw0, ← hd]; have HM0 : Aside0 (RskM w0 (fun k => w.heap.size ≤ k) d (ds0 room) (.slice none 0 0) (.slice none 0 0) (.slice none 0 0) (.slice none 0 0) ∧ Mid room (ds0 room) 0 ∧ Below w.heap.size w w0) := ⟨⟨hbd, Kd.R_nil _ _ _ _ _, Kd.R_nil _ _ _ _ _, Kd.R_nil _ _ _ _ _, Kd.R_nil _ _ _ _ _, by rw [hd]; exact Nat.le_refl _⟩, Mid.start ⟨HRB.out.1, HRB.out.2.1⟩, hB0⟩; obtain ⟨N, hN⟩ : ∃ N, N = fs.length := ⟨_, rfl⟩; have HN : Aside0 (fs.length = N) := ⟨hN.symm⟩; rw [← hN] at hlb ⊢; clear hN b0 b1 hd hw0 hbd hB0 hs0; go_upto_region 8 with (fail)
  go_loopw [7, 8] (fun v7 v8 wr => ∃ i : Nat, i ≤ N ∧ v8 = .int .i64 i ∧ ∃ u : Int, v7 = .int .i64 u ∧ Aside0 (∃ S vf vd vs vc, RskM wr (fun k => w.heap.size ≤ k) d S vf vd vs vc ∧ Mid room S i ∧ newGo (ds0 room) fs = newGo S (fs.drop i) ∧ Below w.heap.size w wr ∧ u = used S)) (fun _ v8 _ => N - (intOf v8).toNat)
  case atStart => exact ⟨0, Nat.zero_le _, rfl, 0, rfl, ⟨_, _, _, _, _, HM0.out.1, HM0.out.2.1, rfl, HM0.out.2.2, rfl⟩⟩
  case round =>
    clear HM0; obtain ⟨i, hi, rfl, u, rfl, HR⟩ := hrel; obtain ⟨S, vf, vd, vs, vc, hM, hMid, hgo, hBr, hu⟩ := HR.out; clear HR; have HM := Aside0.mk hM; have HMid := Aside0.mk hMid; have HGO := Aside0.mk hgo; have HBR := Aside0.mk hBr; have HU := Aside0.mk hu; by_cases hlt : i < N
    · obtain ⟨ad, A1, c1, hA, o0, o1, hl1, g1⟩ := at_T101 HC.out (i : Int) (by omega) (by rw [HN.out]; omega); replace o0 := pw_cell_below hBr o0; replace o1 := pw_cell_below hBr o1; have hst := newGo_step (by rw [HN.out]; exact hlt) hgo; rw [rdRF (by rw [HN.out]; exact hlt)] at o0 o1 hl1 g1; rw [rdF (by rw [HN.out]; exact hlt)] at hst; have hmem : fs[i]'(by rw [HN.out]; exact hlt) ∈ fs := List.getElem_mem _; obtain ⟨⟨f0, f1⟩, hf⟩ : ∃ f, f = fs[i]'(by rw [HN.out]; exact hlt) := ⟨_, rfl⟩; rw [← hf] at o0 o1 hl1 g1 hst hmem; rw [Int.toNat_natCast] at o0 o1
      change _ = some (Value.string f0) at o0
      change _ = some (Value.slice A1 f1.length c1) at o1
      change f1.length ≤ c1 at hl1
      change Kd.C kB w A1 f1.length f1 at g1
      have hfo := HOK.out _ hmem; have HFO := Aside0.mk hfo; have HST := Aside0.mk hst; have hfl : (f1.length : Int) ≤ 9223372036854775807 := by have := g1.2.1; omega
      obtain ⟨L, hL⟩ : ∃ L, L = f1.length := ⟨_, rfl⟩; have HL := Aside0.mk hL; rw [← hL] at o1 hl1 g1 hfl; have HG1 := Aside0.mk (And.intro hl1 g1); obtain ⟨kk, hkk⟩ := (name_ev f0 HFO.out.1).rounds; have HKK := Aside0.mk hkk; obtain ⟨r, hr⟩ : ∃ r, r = nameOk f0 := ⟨_, rfl⟩; have HR := Aside0.mk hr; rw [← hr] at HKK; subst hA; clear hf hmem hfo hst hl1 g1 hgo hM hMid hBr hL hkk hr hu; go_upto_region 11 with (fail)
      obtain ⟨wa, B, hwa, hB, hbf, hBa, hsa⟩ := boxed wr (.cells #[.string f0, .slice A1 L c1] 101 (0, 0)); rw [← hwa, ← hB]; have HBA := Aside0.mk hBa; have HBF := Aside0.mk hbf; clear hwa hB hbf hBa hsa o0 o1; have q0 := (blk_cell HBF.out 0).trans rfl; go_wp2_with fail
      refine (wicketref05_Name.calls kk f0 r _ HKK.out).mono ?_; rintro x w1 ⟨rfl, hd1⟩; have HB1 := Aside0.mk (below_step HBA.out hd1.below); have HM1 := Aside0.mk (HM.out.below HB1.out); have HBF1 := Aside0.mk (blk_below HBF.out hd1.below); have HBW : Aside0 (Below w.heap.size w w1) := ⟨below_step HBR.out HB1.out⟩; clear hd1 q0
      cases r with
      | false =>
        have HE : Aside0 (newOf room fs = (S, 50)) := ⟨by
          have e1 : newErr S ⟨f0, f1⟩ = 50 := by unfold newErr; rw [if_pos HR.out.symm]
          rw [HOP.out, HST.out.1 (by rw [e1]; decide), e1]; rfl⟩
        go_wp2_with fail
        go_ret2; rw [HE.out]; exact ⟨.inr ⟨by show (50 : Int) ≠ 0; decide, rfl⟩, HBW.out⟩
      | true =>
        obtain ⟨Ad, cd, hvd, hcd, hCd⟩ := (show RskM w1 (fun k => w.heap.size ≤ k) d S vf vd vs vc from HM1.out).dirRow; subst hvd; have HCD := Aside0.mk (And.intro hcd hCd); have c2 := (blk_cell HM1.out.blk 2).trans rfl; have q0 := (blk_cell HBF1.out 0).trans rfl; have HDL : Aside0 (S.dir.length ≤ 64) := ⟨by have := HMid.out.lenD; have := HRB.out.2.2; have := HN.out; omega⟩; clear hcd hCd
        have hfind := fun (w2 : World) (h2 : Kd.C kEn w2 Ad S.dir.length (S.dir.map mkE)) => (ref_find.at h2 HCD.out.1 (by have := HDL.out; omega) f0).mono (fun e w3 hh => (show ∃ z : Int, e = .returned (.int .i64 z) ∧ Below w2.heap.size w2 w3 ∧ ((z = -1 ∧ has S.dir f0 = none) ∨ (∃ j : Nat, z = (j : Int) ∧ (has S.dir f0).isSome = true)) from by
          obtain ⟨hb, ⟨he, hn⟩ | ⟨j, hj, he, hs⟩⟩ := hh
          · exact ⟨_, he, hb, .inl ⟨rfl, hn⟩⟩
          · exact ⟨_, he, hb, .inr ⟨j, rfl, by rw [hs]; rfl⟩⟩))
        have HFD := Aside0.mk hfind; clear hfind; go_upto_region 13 with (fail)
        refine start_ (n := 8) (S := fun w' => w'.cell? ⟨d, 2, none⟩ = some (.slice Ad S.dir.length cd) ∧ w'.cell? ⟨B, 0, none⟩ = some (.string f0)) (ds := []) (bm 8 0) (by kernel_rfl) rfl rfl ⟨c2, q0⟩ (fun hHeld => ?_); refine pure_ (i := 0) (N := some 32) (v:=?_) (a':=?_) (bm 8 1) rfl rfl (by kernel_rfl) (fun _ _ _ h => h) (Or.inl ⟨by rfl, ?_⟩) ?_ ?_; rotate_left
        · intro w'; go_simp; with_reducible rfl
        rotate_left
        · simp only [Act.put,s_a,s_b,s_c,i64_w,i32_w]; rfl
        refine pure_ (i := 1) (N := some 33) (v:=?_) (a':=?_) (bm 8 3) rfl rfl (by kernel_rfl) (fun _ _ _ h => h) (Or.inl ⟨by rfl, ?_⟩) ?_ ?_; rotate_left
        · intro w'; go_simp; with_reducible rfl
        rotate_left
        · simp only [Act.put,s_a,s_b,s_c,i64_w,i32_w]; rfl
        refine pure_ (i := 2) (N := some 34) (v:=?_) (a':=?_) (bm 8 7) rfl rfl (by kernel_rfl) (fun _ _ _ h => h) (Or.inl ⟨by rfl, ?_⟩) ?_ ?_; rotate_left
        · intro w'; go_simp; with_reducible rfl
        rotate_left
        · simp only [Act.put,s_a,s_b,s_c,i64_w,i32_w]; rfl
        refine pure_ (i := 4) (N := some 36) (v:=?_) (a':=?_) (bm 8 23) rfl rfl (by kernel_rfl) (fun _ _ _ h => h) (Or.inl ⟨by rfl, ?_⟩) ?_ ?_; rotate_left
        · intro w'; go_simp; with_reducible rfl
        rotate_left
        · simp only [Act.put,s_a,s_b,s_c,i64_w,i32_w]; rfl
        refine take_ (i := 3) (N := some 35) (v:=?_) (a':=?_) (bm 8 31) rfl rfl (by kernel_rfl) (fun _ _ _ h => h) (Or.inl ⟨by rfl, ?_⟩) hHeld ?_ ?_; rotate_left
        · rintro w' ⟨s0, s1⟩; go_simp; with_reducible rfl
        rotate_left
        · simp only [Act.put,s_a,s_b,s_c,i64_w,i32_w]; rfl
        refine take_ (i := 5) (N := some 37) (v:=?_) (a':=?_) (bm 8 63) rfl rfl (by kernel_rfl) (fun _ _ _ h => h) (Or.inl ⟨by rfl, ?_⟩) hHeld ?_ ?_; rotate_left
        · rintro w' ⟨s0, s1⟩; go_simp; with_reducible rfl
        rotate_left
        · simp only [Act.put,s_a,s_b,s_c,i64_w,i32_w]; rfl
        refine one_ (i := 6) (N := some 38) (bm 8 127) rfl rfl (by kernel_rfl) (by decide) (fun K hK => ?_); refine goes_ Try.func67 (by kernel_rfl) rfl #[.slice Ad S.dir.length cd, .string f0] (by rfl) rfl rfl (by simp only [List.map_toArray, List.map_cons, List.map_nil]; rfl) ?_; refine (HFD.out _ (Kd.C_below HCD.out.2 (below_drew1 (Below.refl _ _)))).mono ?_; rintro e w2 ⟨z, rfl, hb, hz⟩; have HB2 := Aside0.mk (below_step (below_drew1 (Below.refl w1.heap.size w1)) hb); have HZ := Aside0.mk hz; clear hb hz; refine ⟨_, rfl, ?_⟩; refine hK.out _ _ ⟨pw_cell_below HB2.out c2, pw_cell_below HB2.out q0⟩ (fun hHeld => ?_); clear hK K; refine norm_ (a' := ?_) ?_ ?_; rotate_left
        · show Act.put _ (some 38) _ = _; simp only [Act.put,s_a,s_b,s_c,i64_w,i32_w]; rfl
        refine pure_ (i := 7) (N := some 39) (v:=?_) (a':=?_) (bm 8 255) rfl rfl (by kernel_rfl) (fun _ _ _ h => h) (Or.inl ⟨by rfl, ?_⟩) ?_ ?_; rotate_left
        · intro w'; go_simp; with_reducible rfl
        rotate_left
        · simp only [Act.put,s_a,s_b,s_c,i64_w,i32_w]; rfl
        refine done_ (by kernel_rfl) ?_; have HM2 := Aside0.mk (HM1.out.below HB2.out); have HBF2 := Aside0.mk (blk_below HBF1.out HB2.out); have HBW2 : Aside0 (Below w.heap.size w w2) := ⟨below_step HBW.out HB2.out⟩; have HCD2 : Aside0 (S.dir.length ≤ cd ∧ Kd.C kEn w2 Ad S.dir.length (S.dir.map mkE)) := ⟨HCD.out.1, Kd.C_below HCD.out.2 HB2.out⟩; clear c2 q0 HCD; rcases HZ.out with ⟨hz0, hno⟩ | ⟨j, hz0, hso⟩; rotate_left
        · subst hz0; clear HZ
          have HE : Aside0 (newOf room fs = (S, 34)) := ⟨by
            have e1 : newErr S ⟨f0, f1⟩ = 34 := by unfold newErr; rw [if_neg (by rw [← HR.out]; decide), if_pos hso]
            rw [HOP.out, HST.out.1 (by rw [e1]; decide), e1]; rfl⟩
          clear hso; go_wp2_with fail
          go_ret2; rw [HE.out]; exact ⟨.inr ⟨by show (34 : Int) ≠ 0; decide, rfl⟩, HBW2.out⟩
        · subst hz0; clear HZ; have HNO := Aside0.mk hno; have k1 := (blk_cell HBF2.out 1).trans rfl; clear hno; by_cases hbig : (L : Int) > 4194304
          · have b4 : decide ((L : Int) > 4194304) = true := decide_eq_true hbig
            have HE : Aside0 (newOf room fs = (S, 1)) := ⟨by
              have e1 : newErr S ⟨f0, f1⟩ = 1 := by unfold newErr; rw [if_neg (by rw [← HR.out]; decide), if_neg (by rw [HNO.out]; decide), if_pos (by show f1.length > 4194304; rw [← HL.out]; omega)]
              rw [HOP.out, HST.out.1 (by rw [e1]; decide), e1]; rfl⟩
            clear hbig; go_wp2_with fail
            go_ret2; rw [HE.out]; exact ⟨.inr ⟨by show (1 : Int) ≠ 0; decide, rfl⟩, HBW2.out⟩
          have b4 : decide ((L : Int) > 4194304) = false := decide_eq_false hbig; have HE : Aside0 (newErr S ⟨f0, f1⟩ = 0) := ⟨by unfold newErr; rw [if_neg (by rw [← HR.out]; decide), if_neg (by rw [HNO.out]; decide), if_neg (by show ¬ f1.length > 4194304; rw [← HL.out]; omega)]⟩; have HLB : Aside0 ((L : Int) ≤ 4194304) := ⟨by omega⟩; have hub := HMid.out.usedB; have hue : u = used S := HU.out; rw [← hue] at hub; clear hbig hue; go_upto_region 18 with (fail)
          clear b4 k1 hub; have c2 := (blk_cell HM2.out.blk 2).trans rfl; have z2 := blk_frozen HM2.out.blk 2; have q0 := (blk_cell HBF2.out 0).trans rfl; refine start_ (n := 12) (S := fun w' => w'.cell? ⟨d, 2, none⟩ = some (.slice Ad S.dir.length cd) ∧ w'.cell? ⟨B, 0, none⟩ = some (.string f0)) (ds := [11]) (bm 12 0) (by kernel_rfl) rfl rfl ⟨c2, q0⟩ (fun hHeld => ?_); refine pure_ (i := 0) (N := some 49) (v:=?_) (a':=?_) (bm 12 1) rfl rfl (by kernel_rfl) (fun _ _ _ h => h) (Or.inl ⟨by rfl, ?_⟩) ?_ ?_; rotate_left
          · intro w'; go_simp; with_reducible rfl
          rotate_left
          · simp only [Act.put,s_a,s_b,s_c,i64_w,i32_w]; rfl
          refine pure_ (i := 1) (N := some 50) (v:=?_) (a':=?_) (bm 12 3) rfl rfl (by kernel_rfl) (fun _ _ _ h => h) (Or.inl ⟨by rfl, ?_⟩) ?_ ?_; rotate_left
          · intro w'; go_simp; with_reducible rfl
          rotate_left
          · simp only [Act.put,s_a,s_b,s_c,i64_w,i32_w]; rfl
          refine pure_ (i := 2) (N := some 51) (v:=?_) (a':=?_) (bm 12 7) rfl rfl (by kernel_rfl) (fun _ _ _ h => h) (Or.inl ⟨by rfl, ?_⟩) ?_ ?_; rotate_left
          · intro w'; go_simp; with_reducible rfl
          rotate_left
          · simp only [Act.put,s_a,s_b,s_c,i64_w,i32_w]; rfl
          refine pure_ (i := 3) (N := some 52) (v:=?_) (a':=?_) (bm 12 15) rfl rfl (by kernel_rfl) (fun _ _ _ h => h) (Or.inl ⟨by rfl, ?_⟩) ?_ ?_; rotate_left
          · intro w'; go_simp; with_reducible rfl
          rotate_left
          · simp only [Act.put,s_a,s_b,s_c,i64_w,i32_w]; rfl
          refine pure_ (i := 5) (N := some 54) (v:=?_) (a':=?_) (bm 12 47) rfl rfl (by kernel_rfl) (fun _ _ _ h => h) (Or.inl ⟨by rfl, ?_⟩) ?_ ?_; rotate_left
          · intro w'; go_simp; with_reducible rfl
          rotate_left
          · simp only [Act.put,s_a,s_b,s_c,i64_w,i32_w]; rfl
          refine pure_ (i := 7) (N := some 56) (v:=?_) (a':=?_) (bm 12 175) rfl rfl (by kernel_rfl) (fun _ _ _ h => h) (Or.inl ⟨by rfl, ?_⟩) ?_ ?_; rotate_left
          · intro w'; go_simp; with_reducible rfl
          rotate_left
          · simp only [Act.put,s_a,s_b,s_c,i64_w,i32_w]; rfl
          refine take_ (i := 4) (N := some 53) (v:=?_) (a':=?_) (bm 12 191) rfl rfl (by kernel_rfl) (fun _ _ _ h => h) (Or.inl ⟨by rfl, ?_⟩) hHeld ?_ ?_; rotate_left
          · rintro w' ⟨s0, s1⟩; go_simp; with_reducible rfl
          rotate_left
          · simp only [Act.put,s_a,s_b,s_c,i64_w,i32_w]; rfl
          refine take_ (i := 6) (N := some 55) (v:=?_) (a':=?_) (bm 12 255) rfl rfl (by kernel_rfl) (fun _ _ _ h => h) (Or.inl ⟨by rfl, ?_⟩) hHeld ?_ ?_; rotate_left
          · rintro w' ⟨s0, s1⟩; go_simp; with_reducible rfl
          rotate_left
          · simp only [Act.put,s_a,s_b,s_c,i64_w,i32_w]; rfl
          refine one_ (i := 8) (N := some 57) (bm 12 511) rfl rfl (by kernel_rfl) (by decide) (fun K hK => ?_); refine goes_ Try.func68 (by kernel_rfl) rfl #[.slice Ad S.dir.length cd, .string f0, .int .i64 (i : Int)] (by rfl) rfl rfl (by simp only [List.map_toArray, List.map_cons, List.map_nil]; rfl) ?_; refine (ref_with.at (Kd.C_below HCD2.out.2 (below_drew1 (Below.refl _ _))) HCD2.out.1 (by have := HDL.out; omega) f0 (i : Int)).mono ?_; rintro e w3 ⟨v3, rfl, hr, hb⟩; obtain ⟨A3, c3, hv3⟩ := Kd.R_slice hr; obtain ⟨n3, hn3⟩ : ∃ n3, n3 = ((with_ S.dir f0 (i : Int)).map mkE).length := ⟨_, rfl⟩; rw [← hn3] at hv3; clear hn3; subst hv3; have HR3 := Aside0.mk hr; have HB3 := Aside0.mk (below_step (below_drew1 (Below.refl w2.heap.size w2)) hb); have HM3 := Aside0.mk (HM2.out.below HB3.out); have x2 := (blk_cell HM3.out.blk 2).trans rfl; have xz2 := blk_frozen HM3.out.blk 2; clear hr hb; refine ⟨_, rfl, ?_⟩; refine hK.out _ _ ⟨pw_cell_below HB3.out c2, pw_cell_below HB3.out q0⟩ (fun hHeld => ?_); clear hK K; refine norm_ (a' := ?_) ?_ ?_; rotate_left
          · show Act.put _ (some 57) _ = _; simp only [Act.put,s_a,s_b,s_c,i64_w,i32_w]; rfl
          refine pure_ (i := 9) (N := some 58) (v:=?_) (a':=?_) (bm 12 1023) rfl rfl (by kernel_rfl) (fun _ _ _ h => h) (Or.inl ⟨by rfl, ?_⟩) ?_ ?_; rotate_left
          · intro w'; go_simp; with_reducible rfl
          rotate_left
          · simp only [Act.put,s_a,s_b,s_c,i64_w,i32_w]; rfl
          refine pure_ (i := 10) (N := some 59) (v:=?_) (a':=?_) (bm 12 2047) rfl rfl (by kernel_rfl) (fun _ _ _ h => h) (Or.inl ⟨by rfl, ?_⟩) ?_ ?_; rotate_left
          · intro w'; go_simp; with_reducible rfl
          rotate_left
          · simp only [Act.put,s_a,s_b,s_c,i64_w,i32_w]; rfl
          refine last_ (i := 11) (N := none) (bm 12 4095) rfl rfl (by kernel_rfl) (by decide) (fun K hK => ?_); refine skip_ (w1 := w3.setCell ⟨d, 2, none⟩ (.slice A3 n3 c3)) (by rfl) rfl ?_ ?_
          · go_simp
            try rfl
          refine hK.out _ _ ?_; clear hK K; refine done_ (by kernel_rfl) ?_; obtain ⟨w4, hw4⟩ : ∃ w4, w4 = w3.setCell ⟨d, 2, none⟩ (.slice A3 n3 c3) := ⟨_, rfl⟩; have HK4 : Aside0 (KeptL (fun k => k = d) w3 w4) := ⟨by rw [hw4]; exact (KeptL.refl (fun k => k = d) w3).setCell ⟨d, 2, none⟩ _ (.inl rfl)⟩
          have HM4 : Aside0 (RskM w4 (fun k => w.heap.size ≤ k) d { S with dir := with_ S.dir f0 (i : Int) } vf (.slice A3 n3 c3) vs vc) := ⟨by
            have hk := HK4.out; rw [hw4] at hk ⊢; exact RskM.put HM3.out.blk hk (blkR_put HM3.out.blk 2 _ rfl) HM3.out.fil (Kd.R_lower (Kd.R_mono (Kd.R_bound HR3.out) (ok' := fun k => w.heap.size ≤ k) (fun k hk => Nat.le_trans (Nat.le_trans HBW2.out.size (Nat.le_refl _)) hk.2.1)) (Nat.zero_le _)) HM3.out.safe HM3.out.chg HM3.out.fd⟩
          have HNB : Aside0 (B ≠ d) := ⟨blk_ne HBF2.out HM2.out.blk (by decide)⟩; have HBF4 := Aside0.mk ((HK4.out.block B (blk_lt (blk_below HBF2.out HB3.out)) HNB.out).trans (blk_below HBF2.out HB3.out)); have HBW4 : Aside0 (Below w.heap.size w w4) := ⟨(HBW2.out.trans (HB3.out.mono HBW2.out.size)).trans (HK4.out.below (Nat.le_trans HBW2.out.size HB3.out.size) (fun b e => by rw [e]; exact HM3.out.fd))⟩; have HG4 : Aside0 (Kd.C kB w4 A1 L f1) := ⟨Kd.C_below HG1.out.2 HBW4.out⟩; rw [← hw4]; clear hw4 c2 q0 z2 x2 xz2 HK4 HM3 HR3 HB3 HM2 HBF2 HCD2 HFD; obtain ⟨Af, cf, hvf, hcf, _⟩ := (show RskM w4 (fun k => w.heap.size ≤ k) d _ vf _ vs vc from HM4.out).filRow; obtain ⟨NF, hNF⟩ : ∃ NF, NF = S.files.length := ⟨_, rfl⟩; have hvf' : vf = .slice Af NF cf := by rw [hNF]; exact hvf
          subst hvf'; have HNF := Aside0.mk hNF; have HFLN : Aside0 ((S.files.length + 1) * 32 ≤ 140737488355328) := ⟨by rw [HMid.out.lenF]; omega⟩; have HLE : Aside0 ((S.files ++ [(f1, (L : Int))]).length = NF + 1) := ⟨by rw [List.length_append, hNF]; rfl⟩; have g1c : w4.cell? ⟨d, 1, none⟩ = some (.slice Af NF cf) := (blk_cell HM4.out.blk 1).trans rfl; have k1 := (blk_cell HBF4.out 1).trans rfl; clear hvf hcf hNF; go_upto_region 19 with (fail)
          refine start_ (n := 18) (S := fun w' => w'.cell? ⟨d, 1, none⟩ = some (.slice Af NF cf) ∧ w'.cell? ⟨B, 1, none⟩ = some (.slice A1 L c1)) (ds := [14, 17]) (bm 18 0) (by kernel_rfl) rfl rfl ⟨g1c, k1⟩ (fun hHeld => ?_); refine pure_ (i := 0) (N := some 60) (v:=?_) (a':=?_) (bm 18 1) rfl rfl (by kernel_rfl) (fun _ _ _ h => h) (Or.inl ⟨by rfl, ?_⟩) ?_ ?_; rotate_left
          · intro w'; go_simp; with_reducible rfl
          rotate_left
          · simp only [Act.put,s_a,s_b,s_c,i64_w,i32_w]; rfl
          refine pure_ (i := 1) (N := some 61) (v:=?_) (a':=?_) (bm 18 3) rfl rfl (by kernel_rfl) (fun _ _ _ h => h) (Or.inl ⟨by rfl, ?_⟩) ?_ ?_; rotate_left
          · intro w'; go_simp; with_reducible rfl
          rotate_left
          · simp only [Act.put,s_a,s_b,s_c,i64_w,i32_w]; rfl
          refine pure_ (i := 2) (N := some 62) (v:=?_) (a':=?_) (bm 18 7) rfl rfl (by kernel_rfl) (fun _ _ _ h => h) (Or.inl ⟨by rfl, ?_⟩) ?_ ?_; rotate_left
          · intro w'; go_simp; with_reducible rfl
          rotate_left
          · simp only [Act.put,s_a,s_b,s_c,i64_w,i32_w]; rfl
          refine pure_ (i := 3) (N := some 63) (v:=?_) (a':=?_) (bm 18 15) rfl rfl (by kernel_rfl) (fun _ _ _ h => h) (Or.inl ⟨by rfl, ?_⟩) ?_ ?_; rotate_left
          · intro w'; go_simp; with_reducible rfl
          rotate_left
          · simp only [Act.put,s_a,s_b,s_c,i64_w,i32_w]; rfl
          refine pure_ (i := 6) (N := some 66) (v:=?_) (a':=?_) (bm 18 79) rfl rfl (by kernel_rfl) (fun _ _ _ h => h) (Or.inl ⟨by rfl, ?_⟩) ?_ ?_; rotate_left
          · intro w'; go_simp; with_reducible rfl
          rotate_left
          · simp only [Act.put,s_a,s_b,s_c,i64_w,i32_w]; rfl
          refine pure_ (i := 9) (N := some 69) (v:=?_) (a':=?_) (bm 18 591) rfl rfl (by kernel_rfl) (fun _ _ _ h => h) (Or.inl ⟨by rfl, ?_⟩) ?_ ?_; rotate_left
          · intro w'; go_simp; with_reducible rfl
          rotate_left
          · simp only [Act.put,s_a,s_b,s_c,i64_w,i32_w]; rfl
          refine take_ (i := 4) (N := some 64) (v:=?_) (a':=?_) (bm 18 607) rfl rfl (by kernel_rfl) (fun _ _ _ h => h) (Or.inl ⟨by rfl, ?_⟩) hHeld ?_ ?_; rotate_left
          · rintro w' ⟨s0, s1⟩; go_simp; with_reducible rfl
          rotate_left
          · simp only [Act.put,s_a,s_b,s_c,i64_w,i32_w]; rfl
          refine take_ (i := 7) (N := some 67) (v:=?_) (a':=?_) (bm 18 735) rfl rfl (by kernel_rfl) (fun _ _ _ h => h) (Or.inl ⟨by rfl, ?_⟩) hHeld ?_ ?_; rotate_left
          · rintro w' ⟨s0, s1⟩; go_simp; with_reducible rfl
          rotate_left
          · simp only [Act.put,s_a,s_b,s_c,i64_w,i32_w]; rfl
          refine take_ (i := 10) (N := some 70) (v:=?_) (a':=?_) (bm 18 1759) rfl rfl (by kernel_rfl) (fun _ _ _ h => h) (Or.inl ⟨by rfl, ?_⟩) hHeld ?_ ?_; rotate_left
          · rintro w' ⟨s0, s1⟩; go_simp; with_reducible rfl
          rotate_left
          · simp only [Act.put,s_a,s_b,s_c,i64_w,i32_w]; rfl
          refine pure_ (i := 11) (N := some 71) (v:=?_) (a':=?_) (bm 18 3807) rfl rfl (by kernel_rfl) (fun _ _ _ h => h) (Or.inl ⟨by rfl, ?_⟩) ?_ ?_; rotate_left
          · intro w'; go_simp; with_reducible rfl
          rotate_left
          · simp only [Act.put,s_a,s_b,s_c,i64_w,i32_w]; rfl
          refine one_ (i := 5) (N := some 65) (bm 18 3839) rfl rfl (by kernel_rfl) (by decide) (fun K hK => ?_); refine Kd.R_lit_step (Kd.int .u8) (w0 := w4) w4.heap.size 5 (by rfl) rfl (xs := ([] : List Int)) (inner := []) (ok := fun _ => True) (okp := fun _ => True) ?hr (Reps.none _ _) (fun _ hk => hk) trivial (below_drew1 (Below.refl _ _)) (Nat.le_refl _) (by simp) ?_
          case hr => first | (go_simp; done) | (go_simp; rfl)
          intro v5 w5 ho5 hb5 hg5 hn5; have HO5 := Aside0.mk ho5; have HB5 := Aside0.mk hb5; clear ho5 hb5 hg5 hn5; refine hK.out _ _ ⟨pw_cell_below HB5.out g1c, pw_cell_below HB5.out k1⟩ (fun hHeld => ?_); clear hK K; refine norm_ (a' := ?_) ?_ ?_; rotate_left
          · show Act.put _ (some 65) _ = _; simp only [Act.put,s_a,s_b,s_c,i64_w,i32_w]; rfl
          refine one_ (i := 8) (N := some 68) (bm 18 4095) rfl rfl (by kernel_rfl) (by decide) (fun K hK => ?_); refine Kd.R_append_rows_step (Kd.int .u8) (w0 := w4) w4.heap.size (by rfl) (.tmp 65) (.tmp 67) 53 5 (.int .u8 0) 1 rfl Try.underlying53 infoB rfl (by decide) (by decide) v5 ([] : List Int) f1 A1 L c1 (fun _ => True) (fun _ => False) rfl rfl HO5.out (Kd.C_below HG4.out HB5.out) (fun _ _ h => h) (fun _ h => h.elim) (fun _ _ => trivial) HB5.out HB5.out.size (by simp only [List.length_nil]; have := HLB.out; omega) ?_; intro v6 w6 ho6 hb6 hg6 hat6; rw [List.nil_append] at ho6; obtain ⟨A6, c6, hv6⟩ := Kd.R_slice ho6; rw [← HL.out] at hv6; subst hv6; have HO6 := Aside0.mk ho6; have HB6 := Aside0.mk hb6; have HM6 := Aside0.mk (HM4.out.below hb6); clear ho6 hb6 hg6 hat6; refine hK.out _ _ ⟨pw_cell_below HB6.out g1c, pw_cell_below HB6.out k1⟩ (fun hHeld => ?_); clear hK K; refine norm_ (a' := ?_) ?_ ?_; rotate_left
          · show Act.put _ (some 68) _ = _; simp only [Act.put,s_a,s_b,s_c,i64_w,i32_w]; rfl
          refine pure_ (i := 12) (N := some 72) (v:=?_) (a':=?_) (bm 18 8191) rfl rfl (by kernel_rfl) (fun _ _ _ h => h) (Or.inl ⟨by rfl, ?_⟩) ?_ ?_; rotate_left
          · intro w'; go_simp; with_reducible rfl
          rotate_left
          · simp only [Act.put,s_a,s_b,s_c,i64_w,i32_w]; rfl
          refine one_ (i := 13) (N := some 73) (bm 18 16383) rfl rfl (by kernel_rfl) (by decide) (fun K hK => ?_); refine value_ (w1 := w6.alloc (.cells #[.slice A6 L c6, .int .i64 (L : Int)] 113)) (v := .slice (some ⟨w6.heap.size, 0, none⟩) 1 1) (by rfl) rfl ?_ ?_
          · go_simp
            try rfl
          refine hK.out _ _ ⟨pw_cell_below (below_alloc (Below.refl w6.heap.size w6) _) hHeld.1, pw_cell_below (below_alloc (Below.refl w6.heap.size w6) _) hHeld.2⟩ (fun hHeld => ?_); clear hK K; refine norm_ (a' := ?_) ?_ ?_; rotate_left
          · show Act.put _ (some 73) _ = _; simp only [Act.put,s_a,s_b,s_c,i64_w,i32_w]; rfl
          refine last_ (i := 14) (N := some 74) (bm 18 32767) rfl rfl (by kernel_rfl) (by decide) (fun K hK => ?_); refine Kd.R_append_step kBd (w0 := w6) (W := w6) 0 (by rfl) (.tmp 64) (.tmp 73) 75 113 (.agg #[.slice none 0 0, .int .i64 0]) 32 (by rfl) Try.underlying75 infoBd rfl (by decide) (by decide) (.slice Af NF cf) S.files (f1, (L : Int)) [.slice A6 L c6, .int .i64 (L : Int)] (fun k => w.heap.size ≤ k) (fun k => w4.heap.size ≤ k) (by rfl) (by rfl) (kBd_mk _ _ _ (f1, (L : Int)) (Kd.R_lower (Kd.R_mono (Kd.R_bound HO6.out) (fun k hk => hk.2.1)) (Nat.zero_le _))) (fun k hk => ⟨Nat.le_trans HBW4.out.size hk, fun e => by have := Kd.R_lt HM4.out.fil k e.symm; omega⟩) (fun k hk => Nat.le_trans (Nat.le_trans HBW4.out.size HB6.out.size) hk) HM6.out.fil (Below.refl _ _) (Nat.zero_le _) HFLN.out ?_; intro v8 w8 ho hb hg hat; obtain ⟨A8, c8, hv8⟩ := Kd.R_slice ho; rw [HLE.out] at hv8; subst hv8; have HO8 := Aside0.mk ho; have HG8 := Aside0.mk hg; have BD8 := Aside0.mk (blk_grown HM6.out.blk hg (fun e => Kd.R_ne HM6.out.fil HM6.out.blk (by decide) e)); have x1 := (blk_cell BD8.out 1).trans rfl; have xz1 := blk_frozen BD8.out 1; clear ho hb hg hat; refine hK.out _ _ ?_; clear hK K; refine norm_ (a' := ?_) ?_ ?_; rotate_left
          · show Act.put _ (some 74) _ = _; simp only [Act.put,s_a,s_b,s_c,i64_w,i32_w]; rfl
          refine pure_ (i := 15) (N := some 75) (v:=?_) (a':=?_) (bm 18 65535) rfl rfl (by kernel_rfl) (fun _ _ _ h => h) (Or.inl ⟨by rfl, ?_⟩) ?_ ?_; rotate_left
          · intro w'; go_simp; with_reducible rfl
          rotate_left
          · simp only [Act.put,s_a,s_b,s_c,i64_w,i32_w]; rfl
          refine pure_ (i := 16) (N := some 76) (v:=?_) (a':=?_) (bm 18 131071) rfl rfl (by kernel_rfl) (fun _ _ _ h => h) (Or.inl ⟨by rfl, ?_⟩) ?_ ?_; rotate_left
          · intro w'; go_simp; with_reducible rfl
          rotate_left
          · simp only [Act.put,s_a,s_b,s_c,i64_w,i32_w]; rfl
          refine last_ (i := 17) (N := none) (bm 18 262143) rfl rfl (by kernel_rfl) (by decide) (fun K hK => ?_); refine skip_ (w1 := w8.setCell ⟨d, 1, none⟩ (.slice A8 (NF + 1) c8)) (by rfl) rfl ?_ ?_
          · go_simp
            try rfl
          refine hK.out _ _ ?_; clear hK K; refine done_ (by kernel_rfl) ?_; obtain ⟨w9, hw9⟩ : ∃ w9, w9 = w8.setCell ⟨d, 1, none⟩ (.slice A8 (NF + 1) c8) := ⟨_, rfl⟩
          have HNX : Aside0 (∃ S vf vd vs vc, RskM w9 (fun k => w.heap.size ≤ k) d S vf vd vs vc ∧ Mid room S (i + 1) ∧ newGo (ds0 room) fs = newGo S (fs.drop (i + 1)) ∧ Below w.heap.size w w9 ∧ u + (L : Int) = used S) := ⟨by
            have hk : KeptL (fun k => k = d) w8 w9 := by rw [hw9]; exact (KeptL.refl (fun k => k = d) w8).setCell ⟨d, 1, none⟩ _ (.inl rfl)
            have hst := HST.out.2 HE.out; have hmid := HMid.out.add (by have h1 := HRB.out.2.2; rw [HN.out] at h1; omega) HFO.out HE.out
            have hm : RskM w9 (fun k => w.heap.size ≤ k) d (newAdd S ⟨f0, f1⟩) (.slice A8 (NF + 1) c8) (.slice A3 n3 c3) vs vc := by
              refine RskM.put (S := newAdd S ⟨f0, f1⟩) BD8.out hk (by rw [hw9]; exact blkR_put BD8.out 1 _ rfl) ?_ ?_ ?_ ?_ HM4.out.fd
              · show Kd.R kBd _ w8 0 _ _ (S.files ++ [(f1, (f1.length : Int))]); rw [← HL.out]; exact HO8.out
              · show Kd.R kEn _ w8 0 _ _ ((with_ S.dir f0 (S.files.length : Int)).map mkE); rw [HMid.out.lenF]; exact R_grow HM6.out.dir HM6.out.fil (by decide) HG8.out
              · exact R_grow HM6.out.safe HM6.out.fil (by decide) HG8.out
              · exact R_grow HM6.out.chg HM6.out.fil (by decide) HG8.out
            refine ⟨_, _, _, _, _, hm, hmid, hst, ?_, ?_⟩
            · exact (HBW4.out.trans (HB6.out.mono HBW4.out.size)).trans (((KeptL.refl (fun k => w.heap.size ≤ k) w6).grown HG8.out (fun k e => .inl (HM6.out.fil.1 k e)) |>.trans (hk.mono (fun k e => by rw [e]; exact HM4.out.fd))).below (Nat.le_trans HBW4.out.size HB6.out.size) (fun b hb => hb))
            · rw [HMid.out.used_add (f := ⟨f0, f1⟩) HNO.out, HU.out, HL.out]⟩
          rw [← hw9]; have hub := HMid.out.usedB; rw [← HU.out] at hub; have hlb4 := HLB.out; clear hw9 g1c k1 x1 xz1; go_wp2_with fail
          go_roundw
          case rel => exact ⟨i + 1, by omega, by go_num, u + (L : Int), by first | rfl | (congr 1; exact w64L (by omega) (by omega)) | (rw [w64L (by omega) (by omega)]), HNX⟩
          case measure => simp [intOf]; omega
    · have hiN : i = N := by omega
      subst hiN; have HGN : Aside0 (newGo (ds0 room) fs = (S, 0)) := ⟨by rw [HGO.out, List.drop_eq_nil_of_le (by rw [HN.out]; exact Nat.le_refl _)]; rfl⟩; clear hM hMid hgo hBr hu; by_cases hu : u > room
      · have b1 : decide (u > room) = true := decide_eq_true hu
        have HE : Aside0 (newOf room fs = (S, 5)) := ⟨by
          rw [HOP.out, HGN.out]; unfold newEnd; rw [if_neg (by show ¬ (0 : Int) ≠ 0; decide), if_pos (by rw [HMid.out.e6, ← HU.out]; exact hu)]⟩
        clear hu; go_wp2_with fail
        go_ret2; rw [HE.out]; exact ⟨.inr ⟨by show (5 : Int) ≠ 0; decide, rfl⟩, HBR.out⟩
      · have b1 : decide (u > room) = false := decide_eq_false hu
        have HE : Aside0 (newOf room fs = ({ S with safe := S.dir }, 0)) := ⟨by
          rw [HOP.out, HGN.out]; unfold newEnd; rw [if_neg (by show ¬ (0 : Int) ≠ 0; decide), if_neg (by rw [HMid.out.e6, ← HU.out]; exact hu)]⟩
        obtain ⟨Ad, cd, hvd, hcd, hCd⟩ := HM.out.dirRow; obtain ⟨ND, hND⟩ : ∃ ND, ND = S.dir.length := ⟨_, rfl⟩; rw [← hND] at hvd; subst hvd; have c2 := (blk_cell HM.out.blk 2).trans rfl; have c3 := (blk_cell HM.out.blk 3).trans rfl; have z3 := blk_frozen HM.out.blk 3; clear hu hcd hCd hND; go_wp2_with fail
        go_ret2; rw [HE.out]; have hk := (KeptL.refl (fun k => k = d) wr).setCell ⟨d, 3, none⟩ (.slice Ad ND cd) (.inl rfl); have hm := RskM.put (S := { S with safe := S.dir }) HM.out.blk hk (blkR_put HM.out.blk 3 _ rfl) HM.out.fil HM.out.dir HM.out.dir HM.out.chg HM.out.fd; have hB : Below w.heap.size w (wr.setCell ⟨d, 3, none⟩ (.slice Ad ND cd)) := HBR.out.trans (hk.below HBR.out.size (fun b e => by rw [e]; exact HM.out.fd)); have ht := RskM.tight (F := fun _ => False) (n0 := w.heap.size) (hm.wide (fun k hk => .inr hk)); exact ⟨.inl ⟨rfl, d, rfl, HMid.out.fin, fun k hk => hk.2, vf, .slice Ad ND cd, .slice Ad ND cd, vc, ht.wide (fun k hk => hk.elim False.elim id)⟩, hB⟩
end Go.Proofs.Ytdekcjopgnfmdaa.Hand
