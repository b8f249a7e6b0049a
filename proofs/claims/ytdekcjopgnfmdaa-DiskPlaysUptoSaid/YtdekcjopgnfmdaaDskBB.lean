/- The document's disk: changed, change. -/
import Derived.Test.YtdekcjopgnfmdaaDskBA
namespace Go.Proofs.Ytdekcjopgnfmdaa.Hand
open Go.RowKit Go.Maps Go.Proofs.YtdekcjopgnfmdaaW.PrintWords Go.Proofs.YtdekcjopgnfmdaaW.PrintLast Go.Proofs.YtdekcjopgnfmdaaW.PrintMore Go.Proofs.Ytdekcjopgnfmdaa.Q
set_option linter.unusedVariables false
set_option linter.unusedSimpArgs false
theorem ref_find.at {w : World} {A : Option Addr} {n c : Nat} {l : List Ent} (hC : Kd.C kEn w A n (l.map mkE)) (hc : n ≤ c) (hl : l.length ≤ 1048640) (s : ByteArray) :
    Calls Try.prog 67 #[.slice A n c, .string s] w fun e w' => Below w.heap.size w w' ∧ ((e = .returned (.int .i64 (-1)) ∧ has l s = none) ∨ ∃ j, ∃ hj : j < l.length, e = .returned (.int .i64 (j : Int)) ∧ has l s = some l[j]) := by
  have hn : (l.map mkE).length = n := hC.1; obtain ⟨r, hev, hcase⟩ := find_ev (l := l) (by omega) s; obtain ⟨k, hk⟩ := hev.rounds; have h := wicketref05_find.calls k A c (l.map mkE) s r w (by rw [hn]; exact hC) (by rw [hn]; exact hc) hk; rw [hn] at h; refine h.mono ?_; rintro e w' ⟨rfl, hd⟩; refine ⟨hd.below, ?_⟩; rcases hcase with ⟨rfl, h0⟩ | ⟨j, hj, rfl, h0⟩
  · exact .inl ⟨rfl, h0⟩
  · exact .inr ⟨j, hj, rfl, h0⟩
theorem ref_without.at {w : World} {A : Option Addr} {n c : Nat} {l : List Ent} (hC : Kd.C kEn w A n (l.map mkE)) (hc : n ≤ c) (hl : l.length ≤ 1048640) (s : ByteArray) :
    Calls Try.prog 78 #[.slice A n c, .string s] w fun e w' => ∃ v, e = .returned v ∧ Kd.R kEn 115 w' w.heap.size (fun _ => True) v ((without l s).map mkE) ∧ Below w.heap.size w w' := by
  have hn : (l.map mkE).length = n := hC.1; obtain ⟨k, hk⟩ := (without_ev (l := l) (by omega) s).rounds; have h := wicketref05_without.calls k A c (l.map mkE) s _ w (by rw [hn]; exact hC) (by rw [hn]; exact hc) hk; rw [hn] at h; exact h
theorem ref_with.at {w : World} {A : Option Addr} {n c : Nat} {l : List Ent} (hC : Kd.C kEn w A n (l.map mkE)) (hc : n ≤ c) (hl : l.length ≤ 1048640) (s : ByteArray) (f : Int) :
    Calls Try.prog 68 #[.slice A n c, .string s, .int .i64 f] w fun e w' => ∃ v, e = .returned v ∧ Kd.R kEn 115 w' w.heap.size (fun _ => True) v ((with_ l s f).map mkE) ∧ Below w.heap.size w w' := by
  have hn : (l.map mkE).length = n := hC.1; obtain ⟨k, hk⟩ := (with_ev (l := l) (by omega) s f).rounds; have h := wicketref05_with.calls k A c (l.map mkE) s f _ w (by rw [hn]; exact hC) (by rw [hn]; exact hc) hk; rw [hn] at h; exact h
set_option maxHeartbeats 2000000 in
theorem ref_changed.calls {w : World} {A : Option Addr} {n c : Nat} {l : List Ent} (hC : Kd.C kEn w A n (l.map mkE)) (hc : n ≤ c) (hl : l.length ≤ 1048640) (a b : ByteArray) (f : Int) :
    Calls Try.prog 71 #[.slice A n c, .agg #[.string a, .string b, .int .i64 f]] w fun e w' => ∃ v, e = .returned v ∧ Below w.heap.size w w' ∧ ((v = .slice A n c ∧ turn l (a, b, f) = l) ∨ Kd.R kEn 115 w' w.heap.size (fun _ => True) v ((turn l (a, b, f)).map mkE)) := by
  have HC := Aside0.mk (Kd.C_below hC (below_alloc (Below.refl _ _) (.cells #[.string a, .string b, .int .i64 f] 119))); have HCc := Aside0.mk hc; have HL := Aside0.mk hl; have BK := Aside0.mk (blk_new w (.cells #[.string a, .string b, .int .i64 f] 119)); have HB := Aside0.mk (below_alloc (Below.refl w.heap.size w) (.cells #[.string a, .string b, .int .i64 f] 119)); have d0 := (blk_cell BK.out 0).trans rfl; have d1 := (blk_cell BK.out 1).trans rfl; have d2 := (blk_cell BK.out 2).trans rfl; clear hC hc hl; by_cases ea : a.size = 0
  · have t0 := emp_eq ea; by_cases eb : b.size = 0
    · have t1 := emp_eq eb; have HR : Aside0 (turn l (a, b, f) = l) := ⟨by unfold turn turn1; rw [if_pos eb, if_pos ea]⟩; clear ea eb; go_enter Try.func71, Try.ntmps71
      go_wp2_with fail
      go_ret; exact ⟨_, rfl, HB.out, .inl ⟨rfl, HR.out⟩⟩
    · have t1 := emp_ne eb; have HR : Aside0 (turn l (a, b, f) = with_ l b f) := ⟨by unfold turn turn1; rw [if_neg eb, if_pos ea]⟩; clear ea eb; go_enter Try.func71, Try.ntmps71
      go_wp2_with fail
      refine (ref_with.at HC.out HCc.out HL.out b f).mono ?_; rintro e w2 ⟨v, rfl, hr, hb⟩; have H2 := Aside0.mk (And.intro hr hb); clear hr hb; go_wp2_with fail
      go_ret; exact ⟨_, rfl, below_step HB.out H2.out.2, .inr (by rw [HR.out]; exact Kd.R_lower H2.out.1 HB.out.size)⟩
  · have t0 := emp_ne ea; by_cases eb : b.size = 0
    · have t1 := emp_eq eb; have HR : Aside0 (turn l (a, b, f) = without l a) := ⟨by unfold turn turn1; rw [if_pos eb, if_neg ea]⟩; clear ea eb; go_enter Try.func71, Try.ntmps71
      go_wp2_with fail
      refine (ref_without.at HC.out HCc.out HL.out a).mono ?_; rintro e w2 ⟨v, rfl, hr, hb⟩; have H2 := Aside0.mk (And.intro hr hb); have x1 := pw_cell_below hb d1; clear hr hb; go_wp2_with fail
      go_ret; exact ⟨_, rfl, below_step HB.out H2.out.2, .inr (by rw [HR.out]; exact Kd.R_lower H2.out.1 HB.out.size)⟩
    · have t1 := emp_ne eb; have HR : Aside0 (turn l (a, b, f) = with_ (without l a) b f) := ⟨by unfold turn turn1; rw [if_neg eb, if_neg ea]⟩; clear ea eb; go_enter Try.func71, Try.ntmps71
      go_wp2_with fail
      refine (ref_without.at HC.out HCc.out HL.out a).mono ?_; rintro e w2 ⟨v, rfl, hr, hb⟩; obtain ⟨A2, c2, hv⟩ := Kd.R_slice hr; obtain ⟨n2, hn2⟩ : ∃ n2, n2 = ((without l a).map mkE).length := ⟨_, rfl⟩; have hrd := (Kd.R_reads' (hv ▸ hr)).2; rw [← hn2] at hv hrd; subst hv; have HRD := Aside0.mk hrd; have H2 := Aside0.mk (below_step HB.out hb); have x1 := pw_cell_below hb d1; have x2 := pw_cell_below hb d2; clear hr hb hrd hn2; go_wp2_with fail
      refine (ref_with.at HRD.out.2 HRD.out.1 (Nat.le_trans (without_len _ _) HL.out) b f).mono ?_; rintro e w3 ⟨v3, rfl, hr3, hb3⟩; have H3 := Aside0.mk (And.intro hr3 (below_step H2.out hb3)); have HS2 := Aside0.mk H2.out.size; clear hr3 hb3 x1 x2; go_wp2_with fail
      go_ret; exact ⟨_, rfl, H3.out.2, .inr (by rw [HR.out]; exact Kd.R_lower H3.out.1 HS2.out)⟩
theorem R_tight0 {α : Type} {k : Kd α} {e n0 : Nat} {w : World} {F : Nat → Prop} {v : Value} {xs : List α} (h : Kd.R k e w 0 (fun k => F k ∨ n0 ≤ k) v xs) : Kd.R k e w 0 (fun k => F k ∨ (n0 ≤ k ∧ k < w.heap.size)) v xs :=
  Kd.R_mono (Kd.R_bound h) (fun k hk => hk.1.imp id (fun h => ⟨h, hk.2.2.1⟩))
theorem RskM.tight {w : World} {F : Nat → Prop} {n0 d : Nat} {S : DS} {vf vd vs vc : Value} (h : RskM w (fun k => F k ∨ n0 ≤ k) d S vf vd vs vc) : RskM w (fun k => F k ∨ (n0 ≤ k ∧ k < w.heap.size)) d S vf vd vs vc :=
  ⟨h.blk, R_tight0 h.fil, R_tight0 h.dir, R_tight0 h.safe, R_tight0 h.chg, h.fd.imp id (fun hh => ⟨hh, blk_lt h.blk⟩)⟩
theorem RskM.wide {w : World} {F G : Nat → Prop} {d : Nat} {S : DS} {vf vd vs vc : Value} (h : RskM w F d S vf vd vs vc) (hFG : ∀ k, F k → G k) : RskM w G d S vf vd vs vc :=
  ⟨h.blk, Kd.R_mono h.fil hFG, Kd.R_mono h.dir hFG, Kd.R_mono h.safe hFG, Kd.R_mono h.chg hFG, hFG _ h.fd⟩
/-- The disk's cells are written; its rows are told at the world before. -/
theorem RskM.put {w w' : World} {F : Nat → Prop} {d : Nat} {S : DS} {vf vd vs vc : Value} {cells : Array Value} (hold : w.heap[d]? = some (.cells cells 79 (0, 0))) (hk : KeptL (fun k => k = d) w w')
    (hb : w'.heap[d]? = some (.cells #[.int .i64 S.room, vf, vd, vs, vc, .int .i64 S.ops, .int .i64 S.armed, .bool S.dead] 79 (0, 0)))
    (h1 : Kd.R kBd 113 w 0 F vf S.files) (h2 : Kd.R kEn 115 w 0 F vd (S.dir.map mkE)) (h3 : Kd.R kEn 115 w 0 F vs (S.safe.map mkE)) (h4 : Kd.R kC 119 w 0 F vc S.chg) (fd : F d) : RskM w' F d S vf vd vs vc :=
  ⟨hb, R_beside h1 hold (by decide) hk, R_beside h2 hold (by decide) hk, R_beside h3 hold (by decide) hk, R_beside h4 hold (by decide) hk, fd⟩
/-- A row beside one of another type that grows. -/
theorem R_grow {α β : Type} {k : Kd α} {k2 : Kd β} {e e2 : Nat} {w w' : World} {F G : Nat → Prop} {v v2 : Value} {xs : List α} {ys : List β} (h : Kd.R k e w 0 F v xs) (h2 : Kd.R k2 e2 w 0 G v2 ys) (ht : ∀ q, q ∈ e :: k.E → q ≠ e2) (hg : w.grownBy w' v2.ownBlock) : Kd.R k e w' 0 F v xs :=
  Kd.R_mono (Kd.R_step (Kd.R_bound h) (fun k hk hl => hg.block k hl (fun e => by
    obtain ⟨_, _, _, q, hq, cells, hc⟩ := hk; obtain ⟨inner, ho⟩ := Kd.R_own h2; obtain ⟨cells2, hc2⟩ := own_typed ho k e.symm; rw [hc] at hc2; injection hc2 with hc2; injection hc2 with _ hc2; exact ht q hq hc2))) (fun _ h => h.1)
theorem KeptL.wide {F G : Nat → Prop} {w w' : World} (h : KeptL F w w') (hFG : ∀ k, k < w.heap.size → F k → G k) : KeptL G w w' := ⟨h.os, h.tape, h.output, h.size, fun b hb hn => h.block b hb (fun hf => hn (hFG b hb hf))⟩
theorem changed_row {w1 w2 : World} {F : Nat → Prop} {n0 d : Nat} {S : DS} {vf vd vs vc v : Value} {l' : List Ent} (h : RskM w2 F d S vf vd vs vc) (hn : n0 ≤ w1.heap.size) (hcase : (v = vd ∧ l' = S.dir) ∨ Kd.R kEn 115 w2 w1.heap.size (fun _ => True) v (l'.map mkE)) : Kd.R kEn 115 w2 0 (fun k => F k ∨ n0 ≤ k) v (l'.map mkE) := by
  rcases hcase with ⟨rfl, ht⟩ | hr
  · rw [ht]; exact Kd.R_mono h.dir (fun _ h => .inl h)
  · exact Kd.R_lower (Kd.R_mono (Kd.R_bound hr) (ok' := fun k => F k ∨ n0 ≤ k) (fun k hk => .inr (Nat.le_trans hn hk.2.1))) (Nat.zero_le _)
theorem kRC_M (w : World) (base : Nat) (ok : Nat → Prop) (c : Chg) : kC.M w base ok c [.string c.1, .string c.2.1, .int .i64 c.2.2] := ⟨[.string c.1], _, rfl, rfl, [.string c.2.1], [.int .i64 c.2.2], rfl, rfl, rfl⟩
set_option maxHeartbeats 2000000 in
set_option maxRecDepth 100000 in
theorem ref_change.calls {w : World} {F : Nat → Prop} {d : Nat} {S : DS} {vf vd vs vc : Value} (h : RskM w F d S vf vd vs vc) (hlD : S.dir.length ≤ 1048640) (hlC : S.chg.length ≤ 1048640) (a b : ByteArray) (f : Int) :
    Calls Try.prog 77 #[.pointer (some ⟨d, 0, none⟩), .agg #[.string a, .string b, .int .i64 f]] w fun e w' => (∃ v, e = .returned v) ∧ KeptL F w w' ∧ ∃ vd' vc', RskM w' (grow F w w') d (note S (a, b, f)) vf vd' vs vc' := by
  obtain ⟨Ad, cd, hvd⟩ := Kd.R_slice h.dir; obtain ⟨Ac, cc, hvc⟩ := Kd.R_slice h.chg; obtain ⟨N, hN⟩ : ∃ N, N = (S.dir.map mkE).length := ⟨_, rfl⟩; obtain ⟨NC, hNC⟩ : ∃ N, N = S.chg.length := ⟨_, rfl⟩; have hrd := (Kd.R_reads' (hvd ▸ h.dir)).2; rw [← hN] at hvd hrd; rw [← hNC] at hvc; subst hvd hvc; have HNC := Aside0.mk hNC; have HLC : Aside0 ((S.chg.length + 1) * 40 ≤ 140737488355328) := ⟨by omega⟩; have HLD := Aside0.mk hlD; have HH := Aside0.mk (h.below (below_alloc (Below.refl w.heap.size w) (.cells #[.string a, .string b, .int .i64 f] 119))); have HRD : Aside0 (N ≤ cd ∧ Kd.C kEn (w.alloc (.cells #[.string a, .string b, .int .i64 f] 119)) Ad N (S.dir.map mkE)) := ⟨hrd.1, Kd.C_below hrd.2 (below_alloc (Below.refl w.heap.size w) _)⟩; have HB := Aside0.mk (below_alloc (Below.refl w.heap.size w) (.cells #[.string a, .string b, .int .i64 f] 119)); have BK := Aside0.mk (blk_new w (.cells #[.string a, .string b, .int .i64 f] 119)); have HDW : Aside0 (d < w.heap.size) := ⟨blk_lt h.blk⟩; clear h hrd hN hNC hlD hlC; go_enter Try.func77, Try.ntmps77
  go_upto_region 1 with (fail)
  obtain ⟨w1, hw1⟩ : ∃ w1, w1 = w.alloc (.cells #[.string a, .string b, .int .i64 f] 119) := ⟨_, rfl⟩; obtain ⟨B, hB⟩ : ∃ B, B = w.heap.size := ⟨_, rfl⟩; rw [← hw1] at HH HRD HB BK; rw [← hB] at BK; have HBw : Aside0 (B = w.heap.size) := ⟨hB⟩; rw [← hw1]; rw [← hB]; clear hw1 hB; have b0 := (blk_cell BK.out 0).trans rfl; have b1 := (blk_cell BK.out 1).trans rfl; have b2 := (blk_cell BK.out 2).trans rfl; have c2 := (blk_cell HH.out.blk 2).trans rfl; refine start_ (n := 10) (S := fun w' => w'.cell? ⟨d, 2, none⟩ = some (.slice Ad N cd) ∧ w'.cell? ⟨B, 0, none⟩ = some (.string a) ∧ w'.cell? ⟨B, 1, none⟩ = some (.string b) ∧ w'.cell? ⟨B, 2, none⟩ = some (.int .i64 f)) (ds := [9]) (bm 10 0) (by kernel_rfl) rfl rfl ⟨c2, b0, b1, b2⟩ (fun hHeld => ?_); refine pure_ (i := 0) (N := some 4) (v:=?_) (a':=?_) (bm 10 1) rfl rfl (by kernel_rfl) (fun _ _ _ h => h) (Or.inl ⟨by rfl, ?_⟩) ?_ ?_; rotate_left
  · intro w'; go_simp; with_reducible rfl
  rotate_left
  · simp only [Act.put,s_a,s_b,s_c,i64_w,i32_w]; rfl
  refine pure_ (i := 1) (N := some 5) (v:=?_) (a':=?_) (bm 10 3) rfl rfl (by kernel_rfl) (fun _ _ _ h => h) (Or.inl ⟨by rfl, ?_⟩) ?_ ?_; rotate_left
  · intro w'; go_simp; with_reducible rfl
  rotate_left
  · simp only [Act.put,s_a,s_b,s_c,i64_w,i32_w]; rfl
  refine pure_ (i := 2) (N := some 6) (v:=?_) (a':=?_) (bm 10 7) rfl rfl (by kernel_rfl) (fun _ _ _ h => h) (Or.inl ⟨by rfl, ?_⟩) ?_ ?_; rotate_left
  · intro w'; go_simp; with_reducible rfl
  rotate_left
  · simp only [Act.put,s_a,s_b,s_c,i64_w,i32_w]; rfl
  refine pure_ (i := 3) (N := some 7) (v:=?_) (a':=?_) (bm 10 15) rfl rfl (by kernel_rfl) (fun _ _ _ h => h) (Or.inl ⟨by rfl, ?_⟩) ?_ ?_; rotate_left
  · intro w'; go_simp; with_reducible rfl
  rotate_left
  · simp only [Act.put,s_a,s_b,s_c,i64_w,i32_w]; rfl
  refine take_ (i := 4) (N := some 8) (v:=?_) (a':=?_) (bm 10 31) rfl rfl (by kernel_rfl) (fun _ _ _ h => h) (Or.inl ⟨by rfl, ?_⟩) hHeld ?_ ?_; rotate_left
  · rintro w' ⟨s0, s1, s2, s3⟩; go_simp; with_reducible rfl
  rotate_left
  · simp only [Act.put,s_a,s_b,s_c,i64_w,i32_w]; rfl
  refine take_ (i := 5) (N := some 9) (v:=?_) (a':=?_) (bm 10 63) rfl rfl (by kernel_rfl) (fun _ _ _ h => h) (Or.inl ⟨by rfl, ?_⟩) hHeld ?_ ?_; rotate_left
  · rintro w' ⟨s0, s1, s2, s3⟩; go_simp; with_reducible rfl
  rotate_left
  · simp only [Act.put,s_a,s_b,s_c,i64_w,i32_w]; rfl
  refine one_ (i := 6) (N := some 10) (bm 10 127) rfl rfl (by kernel_rfl) (by decide) (fun K hK => ?_); refine goes_ Try.func71 (by kernel_rfl) rfl #[.slice Ad N cd, .agg #[.string a, .string b, .int .i64 f]] (by rfl) rfl rfl (by simp only [List.map_toArray, List.map_cons, List.map_nil]; rfl) ?_; with_reducible refine (ref_changed.calls (Kd.C_below HRD.out.2 (below_drew1 (Below.refl _ _))) HRD.out.1 HLD.out a b f).mono ?_
  rintro e w2 ⟨v2, rfl, hb2, hcase⟩; have HB2 := Aside0.mk (below_step (below_drew1 (Below.refl w1.heap.size w1)) hb2); have H2 := Aside0.mk (HH.out.below HB2.out); have hd2 := changed_row (n0 := w.heap.size) H2.out HB.out.size hcase; obtain ⟨A2, c2_, hv2⟩ := Kd.R_slice hd2; obtain ⟨n2, hn2⟩ : ∃ n2, n2 = ((turn S.dir (a, b, f)).map mkE).length := ⟨_, rfl⟩; rw [← hn2] at hv2; clear hn2; subst hv2; have HD2 := Aside0.mk hd2; clear hd2; have x2 := (blk_cell H2.out.blk 2).trans rfl; have xz2 := blk_frozen H2.out.blk 2; clear hb2 hcase; refine ⟨_, rfl, ?_⟩; refine hK.out _ _ ⟨(blk_cell H2.out.blk 2).trans rfl, pw_cell_below HB2.out b0, pw_cell_below HB2.out b1, pw_cell_below HB2.out b2⟩ (fun hHeld => ?_); clear hK K; refine norm_ (a' := ?_) ?_ ?_; rotate_left
  · show Act.put _ (some 10) _ = _; simp only [Act.put,s_a,s_b,s_c,i64_w,i32_w]; rfl
  refine pure_ (i := 7) (N := some 11) (v:=?_) (a':=?_) (bm 10 255) rfl rfl (by kernel_rfl) (fun _ _ _ h => h) (Or.inl ⟨by rfl, ?_⟩) ?_ ?_; rotate_left
  · intro w'; go_simp; with_reducible rfl
  rotate_left
  · simp only [Act.put,s_a,s_b,s_c,i64_w,i32_w]; rfl
  refine pure_ (i := 8) (N := some 12) (v:=?_) (a':=?_) (bm 10 511) rfl rfl (by kernel_rfl) (fun _ _ _ h => h) (Or.inl ⟨by rfl, ?_⟩) ?_ ?_; rotate_left
  · intro w'; go_simp; with_reducible rfl
  rotate_left
  · simp only [Act.put,s_a,s_b,s_c,i64_w,i32_w]; rfl
  refine last_ (i := 9) (N := none) (bm 10 1023) rfl rfl (by kernel_rfl) (by decide) (fun K hK => ?_); refine skip_ (w1 := w2.setCell ⟨d, 2, none⟩ (.slice A2 n2 c2_)) (by rfl) rfl ?_ ?_
  · go_simp
    try rfl
  refine hK.out _ _ ?_; clear hK K; refine done_ (by kernel_rfl) ?_; have HK3 := Aside0.mk ((KeptL.refl (fun k => k = d) w2).setCell ⟨d, 2, none⟩ (.slice A2 n2 c2_) (.inl rfl)); have H3 : Aside0 (RskM (w2.setCell ⟨d, 2, none⟩ (.slice A2 n2 c2_)) (fun k => F k ∨ w.heap.size ≤ k) d { S with dir := turn S.dir (a, b, f) } vf (.slice A2 n2 c2_) vs (.slice Ac NC cc)) := ⟨RskM.put H2.out.blk HK3.out (blkR_put H2.out.blk 2 _ rfl) (Kd.R_mono H2.out.fil (fun _ h => .inl h)) HD2.out (Kd.R_mono H2.out.safe (fun _ h => .inl h)) (Kd.R_mono H2.out.chg (fun _ h => .inl h)) (.inl H2.out.fd)⟩; obtain ⟨w3, hw3⟩ : ∃ w3, w3 = w2.setCell ⟨d, 2, none⟩ (.slice A2 n2 c2_) := ⟨_, rfl⟩; rw [← hw3] at H3 HK3; rw [← hw3]; have HNE : Aside0 (B ≠ d) := ⟨by have := HBw.out; have := HDW.out; omega⟩; have BK3 : Aside0 (w3.heap[B]? = some (.cells #[.string a, .string b, .int .i64 f] 119 (0, 0))) := ⟨(HK3.out.block B (blk_lt (blk_below BK.out HB2.out)) HNE.out).trans (blk_below BK.out HB2.out)⟩; have HKW : Aside0 (KeptL (fun k => k = d) w w3) := ⟨(KeptL.of_below (below_step HB.out HB2.out)).trans HK3.out⟩; clear hw3 b0 b1 b2 c2 x2 xz2 H2 HD2 HK3 HH HRD; have b0 := (blk_cell BK3.out 0).trans rfl; have b1 := (blk_cell BK3.out 1).trans rfl; have b2 := (blk_cell BK3.out 2).trans rfl; have c4 := (blk_cell H3.out.blk 4).trans rfl; go_upto_region 2 with (fail)
  refine start_ (n := 11) (S := fun w' => w'.cell? ⟨d, 4, none⟩ = some (.slice Ac NC cc) ∧ w'.cell? ⟨B, 0, none⟩ = some (.string a) ∧ w'.cell? ⟨B, 1, none⟩ = some (.string b) ∧ w'.cell? ⟨B, 2, none⟩ = some (.int .i64 f)) (ds := [7, 10]) (bm 11 0) (by kernel_rfl) rfl rfl ⟨c4, b0, b1, b2⟩ (fun hHeld => ?_); refine pure_ (i := 0) (N := some 13) (v:=?_) (a':=?_) (bm 11 1) rfl rfl (by kernel_rfl) (fun _ _ _ h => h) (Or.inl ⟨by rfl, ?_⟩) ?_ ?_; rotate_left
  · intro w'; go_simp; with_reducible rfl
  rotate_left
  · simp only [Act.put,s_a,s_b,s_c,i64_w,i32_w]; rfl
  refine pure_ (i := 1) (N := some 14) (v:=?_) (a':=?_) (bm 11 3) rfl rfl (by kernel_rfl) (fun _ _ _ h => h) (Or.inl ⟨by rfl, ?_⟩) ?_ ?_; rotate_left
  · intro w'; go_simp; with_reducible rfl
  rotate_left
  · simp only [Act.put,s_a,s_b,s_c,i64_w,i32_w]; rfl
  refine pure_ (i := 2) (N := some 15) (v:=?_) (a':=?_) (bm 11 7) rfl rfl (by kernel_rfl) (fun _ _ _ h => h) (Or.inl ⟨by rfl, ?_⟩) ?_ ?_; rotate_left
  · intro w'; go_simp; with_reducible rfl
  rotate_left
  · simp only [Act.put,s_a,s_b,s_c,i64_w,i32_w]; rfl
  refine pure_ (i := 3) (N := some 16) (v:=?_) (a':=?_) (bm 11 15) rfl rfl (by kernel_rfl) (fun _ _ _ h => h) (Or.inl ⟨by rfl, ?_⟩) ?_ ?_; rotate_left
  · intro w'; go_simp; with_reducible rfl
  rotate_left
  · simp only [Act.put,s_a,s_b,s_c,i64_w,i32_w]; rfl
  refine take_ (i := 4) (N := some 17) (v:=?_) (a':=?_) (bm 11 31) rfl rfl (by kernel_rfl) (fun _ _ _ h => h) (Or.inl ⟨by rfl, ?_⟩) hHeld ?_ ?_; rotate_left
  · rintro w' ⟨s0, s1, s2, s3⟩; go_simp; with_reducible rfl
  rotate_left
  · simp only [Act.put,s_a,s_b,s_c,i64_w,i32_w]; rfl
  refine take_ (i := 5) (N := some 18) (v:=?_) (a':=?_) (bm 11 63) rfl rfl (by kernel_rfl) (fun _ _ _ h => h) (Or.inl ⟨by rfl, ?_⟩) hHeld ?_ ?_; rotate_left
  · rintro w' ⟨s0, s1, s2, s3⟩; go_simp; with_reducible rfl
  rotate_left
  · simp only [Act.put,s_a,s_b,s_c,i64_w,i32_w]; rfl
  refine one_ (i := 6) (N := some 19) (bm 11 127) rfl rfl (by kernel_rfl) (by decide) (fun K hK => ?_); refine value_ (w1 := w3.drew.alloc (.cells #[.string a, .string b, .int .i64 f] 119)) (v := .slice (some ⟨w3.heap.size, 0, none⟩) 1 1) (by rfl) rfl ?_ ?_
  · go_simp
    try rfl
  refine hK.out _ _ ⟨pw_cell_below (below_alloc (Below.refl w3.drew.heap.size w3.drew) _) hHeld.1, pw_cell_below (below_alloc (Below.refl w3.drew.heap.size w3.drew) _) hHeld.2.1, pw_cell_below (below_alloc (Below.refl w3.drew.heap.size w3.drew) _) hHeld.2.2.1, pw_cell_below (below_alloc (Below.refl w3.drew.heap.size w3.drew) _) hHeld.2.2.2⟩ (fun hHeld => ?_); clear hK K; refine norm_ (a' := ?_) ?_ ?_; rotate_left
  · show Act.put _ (some 19) _ = _; simp only [Act.put,s_a,s_b,s_c,i64_w,i32_w]; rfl
  refine last_ (i := 7) (N := some 20) (bm 11 255) rfl rfl (by kernel_rfl) (by decide) (fun K hK => ?_); refine Kd.R_append_step kC (w0 := w3.drew) (W := w3.drew) 0 (by rfl) (.tmp 17) (.tmp 19) 77 119 (.agg #[.string ⟨#[]⟩, .string ⟨#[]⟩, .int .i64 0]) 40 (by rfl) Try.underlying77 infoRC rfl (by decide) (by decide) (.slice Ac NC cc) S.chg (a, b, f) [.string a, .string b, .int .i64 f] (fun k => F k ∨ w.heap.size ≤ k) (fun _ => False) (by rfl) (by rfl) (kRC_M _ _ _ _) (fun _ h => h.elim) (fun k hk => .inr (Nat.le_trans HKW.out.size hk)) ?aO (Below.refl _ _) (Nat.zero_le _) HLC.out ?_
  case aO => exact Kd.R_drew H3.out.chg
  intro v7 w7 ho hb hg hat; obtain ⟨A7, c7, hv7⟩ := Kd.R_slice ho; obtain ⟨n7, hn7⟩ : ∃ n7, n7 = (S.chg ++ [(a, b, f)]).length := ⟨_, rfl⟩; rw [← hn7] at hv7; clear hn7; subst hv7; have HR7 := Aside0.mk ho; have HG7 : Aside0 (w3.drew.grownBy w7 (Value.slice Ac NC cc).ownBlock) := ⟨hg⟩; have H3d := Aside0.mk (H3.out.below (below_drew1 (Below.refl w3.heap.size w3))); have BD7 := Aside0.mk (blk_grown H3d.out.blk hg (fun e => Kd.R_ne H3d.out.chg H3d.out.blk (by decide) e)); have x4 := (blk_cell BD7.out 4).trans rfl; have xz4 := blk_frozen BD7.out 4; clear ho hb hg hat; refine hK.out _ _ ?_; clear hK K; refine norm_ (a' := ?_) ?_ ?_; rotate_left
  · show Act.put _ (some 20) _ = _; simp only [Act.put,s_a,s_b,s_c,i64_w,i32_w]; rfl
  refine pure_ (i := 8) (N := some 21) (v:=?_) (a':=?_) (bm 11 511) rfl rfl (by kernel_rfl) (fun _ _ _ h => h) (Or.inl ⟨by rfl, ?_⟩) ?_ ?_; rotate_left
  · intro w'; go_simp; with_reducible rfl
  rotate_left
  · simp only [Act.put,s_a,s_b,s_c,i64_w,i32_w]; rfl
  refine pure_ (i := 9) (N := some 22) (v:=?_) (a':=?_) (bm 11 1023) rfl rfl (by kernel_rfl) (fun _ _ _ h => h) (Or.inl ⟨by rfl, ?_⟩) ?_ ?_; rotate_left
  · intro w'; go_simp; with_reducible rfl
  rotate_left
  · simp only [Act.put,s_a,s_b,s_c,i64_w,i32_w]; rfl
  refine last_ (i := 10) (N := none) (bm 11 2047) rfl rfl (by kernel_rfl) (by decide) (fun K hK => ?_); refine skip_ (w1 := w7.setCell ⟨d, 4, none⟩ (.slice A7 n7 c7)) (by rfl) rfl ?_ ?_
  · go_simp
    try rfl
  refine hK.out _ _ ?_; clear hK K; refine done_ (by kernel_rfl) ?_; have HK8 := Aside0.mk ((KeptL.refl (fun k => k = d) w7).setCell ⟨d, 4, none⟩ (.slice A7 n7 c7) (.inl rfl)); have H8 : Aside0 (RskM (w7.setCell ⟨d, 4, none⟩ (.slice A7 n7 c7)) (fun k => F k ∨ w.heap.size ≤ k) d (note S (a, b, f)) vf (.slice A2 n2 c2_) vs (.slice A7 n7 c7)) := ⟨RskM.put BD7.out HK8.out (blkR_put BD7.out 4 _ rfl) (R_grow H3d.out.fil H3d.out.chg (by decide) HG7.out) (R_grow H3d.out.dir H3d.out.chg (by decide) HG7.out) (R_grow H3d.out.safe H3d.out.chg (by decide) HG7.out) HR7.out H3.out.fd⟩
  have HKE : Aside0 (KeptL F w (w7.setCell ⟨d, 4, none⟩ (.slice A7 n7 c7))) := ⟨by
    have h1 : KeptL (fun k => F k ∨ w.heap.size ≤ k) w (w7.setCell ⟨d, 4, none⟩ (.slice A7 n7 c7)) := by
      have h2 := (HKW.out.mono (S' := fun k => F k ∨ w.heap.size ≤ k) (fun k e => by rw [e]; exact H3.out.fd)).drew; have h3 := h2.grown HG7.out (fun k e => .inl (H3.out.chg.1 k e)); exact h3.setCell _ _ (.inl H3.out.fd)
    exact h1.wide (fun k hl hk => by
      rcases hk with hk | hk
      · exact hk
      · omega)⟩
  clear x4 xz4 b0 b1 b2 c4; go_wp2_with fail
  go_end0; exact ⟨⟨_, rfl⟩, HKE.out, _, _, H8.out.tight⟩
end Go.Proofs.Ytdekcjopgnfmdaa.Hand
