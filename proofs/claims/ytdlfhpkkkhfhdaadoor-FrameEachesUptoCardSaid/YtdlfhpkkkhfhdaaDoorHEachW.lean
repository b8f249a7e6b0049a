/- frame.Each: what it hands out, and what that tells a loop. -/
import Derived.Test.YtdlfhpkkkhfhdaaDoorQx
import Derived.Test.YtdlfhpkkkhfhdaaDoorHSeqY
import Derived.Test.YtdlfhpkkkhfhdaaDoorHEachP
import Derived.RangeFuncBox
import Derived.OwnWalkIn
import Derived.TacticsInMore
import Derived.LoopIn
namespace Go.Proofs.YtdlfhpkkkhfhdaaDoor.Hand
open Go.RowKit Go.Proofs.YtdlfhpkkkhfhdaaDoorW.PrintWords Go.Proofs.YtdlfhpkkkhfhdaaDoorW.PrintLast Go.Proofs.YtdlfhpkkkhfhdaaDoorW.PrintMore Go.Proofs.YtdlfhpkkkhfhdaaDoor.Q
set_option linter.unusedVariables false
set_option linter.unusedSimpArgs false
attribute [local go_sem] Oper.semAt_some
set_option maxHeartbeats 1000000 in
set_option maxRecDepth 100000 in
theorem frame_Each.calls {w : World} {A : Option Addr} {c : Nat} {l : List Int} (hC : Kd.C (Kd.int .u8) w A l.length l) (hc : l.length ≤ c) (hl : l.length ≤ 100000000) :
    Calls Tryd.prog 31 #[.slice A l.length c] w fun e w' => ∃ Bs Ak ck, e = .returned (.func (.func 44) #[] #[.pointer (some ⟨Bs, 0, none⟩)]) ∧ w.heap.size ≤ Bs ∧ Bs < w'.heap.size ∧ w'.cell? ⟨Bs, 0, none⟩ = some (.slice Ak l.length ck) ∧ Kd.R (Kd.int .u8) 5 w' w.heap.size (fun _ => True) (.slice Ak l.length ck) l ∧ Below w.heap.size w w' := by
  obtain ⟨N, hN⟩ : ∃ N, N = l.length := ⟨_, rfl⟩
  rw [← hN] at hC hc hl
  rw [← hN]
  have HN := Aside0.mk hN
  have HC := Aside0.mk hC
  have hNb : (N : Int) ≤ 100000000 := by omega
  clear hN hC
  go_enter Tryd.func31, Tryd.ntmps31
  go_wp2_with (first
    | ((with_reducible refine gate_dst (N := 6) rfl ?_); refine Kd.R_make (Kd.int .u8) (w0 := w) w.heap.size 5 rfl rfl 22 _ _ rfl (N : Int) rfl rfl Tryd.underlying22 (.int .u8 0) 1 info5 rfl (by decide) (by decide) (0 : Int) (ok := fun _ => True) (okp := fun _ => True) rfl (fun _ _ => trivial) trivial (by omega) (by omega) (Below.refl _ _) (Nat.le_refl _) ?_; intro v6 w6 ho6 hb6 hg6 hn6; rw [Int.toNat_natCast] at ho6; obtain ⟨A6, c6, hv6⟩ := Kd.R_slice ho6; rw [List.length_replicate] at hv6; subst hv6; have HO6 := Aside0.mk (Kd.R_below (Kd.R_mono (Kd.R_bound ho6) (fun k hk => hk.2.2.1)) (below_alloc (Below.refl w6.heap.size w6) (.cells #[.slice A6 N c6] 22))); have HB6 := Aside0.mk hb6; have HB7 := Aside0.mk (below_step hb6 (below_alloc (Below.refl w6.heap.size w6) (.cells #[.slice A6 N c6] 22))); have HX := Aside0.mk (blk_new w6 (.cells #[.slice A6 N c6] 22 (0, 0))); clear ho6 hb6 hg6 hn6)
    | ((with_reducible refine gate_dst (N := 9) rfl ?_); refine Kd.R_copy (enc := Value.int .u8) (h1 := fun _ => rfl) 0 (w0 := w) w.heap.size rfl (.tmp 7) (.tmp 8) 22 22 5 rfl Tryd.underlying22 (size_of_info info5) (.slice A6 N c6) (List.replicate N 0) l A N c (fun k => k < w6.heap.size) rfl rfl HO6.out (Kd.C_below HC.out HB7.out) HB7.out HB7.out.size ?_; intro w9 ho9 hb9 hg9; have HO9 := Aside0.mk ho9; have HB9 := Aside0.mk hb9; have HG9 := Aside0.mk hg9; clear ho9 hb9 hg9))
  go_ret
  have e1 : l.take (min N (List.replicate N (0 : Int)).length) ++ (List.replicate N (0 : Int)).drop (min N (List.replicate N (0 : Int)).length) = l := by
    rw [List.length_replicate, Nat.min_self, List.take_of_length_le (by have := HN.out; omega), List.drop_of_length_le (by simp), List.append_nil]
  have h9 := HO9.out
  rw [e1] at h9
  have hb : w9.heap[w6.heap.size]? = some (.cells #[.slice A6 N c6] 22 (0, 0)) := (HG9.out.block _ (blk_lt HX.out) (fun e => by have := HO6.out.1 _ e.symm; omega)).trans HX.out
  exact ⟨_, _, _, rfl, HB6.out.size, blk_lt hb, (blk_cell hb 0).trans rfl, Kd.R_mono h9 (fun _ _ => trivial), HB9.out⟩
/-- Block 0 (the table) and the blocks from n₀ to n₁ lie as they lay. -/
def KpE (n₀ n₁ : Nat) (W W' : World) : Prop := W.heap.size ≤ W'.heap.size ∧ ∀ k, (k = 0 ∨ n₀ ≤ k ∧ k < n₁) → W'.heap[k]? = W.heap[k]?
theorem KpE.refl (n₀ n₁ : Nat) (W : World) : KpE n₀ n₁ W W := ⟨Nat.le_refl _, fun _ _ => rfl⟩
theorem kpE_t {n₀ n₁ : Nat} {A B C : World} (h : KpE n₀ n₁ A B) (k : KpE n₀ n₁ B C) : KpE n₀ n₁ A C := ⟨Nat.le_trans h.1 k.1, fun j hj => (k.2 j hj).trans (h.2 j hj)⟩
theorem KpE.of_below {n₀ n₁ : Nat} {W W' : World} (h : Below W.heap.size W W') (hn : n₁ ≤ W.heap.size) (h0 : 0 < W.heap.size) : KpE n₀ n₁ W W' := ⟨h.size, fun k hk => h.block k (by omega)⟩
theorem kpE_b {n₀ n₁ B : Nat} (hn : n₁ ≤ B) (h0 : 0 < B) (W : World) (l : Nat) (r : Loop) (o : Obj) (hl : B ≤ l) (h : W.heap[l]? = some (.loop r)) : KpE n₀ n₁ W (W.putObj l o) :=
  ⟨(grownBy_putObj' W l o).size, fun k hk => (grownBy_putObj' W l o).block k (by have := (Array.getElem?_eq_some_iff.1 h).1; omega) (fun e => by injection e with e; omega)⟩
theorem KpE.tb {n₀ n₁ : Nat} {W W' : World} (h : KpE n₀ n₁ W W') (hT : Tb W) : Tb W' := ⟨fun i h0 h1 => by
  have h2 := hT.out i h0 h1
  rw [World.cell?_of_block (h.2 0 (.inl rfl))]
  exact h2⟩
theorem tb_pos {W : World} (hT : Tb W) : 0 < W.heap.size := World.block_lt_of_cell? W _ (hT.out 0 (by omega) (by omega))
/-- A place among the frames, and where its load lies. -/
abbrev EV : Type := Nat × Option Addr × Nat × Nat
def frN (Ls : List S44) (i : Nat) : S44 := Ls.getD i z44
def encE (Ls : List S44) (x : EV) : Array Value := #[.int .i64 (frN Ls x.1).f2, .agg #[.int .u8 (frN Ls x.1).f0, .slice x.2.1 x.2.2.1 x.2.2.2]]
def YE (Ls : List S44) (B : Nat) (pre : List EV) (x : EV) (W : World) : Prop := x.1 = pre.length ∧ x.1 < Ls.length ∧ Kd.R (Kd.int .u8) 5 W B (fun _ => True) (.slice x.2.1 x.2.2.1 x.2.2.2) (frN Ls x.1).f1
abbrev KB (w : World) (n₀ n₁ : Nat) (v : Value) (l : List Int) : Prop := Kd.R (Kd.int .u8) 5 w 0 (fun k => n₀ ≤ k ∧ k < n₁) v l
theorem KB.step {w w' : World} {n₀ n₁ : Nat} {v : Value} {l : List Int} (h : KB w n₀ n₁ v l) (hk : KpE n₀ n₁ w w') : KB w' n₀ n₁ v l := Kd.R_step h (fun k ho _ => hk.2 k (.inr ho))
theorem drop_cons {α : Type} {l r : List α} {x : α} {j : Nat} (h : l.drop j = x :: r) : j < l.length ∧ l[j]? = some x ∧ l.drop (j + 1) = r := by
  have hj : j < l.length := by
    rcases Nat.lt_or_ge j l.length with h1 | h1
    · exact h1
    · rw [List.drop_of_length_le h1] at h; cases h
  rw [List.drop_eq_getElem_cons hj] at h
  injection h with h1 h2
  exact ⟨hj, by rw [List.getElem?_eq_getElem hj, h1], h2⟩
theorem abides_below {B : Nat} {J : List EV → World → Prop} (hJ : AbidesFrom B J) {s : List EV} {W W' : World} (h : J s W) (hb : Below W.heap.size W W') : J s W' := hJ s W W' none h (grown_of_below hb none) (fun r e => by cases e)
set_option maxHeartbeats 2000000 in
set_option maxRecDepth 100000 in
theorem each1_seq (n : Nat) (hn : 1 ≤ n) (Bs n₀ n₁ : Nat) (A : Option Addr) (c : Nat) (l : List Int) (Ls : List S44) (w : World) (hB0 : n₀ ≤ Bs) (hB1 : Bs < n₁) (hn1 : n₁ ≤ w.heap.size) (hT : Tb w) (hc : w.cell? ⟨Bs, 0, none⟩ = some (.slice A l.length c)) (hR : KB w n₀ n₁ (.slice A l.length c) l) (hl : l.length ≤ 100000000) (hw : Bytes l) (hLs : Ls = eachP l l.length 0) :
    SeqY Fence.wide n Tryd.prog 44 #[.pointer (some ⟨Bs, 0, none⟩)] (encE Ls) (YE Ls w.heap.size) (KpE n₀ n₁) (fun xs => xs.length = Ls.length) (fun _ => True) w := by
  intro y J Jx W hW hJ hJx hY h0
  have hbs : W.cell? ⟨Bs, 0, none⟩ = some (.slice A l.length c) := (hW.cell (p := ⟨Bs, 0, none⟩) (by show Bs < w.heap.size; omega)).trans hc
  have hTW : Tb W := hT.below hW
  have h0w := tb_pos hT
  have HE0 : Aside0 (KB W n₀ n₁ (.slice A l.length c) l ∧ KpE n₀ n₁ W W ∧ ∃ d xs, Ls.drop 0 = eachP l d 0 ∧ l.length - 0 ≤ d ∧ 0 ≤ Ls.length ∧ xs.length = 0 ∧ J xs W) := ⟨Kd.R_below hR hW, KpE.refl _ _ _, l.length, [], hLs, by omega, Nat.zero_le _, rfl, h0⟩
  obtain ⟨N, hN⟩ : ∃ N, N = l.length := ⟨_, rfl⟩
  have HN := Aside0.mk hN
  rw [← hN] at hbs hl HE0
  have HSZ : Aside0 (n₁ ≤ W.heap.size ∧ 0 < W.heap.size ∧ w.heap.size ≤ W.heap.size) := ⟨by have := hW.size; omega⟩
  have HY := Aside0.mk @hY
  have HJ := Aside0.mk @hJ
  have HT := Aside0.mk hTW
  have HW := Aside0.mk hw
  have HBS := Aside0.mk hbs
  clear hR hc hN h0 hW hY hT hTW hw hLs h0w
  refine callsIn_of_wp Tryd.func44 rfl trivial ?_ rfl
  simp only [Tryd.ntmps44, List.size_toArray, List.length_cons, List.length_nil, Nat.reduceAdd, Nat.reduceSub, Array.replicate_succ, Array.replicate_zero, List.push_toArray, List.append_toArray, List.nil_append, List.cons_append]
  gi_wp2
  clear hbs
  gi_loopw [3] (fun v3 wr => ∃ p j : Nat, p ≤ N ∧ v3 = .int .i64 p ∧ Aside0 (KB wr n₀ n₁ (.slice A N c) l ∧ KpE n₀ n₁ W wr ∧ ∃ d xs, Ls.drop j = eachP l d p ∧ N - p ≤ d ∧ j ≤ Ls.length ∧ xs.length = j ∧ J xs wr)) (fun v3 _ => N - (intOf v3).toNat)
  case atStart => exact ⟨0, 0, Nat.zero_le _, rfl, HE0⟩
  case round =>
    clear HE0
    obtain ⟨p, j, hp, rfl, HI⟩ := hrel
    have hbs : wr.cell? ⟨Bs, 0, none⟩ = some (.slice A N c) := (World.cell?_of_block (HI.out.2.1.2 Bs (.inr ⟨hB0, hB1⟩))).trans HBS.out
    obtain ⟨hKB, hKE, d, xs, hdr, hd, hjL, hxs, hJx⟩ := HI.out
    have HKE := Aside0.mk hKE
    have HJX := Aside0.mk hJx
    have HXS := Aside0.mk hxs
    have hWs := hKE.1
    have HSR : Aside0 (n₁ ≤ wr.heap.size ∧ 0 < wr.heap.size) := ⟨Nat.le_trans HSZ.out.1 hWs, Nat.lt_of_lt_of_le HSZ.out.2.1 hWs⟩
    by_cases hlt : p < N
    · have hTW : Tb wr := hKE.tb HT.out
      obtain ⟨i0, hi0, _, hsz0, _⟩ := info_parts info5
      have hcut := cut_from (P := Tryd.prog) 22 5 .i64 Tryd.underlying22 hi0 1 hsz0 A N c (p : Int) (by omega) (by omega)
      rw [Int.toNat_natCast] at hcut
      have hC := (Kd.R_reads' hKB).2.2
      have hcN := (Kd.R_reads' hKB).2.1
      have hr8 := Kd.C_drop (m := p) (c := c) hC (by have := HN.out; omega) (by have := HN.out; omega)
      obtain ⟨y, hy⟩ : ∃ y, y = l.drop p := ⟨_, rfl⟩
      obtain ⟨A8, hA8⟩ : ∃ A8, A8 = (if c = p then A else (A : Option Addr).map (·.add (p * 1))) := ⟨_, rfl⟩
      obtain ⟨c8, hc8⟩ : ∃ c8, c8 = c - p := ⟨_, rfl⟩
      obtain ⟨M, hM⟩ : ∃ M, M = N - p := ⟨_, rfl⟩
      have hyl : y.length = N - p := by rw [hy, List.length_drop, ← HN.out]
      have hr9 : Kd.C (Kd.int .u8) wr A8 y.length y := by rw [hA8, hy]; exact hr8
      rw [← hA8, ← hc8, ← hM] at hcut
      have HM : Aside0 (M = N - p ∧ M = y.length) := ⟨hM, by rw [hyl]; exact hM⟩
      have HC8 : Aside0 (Kd.C (Kd.int .u8) wr A8 y.length y ∧ y.length ≤ c8) := ⟨hr9, by rw [hyl, hc8]; exact Nat.sub_le_sub_right hcN _⟩
      have HTW := Aside0.mk hTW
      have hbo := frameOpen_f y (by rw [hyl]; omega) (fun x hx => HW.out x (List.mem_of_mem_drop (hy ▸ hx)))
      have hok := openP_ok y (fun x hx => HW.out x (List.mem_of_mem_drop (hy ▸ hx)))
      have hst : (openP y).2.2.2 = 0 → ∃ d', d = d' + 1 ∧ eachP l d p = ⟨(openP y).1, (openP y).2.1, (p : Int)⟩ :: eachP l d' (p + (openP y).2.2.1.toNat) := fun h => by rw [hy] at h ⊢; exact eachP_step (by have := HN.out; omega) h (by have := HN.out; omega)
      have hbad : (openP y).2.2.2 ≠ 0 → eachP l d p = [] := fun h => eachP_bad (by rw [← hy]; exact h) d
      obtain ⟨⟨r1, r2, r3, r4⟩, hop⟩ : ∃ r, r = openP y := ⟨_, rfl⟩
      rw [← hop] at hbo hok hst hbad
      simp only at hok hst hbad
      have HO := Aside0.mk hbo
      obtain ⟨L5, hL5⟩ : ∃ L5, L5 = r2.length := ⟨_, rfl⟩
      have HL5 := Aside0.mk hL5
      clear hr8 hr9 hA8 hc8 hM hC hcN hTW hop hbo hi0 hsz0 hL5
      by_cases he : r4 = 0
      · subst he
        obtain ⟨d', rfl, hst⟩ := hst rfl
        obtain ⟨h9, h8⟩ := hok rfl
        obtain ⟨R3, rfl⟩ := Int.eq_ofNat_of_zero_le (show 0 ≤ r3 by omega)
        rw [Int.toNat_natCast] at hst
        rw [hyl] at h8
        rw [hst] at hdr
        obtain ⟨hj, hLj, hdr⟩ := drop_cons hdr
        have hfr : frN Ls j = ⟨r1, r2, (p : Int)⟩ := by unfold frN; rw [List.getD_eq_getElem?_getD, hLj]; rfl
        have HFR := Aside0.mk hfr
        have HDR : Aside0 (Ls.drop (j + 1) = eachP l d' (p + R3) ∧ N - (p + R3) ≤ d' ∧ j + 1 ≤ Ls.length ∧ p + R3 ≤ N) := ⟨hdr, by omega, by omega, by omega⟩
        have HJL := Aside0.mk hj
        have H9 := Aside0.mk h9
        have hww : w.heap.size ≤ wr.heap.size := by have := HSZ.out.2.2; omega
        have HWW := Aside0.mk hww
        have hs : wrap64 ((p : Int) + (R3 : Int)) = ((p + R3 : Nat) : Int) := by rw [w64 (by omega) (by omega)]; omega
        clear hok hbad hst hdr hLj hfr hj hd hjL hJx hxs hy hyl hKB hKE h8 h9 hww
        gi_wp2_with (refine ⟨trivial, ?_⟩; gi_at_call 25; (rw [HM.out.2]); refine (callsIn_wide.2 (frame_Open.calls A8 c8 y r1 r2 _ _ _ HTW.out HC8.out.1 HC8.out.2 HO.out)).mono ?_; rintro e w5 ⟨v5, rfl, ho5, hb5⟩; obtain ⟨A5, c5, hv5⟩ := Kd.R_slice ho5; (rw [← HL5.out] at hv5); subst hv5; have hb6 := below_alloc (Below.refl w5.heap.size w5) (.cells #[.int .u8 r1, .slice A5 L5 c5] 40); have hJ6 := abides_below HJ.out HJX.out (below_step hb5 hb6); obtain ⟨fn, tmps, assign, body, hyy, hRR⟩ := HY.out xs (j, A5, L5, c5) _ hJ6 ⟨HXS.out.symm, HJL.out, by (rw [HFR.out]); exact Kd.R_lower (Kd.R_below ho5 hb6) HWW.out⟩; (dsimp only [encE] at hyy); (rw [HFR.out] at hyy); have hbx := blk_new w5 (.cells #[.int .u8 r1, .slice A5 L5 c5] 40 (0, 0)); have x0 := (blk_cell hbx 0).trans rfl; have x1 := (blk_cell hbx 1).trans rfl; have HB6 := Aside0.mk (below_step hb5 hb6); clear hb5 hb6 hbx hJ6 ho5)
        refine hRR.mono ?_
        clear hRR hyy x0 x1
        rintro e W3 (⟨rfl, hJ3, hk3⟩ | ⟨rfl, hJx3⟩)
        · have hNX : Aside0 (KB W3 n₀ n₁ (.slice A N c) l ∧ KpE n₀ n₁ W W3 ∧ ∃ d xs, Ls.drop (j + 1) = eachP l d (p + R3) ∧ N - (p + R3) ≤ d ∧ j + 1 ≤ Ls.length ∧ xs.length = j + 1 ∧ J xs W3) := ⟨by
            have h6 : KpE n₀ n₁ wr _ := KpE.of_below HB6.out HSR.out.1 HSR.out.2
            refine ⟨(HI.out.1.step h6).step hk3, kpE_t HKE.out (kpE_t h6 hk3), d', _, HDR.out.1, HDR.out.2.1, HDR.out.2.2.1, ?_, hJ3⟩
            rw [List.length_append, HXS.out]; rfl⟩
          have hpN := HDR.out.2.2.2
          have hR9 : 9 ≤ R3 := Int.ofNat_le.1 H9.out
          clear hJ3 hk3 HI HDR HB6
          have hms : N - (p + R3) < N - p := Nat.sub_lt_sub_left hlt (Nat.lt_add_of_pos_right (Nat.lt_of_lt_of_le (by decide) hR9))
          have HPN := Aside0.mk hpN
          have HS := Aside0.mk hs
          have HMS := Aside0.mk hms
          clear hpN hR9 hs hms hst
          gi_wp2
          go_roundw
          case rel => exact ⟨p + R3, j + 1, HPN.out, by rw [HS.out], hNX⟩
          case measure =>
            rw [HS.out]
            show N - ((p + R3 : Nat) : Int).toNat < N - (p : Int).toNat
            rw [Int.toNat_natCast, Int.toNat_natCast]
            exact HMS.out
        · gi_wp2
          refine bodyPost_ret (results_none rfl _ _ _) rfl ?_
          exact ⟨⟨_, rfl⟩, .inr ⟨_, trivial, hJx3⟩⟩
      · have hb := hbad he
        have b0 : (r4 == 0) = false := beq_eq_false_iff_ne.mpr he
        have b1 : (r4 != 0) = true := bne_iff_ne.mpr he
        rw [hb] at hdr
        have HJE : Aside0 (j = Ls.length) := ⟨by have := congrArg List.length hdr; rw [List.length_drop] at this; simp at this; omega⟩
        clear hok hbad hst hdr hb he hd hjL hJx hxs hy hyl hKB hKE
        gi_wp2_with (refine ⟨trivial, ?_⟩; gi_at_call 25; (rw [HM.out.2]); refine (callsIn_wide.2 (frame_Open.calls A8 c8 y r1 r2 _ _ _ HTW.out HC8.out.1 HC8.out.2 HO.out)).mono ?_; rintro e w5 ⟨v5, rfl, ho5, hb5⟩; obtain ⟨A5, c5, hv5⟩ := Kd.R_slice ho5; (rw [← HL5.out] at hv5); subst hv5; have hb6 := below_alloc (Below.refl w5.heap.size w5) (.cells #[.int .u8 r1, .slice A5 L5 c5] 40); have HB6 := Aside0.mk (below_step hb5 hb6); clear hb5 hb6 ho5)
        refine ⟨(fun f h => nomatch h), ?_⟩
        gi_wp2
        refine bodyPost_ret (results_none rfl _ _ _) rfl ?_
        exact ⟨⟨_, rfl⟩, .inl ⟨xs, HXS.out.trans HJE.out, abides_below HJ.out HJX.out HB6.out⟩⟩
    · obtain rfl : p = N := by omega
      rw [eachP_end (by have := HN.out; omega)] at hdr
      have HJE : Aside0 (j = Ls.length) := ⟨by have := congrArg List.length hdr; rw [List.length_drop] at this; simp at this; omega⟩
      clear hdr hd hjL hxs hJx hKB hKE
      gi_wp2
      go_end0
      exact ⟨⟨_, rfl⟩, .inl ⟨xs, HXS.out.trans HJE.out, HJX.out⟩⟩
end Go.Proofs.YtdlfhpkkkhfhdaaDoor.Hand
