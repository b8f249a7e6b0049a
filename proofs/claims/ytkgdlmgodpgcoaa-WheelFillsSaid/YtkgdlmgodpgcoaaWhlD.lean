/- Wheel: empty: a ring is gone through. -/
import Derived.Test.YtkgdlmgodpgcoaaWhlC
namespace Go.Proofs.Ytkgdlmgodpgcoaa.Hand
open Go.RowKit Go.Maps Go.Proofs.YtkgdlmgodpgcoaaW.PrintWords Go.Proofs.YtkgdlmgodpgcoaaW.PrintLast Go.Proofs.YtkgdlmgodpgcoaaW.PrintMore
set_option linter.unusedVariables false
set_option linter.unusedSimpArgs false

/-- What the first i slots of a ring have that is so. -/
def gath (p : TimT → Bool) (L : Nat → List TimT) (lv : Nat) : Nat → List TimT
  | 0 => []
  | i + 1 => gath p L lv i ++ (L (lv * 64 + i)).filter p
def isOver (tz : Int) (t : TimT) : Bool := decide (t.2 ≤ tz)
def isStay (tz : Int) (t : TimT) : Bool := !isOver tz t
/-- The first i slots of a ring are empty. -/
def cleared (L : Nat → List TimT) (lv i : Nat) : Nat → List TimT := fun k => if lv * 64 ≤ k ∧ k < lv * 64 + i then [] else L k
theorem cleared_at (L : Nat → List TimT) (lv i : Nat) : cleared L lv i (lv * 64 + i) = L (lv * 64 + i) := by unfold cleared; rw [if_neg (by omega)]
theorem cleared_zero (L : Nat → List TimT) (lv k : Nat) : cleared L lv 0 k = L k := by unfold cleared; rw [if_neg (by omega)]
def timN (l : List TimT) (j : Nat) : TimT := l.getD j (0, 0)
theorem tim_at {w : World} {A : Option Addr} {n : Nat} {xs : List TimT} (h : Kd.C kT w A n xs) (i : Nat) (h1 : i < n) : ∃ ad, A = some ad ∧ w.cell? (ad.add (i * 2)) = some (.int .u64 (timN xs i).1) ∧ w.cell? ⟨(ad.add (i * 2)).block, (ad.add (i * 2)).off + 1, none⟩ = some (.int .u64 (timN xs i).2) := by
  obtain ⟨ad, c, e, _, hK, hc0⟩ := Kd.C_get h (0, 0) (i : Int) (by omega) (by omega)
  rw [Int.toNat_natCast] at hK hc0
  have hc : ∀ j u, c[j]? = some u → w.cell? (ad.add (i * 2 + j)) = some u := hc0
  obtain rfl := kT_open hK
  exact ⟨ad, e, hc 0 _ rfl, by rw [← add_field _ _ 1 (by omega)]; exact hc 1 _ rfl⟩
theorem take_succ' (l : List TimT) (j : Nat) (h : j < l.length) : l.take (j + 1) = l.take j ++ [timN l j] := by
  rw [List.take_succ_eq_append_getElem h]
  unfold timN
  rw [List.getD_eq_getElem?_getD, List.getElem?_eq_getElem h]
  rfl
theorem part_le (l : List TimT) (p : TimT → Bool) (j : Nat) : ((l.take j).filter p).length ≤ (l.filter p).length := ((List.take_sublist j l).filter p).length_le

theorem cleared_skip {L : Nat → List TimT} {lv i : Nat} (h : L (lv * 64 + i) = []) (k : Nat) : cleared L lv (i + 1) k = cleared L lv i k := by
  unfold cleared
  by_cases e : k = lv * 64 + i
  · subst e
    rw [if_pos (by omega), if_neg (by omega), h]
  · by_cases h1 : lv * 64 ≤ k ∧ k < lv * 64 + i
    · rw [if_pos h1, if_pos (by omega)]
    · rw [if_neg h1, if_neg (by omega)]
theorem cleared_next (L : Nat → List TimT) (lv i k : Nat) : cleared L lv (i + 1) k = if k = lv * 64 + i then [] else cleared L lv i k := by
  unfold cleared
  by_cases e : k = lv * 64 + i
  · subst e
    rw [if_pos (by omega), if_pos rfl]
  · rw [if_neg e]
    by_cases h1 : lv * 64 ≤ k ∧ k < lv * 64 + i
    · rw [if_pos h1, if_pos (by omega)]
    · rw [if_neg h1, if_neg (by omega)]
/-- Another row (of the call's own) has grown. -/
theorem WhlSt.append {w0 W w' : World} {base : Nat} {P : Nat → Prop} {g m n q : Nat} {now : Int} {D : DT} {R : Nat → Value} {f : Nat → Nat} {L : Nat → List TimT} {u : Value} {l : List TimT} (h : WhlSt w0 W base P g m n now D R f L) (hu : TR W base f q u l) (hq : 257 ≤ q ∧ q < 1000) (hg : W.grownBy w' u.ownBlock) (hb : Below base w0 w') :
    WhlSt w0 w' base P g m n now D R (fun k => if k < W.heap.size then f k else q) L :=
  ⟨h.whl.grown hg (TR.not_wheel hu h.whl), Due.same h.due (hg.block m (World.ownsMap.lt h.due) (TR.not_map hu h.due)), fun i hi => TR.other (h.row i hi) (by omega) hu.1 hg, hb, h.hg, h.hm, h.keepG hg (h.notRow hq.2 hu.1), h.protG q⟩
/-- A slot is emptied. -/
theorem WhlSt.clear {w0 w : World} {base : Nat} {P : Nat → Prop} {g m n : Nat} {now : Int} {D : DT} {R : Nat → Value} {f : Nat → Nat} {L : Nat → List TimT} (h : WhlSt w0 w base P g m n now D R f L) (j : Nat) (hj : j < 257) : WhlSt w0 (w.setCell ⟨g, 1 + j, none⟩ (.slice none 0 0)) base P g m n now D (upd R j (.slice none 0 0)) f (fun k => if k = j then [] else L k) := by
  refine ⟨h.whl.put j hj _, Due.same h.due (Below.heap_setCell w ⟨g, 1 + j, none⟩ _ m (fun e => h.gm e.symm)), fun i hi => ?_, h.bel.setCell (p := ⟨g, 1 + j, none⟩) h.hg _, h.hg, h.hm, h.keepS _ _, h.prot⟩
  show TR _ base f i (upd R j _ i) (if i = j then [] else L i)
  unfold upd
  by_cases e : i = j
  · rw [if_pos e, if_pos e]; exact Kd.R_nil _ _ _ _ _
  · rw [if_neg e, if_neg e]; exact TR.store (h.row i hi) h.whl _ _
theorem WhlSt.congr {w0 w : World} {base : Nat} {P : Nat → Prop} {g m n : Nat} {now : Int} {D : DT} {R : Nat → Value} {f : Nat → Nat} {L L' : Nat → List TimT} (h : WhlSt w0 w base P g m n now D R f L) (e : ∀ k, L' k = L k) : WhlSt w0 w base P g m n now D R f L' :=
  ⟨h.whl, h.due, fun i hi => by rw [e]; exact h.row i hi, h.bel, h.hg, h.hm, h.keep, h.prot⟩
theorem filter_next (p : TimT → Bool) (l : List TimT) (j : Nat) (h : j < l.length) : (l.take (j + 1)).filter p = (l.take j).filter p ++ (if p (timN l j) = true then [timN l j] else []) := by
  rw [take_succ' l j h, List.filter_append]
  congr 1
  by_cases e : p (timN l j) = true
  · rw [if_pos e, List.filter_cons_of_pos e]; rfl
  · rw [if_neg e, List.filter_cons_of_neg e]; rfl
set_option maxHeartbeats 4000000 in
set_option maxRecDepth 100000 in
theorem wheel_empty.calls (w0 : World) (base : Nat) (P : Nat → Prop) (g m n : Nat) (now tz : Int) (D : DT) (R : Nat → Value) (f : Nat → Nat) (L : Nat → List TimT) (lv : Nat) (vo vs : Value) (Lo Ls : List TimT) (w : World) (hS : WhlSt w0 w base P g m n now D R f L) (hlv : lv < 4)
    (ho : TR w base f 257 vo Lo) (hs : TR w base f 258 vs Ls) (hlo : ∀ i, i ≤ 64 → Lo.length + (gath (isOver tz) L lv i).length ≤ 1000000) (hls : ∀ i, i ≤ 64 → Ls.length + (gath (isStay tz) L lv i).length ≤ 1000000) (hL : ∀ i, (L i).length ≤ 1000000) :
    Calls Try.prog 42 #[.pointer (some ⟨g, 0, none⟩), .int .i64 lv, .int .u64 tz, vo, vs] w fun e w' => ∃ R' f' vo' vs', e = .returned (.tuple #[vo', vs']) ∧ WhlSt w0 w' base P g m n now D R' f' (cleared L lv 64) ∧ TR w' base f' 257 vo' (Lo ++ gath (isOver tz) L lv 64) ∧ TR w' base f' 258 vs' (Ls ++ gath (isStay tz) L lv 64) := by
  obtain ⟨Ao, co, hvo⟩ := Kd.R_slice ho
  obtain ⟨As, cs, hvs⟩ := Kd.R_slice hs
  subst hvo hvs
  have HS := Aside0.mk hS
  have HO := Aside0.mk ho
  have HSt := Aside0.mk hs
  have HLO := Aside0.mk hlo
  have HLS := Aside0.mk hls
  have HL := Aside0.mk hL
  clear hS ho hs hlo hls hL
  have hlv2 : (lv : Int) < 4 := by omega
  go_enter Try.func42, Try.ntmps42
  go_wp2_with fail
  refine wp_scope_straight ?_
  refine wp_seq (wp_label ?_)
  dsimp only [Exit.then]
  have HR0 : Aside0 (∃ R1 f1, WhlSt w0 w base P g m n now D R1 f1 (cleared L lv 0) ∧ TR w base f1 257 (.slice Ao Lo.length co) (Lo ++ gath (isOver tz) L lv 0) ∧ TR w base f1 258 (.slice As Ls.length cs) (Ls ++ gath (isStay tz) L lv 0)) := ⟨R, f, ⟨HS.out.whl, HS.out.due, fun i hi => by rw [cleared_zero]; exact HS.out.row i hi, HS.out.bel, HS.out.hg, HS.out.hm, HS.out.keep, HS.out.prot⟩, by rw [gath, List.append_nil]; exact HO.out, by rw [gath, List.append_nil]; exact HSt.out⟩
  clear HS HO HSt
  go_wp2_with fail
  go_loopw [16, 3, 4] (fun v16 v3 v4 wr => ∃ i : Nat, i ≤ 64 ∧ v16 = .int .i64 i ∧ Aside0 (∃ R1 f1, WhlSt w0 wr base P g m n now D R1 f1 (cleared L lv i) ∧ TR wr base f1 257 v3 (Lo ++ gath (isOver tz) L lv i) ∧ TR wr base f1 258 v4 (Ls ++ gath (isStay tz) L lv i))) (fun v16 _ _ _ => 64 - (intOf v16).toNat)
  case atStart => exact ⟨0, by omega, rfl, HR0⟩
  case round =>
    clear HR0
    obtain ⟨i, hi, rfl, HI⟩ := hrel
    obtain ⟨R1, f1, hS, hO, hSt⟩ := HI.out
    by_cases hlt : i < 64
    · have cr := hS.whl.ring_ (lv * 64 + i) (by omega)
      rw [← Nat.add_assoc] at cr
      obtain ⟨A1, c1, hR1⟩ := Kd.R_slice (hS.row (lv * 64 + i) (by omega))
      rw [hR1] at cr
      rw [cleared_at] at cr
      have HRL := Aside0.mk hR1
      have HI1 := Aside0.mk (show _ ∧ _ ∧ _ from ⟨hS, hO, hSt⟩)
      clear hR1 hS hO hSt
      have hi2 : (i : Int) < 64 := by omega
      by_cases hz : L (lv * 64 + i) = []
      · rw [hz] at cr
        simp only [List.length_nil] at cr
        have HI2 : Aside0 (∃ R1 f1, WhlSt w0 wr base P g m n now D R1 f1 (cleared L lv (i + 1)) ∧ TR wr base f1 257 u3 (Lo ++ gath (isOver tz) L lv (i + 1)) ∧ TR wr base f1 258 u4 (Ls ++ gath (isStay tz) L lv (i + 1))) := ⟨by
          obtain ⟨R1, f1, a, b, c⟩ := HI.out
          refine ⟨R1, f1, a.congr (cleared_skip hz), ?_, ?_⟩
          · rw [gath, hz]; simpa using b
          · rw [gath, hz]; simpa using c⟩
        clear HI hz HRL
        go_wp2_with fail
        go_roundw
        case rel => exact ⟨i + 1, by omega, by go_num, HI2⟩
        case measure => simp [intOf]; omega
      · obtain ⟨l, hl⟩ : ∃ l, l = L (lv * 64 + i) := ⟨_, rfl⟩
        rw [← hl] at cr hz
        obtain ⟨N, hN⟩ : ∃ N, N = l.length := ⟨_, rfl⟩
        rw [← hN] at cr
        have hN0 : ((N : Int) == 0) = false := beq_eq_false_iff_ne.mpr (by rw [hN]; cases l with | nil => exact absurd rfl hz | cons => simp; omega)
        have hNB : N ≤ 1000000 := by rw [hN, hl]; exact HL.out _
        have HLl := Aside0.mk hl
        have HNN := Aside0.mk hN
        have HI2 : Aside0 (∃ R2 f2, WhlSt w0 wr base P g m n now D R2 f2 (cleared L lv i) ∧ R2 (lv * 64 + i) = .slice A1 N c1 ∧ TR wr base f2 257 u3 (Lo ++ gath (isOver tz) L lv i ++ (l.take 0).filter (isOver tz)) ∧ TR wr base f2 258 u4 (Ls ++ gath (isStay tz) L lv i ++ (l.take 0).filter (isStay tz))) := ⟨by
          have hr := HRL.out
          rw [cleared_at, ← hl, ← hN] at hr
          exact ⟨R1, f1, HI1.out.1, hr, by simpa using HI1.out.2.1, by simpa using HI1.out.2.2⟩⟩
        clear HI hz hl hN HRL HI1
        go_wp2_with fail
        go_loopw [32, 3, 4] (fun v32 v3 v4 w2 => ∃ j : Nat, j ≤ N ∧ v32 = .int .i64 j ∧ Aside0 (∃ R2 f2, WhlSt w0 w2 base P g m n now D R2 f2 (cleared L lv i) ∧ R2 (lv * 64 + i) = .slice A1 N c1 ∧ TR w2 base f2 257 v3 (Lo ++ gath (isOver tz) L lv i ++ (l.take j).filter (isOver tz)) ∧ TR w2 base f2 258 v4 (Ls ++ gath (isStay tz) L lv i ++ (l.take j).filter (isStay tz)))) (fun v32 _ _ _ => N - (intOf v32).toNat)
        case atStart => exact ⟨0, Nat.zero_le _, rfl, HI2⟩
        case round =>
          clear HI2
          obtain ⟨j, hj, rfl, HI⟩ := hrel
          obtain ⟨R2, f2, hS, hR2, hO, hT⟩ := HI.out
          clear HI
          by_cases hlj : j < N
          · have hrow := hS.row (lv * 64 + i) (by omega)
            rw [hR2, cleared_at, ← HLl.out] at hrow
            obtain ⟨ad, hA, h0, h1⟩ := tim_at (Kd.R_reads' hrow).2.2 j (by have := HNN.out; omega)
            obtain ⟨⟨id, at_⟩, htm⟩ : ∃ t, t = timN l j := ⟨_, rfl⟩
            rw [← htm] at h0 h1
            simp only at h0 h1
            subst hA
            have HTM := Aside0.mk htm
            have HR2 := Aside0.mk hR2
            have HS3 := Aside0.mk (hS.below (below_alloc (Below.refl wr.heap.size wr) (.cells #[.int .u64 id, .int .u64 at_] 84)) hS.size)
            have HO3 := Aside0.mk (Kd.R_alloc hO (.cells #[.int .u64 id, .int .u64 at_] 84))
            have HT3 := Aside0.mk (Kd.R_alloc hT (.cells #[.int .u64 id, .int .u64 at_] 84))
            have d0 := (blk_cell (blk_new wr (.cells #[.int .u64 id, .int .u64 at_] 84 (0, 0))) 0).trans rfl
            have d1 := (blk_cell (blk_new wr (.cells #[.int .u64 id, .int .u64 at_] 84 (0, 0))) 1).trans rfl
            clear hS hO hT hR2 hrow htm
            by_cases hov : at_ ≤ tz
            · skip
              have b1 : decide (at_ ≤ tz) = true := decide_eq_true hov
              have e1 : (l.take (j + 1)).filter (isOver tz) = (l.take j).filter (isOver tz) ++ [(id, at_)] := by
                rw [filter_next _ l j (by have := HNN.out; omega), ← HTM.out]
                unfold isOver
                rw [b1]
                simp
              have e2 : (l.take (j + 1)).filter (isStay tz) = (l.take j).filter (isStay tz) := by
                rw [filter_next _ l j (by have := HNN.out; omega), ← HTM.out]
                unfold isStay isOver
                rw [b1]
                simp
              have HE1 := Aside0.mk e1
              have HE2 := Aside0.mk e2
              have HLEN : Aside0 (Lo.length + (gath (isOver tz) L lv i).length + ((l.take j).filter (isOver tz)).length ≤ 1000000) := ⟨by
                have h1 := HLO.out (i + 1) (by omega)
                have h2 := part_le l (isOver tz) j
                rw [gath, ← HLl.out, List.length_append] at h1
                omega⟩
              clear hov e1 e2
              go_upto_region 10 with (fail)
              obtain ⟨Bo, hBo⟩ : ∃ Bo, Bo = wr.heap.size := ⟨_, rfl⟩
              obtain ⟨w3, hw3⟩ : ∃ w3, w3 = wr.alloc (.cells #[.int .u64 id, .int .u64 at_] 84) := ⟨_, rfl⟩
              rw [← hBo, ← hw3] at d0 d1
              rw [← hw3] at HS3 HO3 HT3
              rw [← hBo, ← hw3]
              clear hBo hw3 h0 h1
              go_wp2_with ((with_reducible refine gate_builtin (b := .append) (xs := #[.tmp 40, .tmp 42]) rfl ?_); at_builtin; refine Kd.R_append kT (w0 := w0) base rfl (.tmp 40) (.tmp 42) 76 84 (.agg #[.int .u64 0, .int .u64 0]) 16 rfl Try.underlying76 info84 rfl (by decide) (by decide) u3 (Lo ++ gath (isOver tz) L lv i ++ (l.take j).filter (isOver tz)) (id, at_) [.int .u64 id, .int .u64 at_] (fun k => (if k < w3.heap.size then f2 k else 257) = 257) (fun _ => False) rfl rfl (kT_M _ _ _ _) (fun _ h => h.elim) ?aF ?aO HS3.out.bel HS3.out.size ?aL ?_; (case aF => exact (fun k hk => by rw [if_neg (by omega)])); (case aO => exact (Kd.R_mono HO3.out (fun k hk => by split; exact hk; rfl))); (case aL => have := HLEN.out; rw [List.length_append, List.length_append]; omega); intro v5 w5 ho hb hg hat; have HNEW := Aside0.mk ho; have HST5 := Aside0.mk (HS3.out.append HO3.out (by omega) hg hb); have HOTH := Aside0.mk (TR.other HT3.out (by decide) HO3.out.1 hg); clear ho hb hg hat)
              go_roundw
              case rel =>
                exact ⟨j + 1, by omega, by go_num, ⟨R2, _, HST5.out, HR2.out, by rw [HE1.out]; exact (by rw [← List.append_assoc]; exact HNEW.out), by rw [HE2.out]; exact HOTH.out⟩⟩
              case measure => simp [intOf]; omega
            · skip
              have b1 : decide (at_ ≤ tz) = false := decide_eq_false hov
              have e1 : (l.take (j + 1)).filter (isOver tz) = (l.take j).filter (isOver tz) := by
                rw [filter_next _ l j (by have := HNN.out; omega), ← HTM.out]
                unfold isOver
                rw [b1]
                simp
              have e2 : (l.take (j + 1)).filter (isStay tz) = (l.take j).filter (isStay tz) ++ [(id, at_)] := by
                rw [filter_next _ l j (by have := HNN.out; omega), ← HTM.out]
                unfold isStay isOver
                rw [b1]
                simp
              have HE1 := Aside0.mk e1
              have HE2 := Aside0.mk e2
              have HLEN : Aside0 (Ls.length + (gath (isStay tz) L lv i).length + ((l.take j).filter (isStay tz)).length ≤ 1000000) := ⟨by
                have h1 := HLS.out (i + 1) (by omega)
                have h2 := part_le l (isStay tz) j
                rw [gath, ← HLl.out, List.length_append] at h1
                omega⟩
              clear hov e1 e2
              go_upto_region 11 with (fail)
              obtain ⟨Bo, hBo⟩ : ∃ Bo, Bo = wr.heap.size := ⟨_, rfl⟩
              obtain ⟨w3, hw3⟩ : ∃ w3, w3 = wr.alloc (.cells #[.int .u64 id, .int .u64 at_] 84) := ⟨_, rfl⟩
              rw [← hBo, ← hw3] at d0 d1
              rw [← hw3] at HS3 HO3 HT3
              rw [← hBo, ← hw3]
              clear hBo hw3 h0 h1
              go_wp2_with ((with_reducible refine gate_builtin (b := .append) (xs := #[.tmp 44, .tmp 46]) rfl ?_); at_builtin; refine Kd.R_append kT (w0 := w0) base rfl (.tmp 44) (.tmp 46) 76 84 (.agg #[.int .u64 0, .int .u64 0]) 16 rfl Try.underlying76 info84 rfl (by decide) (by decide) u4 (Ls ++ gath (isStay tz) L lv i ++ (l.take j).filter (isStay tz)) (id, at_) [.int .u64 id, .int .u64 at_] (fun k => (if k < w3.heap.size then f2 k else 258) = 258) (fun _ => False) rfl rfl (kT_M _ _ _ _) (fun _ h => h.elim) ?aF ?aO HS3.out.bel HS3.out.size ?aL ?_; (case aF => exact (fun k hk => by rw [if_neg (by omega)])); (case aO => exact (Kd.R_mono HT3.out (fun k hk => by split; exact hk; rfl))); (case aL => have := HLEN.out; rw [List.length_append, List.length_append]; omega); intro v5 w5 ho hb hg hat; have HNEW := Aside0.mk ho; have HST5 := Aside0.mk (HS3.out.append HT3.out (by omega) hg hb); have HOTH := Aside0.mk (TR.other HO3.out (by decide) HT3.out.1 hg); clear ho hb hg hat)
              go_roundw
              case rel =>
                exact ⟨j + 1, by omega, by go_num, ⟨R2, _, HST5.out, HR2.out, by rw [HE1.out]; exact HOTH.out, by rw [HE2.out]; exact (by rw [← List.append_assoc]; exact HNEW.out)⟩⟩
              case measure => simp [intOf]; omega
          · obtain rfl : N = j := by omega
            have fr := hS.whl.frozen (1 + lv * 64 + i)
            have HI3 : Aside0 (∃ R1 f1, WhlSt w0 (wr.setCell ⟨g, 1 + lv * 64 + i, none⟩ (.slice none 0 0)) base P g m n now D R1 f1 (cleared L lv (i + 1)) ∧ TR (wr.setCell ⟨g, 1 + lv * 64 + i, none⟩ (.slice none 0 0)) base f1 257 u3 (Lo ++ gath (isOver tz) L lv (i + 1)) ∧ TR (wr.setCell ⟨g, 1 + lv * 64 + i, none⟩ (.slice none 0 0)) base f1 258 u4 (Ls ++ gath (isStay tz) L lv (i + 1))) := ⟨by
              have h := (hS.clear (lv * 64 + i) (by omega)).congr (L' := cleared L lv (i + 1)) (cleared_next L lv i)
              rw [← Nat.add_assoc] at h
              have hf : l.take N = l := by rw [HNN.out, List.take_length]
              rw [hf] at hO hT
              refine ⟨_, f2, h, ?_, ?_⟩
              · rw [gath, ← HLl.out, ← List.append_assoc]; exact TR.store hO hS.whl _ _
              · rw [gath, ← HLl.out, ← List.append_assoc]; exact TR.store hT hS.whl _ _⟩
            have cr2 := hS.whl.ring_ (lv * 64 + i) (by omega)
            rw [← Nat.add_assoc] at cr2
            clear hS hR2 hO hT
            go_wp2_with fail
            go_roundw
            case rel => exact ⟨i + 1, by omega, by go_num, HI3⟩
            case measure => simp [intOf]; omega
    · obtain rfl : i = 64 := by omega
      clear hS hO hSt
      go_wp2_with fail
      dsimp only [Exit.noGoto]
      go_ret2
      obtain ⟨R1, f1, a, b, c⟩ := HI.out
      exact ⟨R1, f1, _, _, rfl, a, b, c⟩
end Go.Proofs.Ytkgdlmgodpgcoaa.Hand
