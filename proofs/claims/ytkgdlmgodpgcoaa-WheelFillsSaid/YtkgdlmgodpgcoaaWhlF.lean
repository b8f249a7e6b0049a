/- Wheel: Advance, where it goes on. -/
import Derived.Test.YtkgdlmgodpgcoaaWhlE
import Derived.Test.YtkgdlmgodpgcoaaWhlT
namespace Go.Proofs.Ytkgdlmgodpgcoaa.Hand
open Go.RowKit Go.Maps Go.Proofs.YtkgdlmgodpgcoaaW.PrintWords Go.Proofs.YtkgdlmgodpgcoaaW.PrintLast Go.Proofs.YtkgdlmgodpgcoaaW.PrintMore
set_option linter.unusedVariables false
set_option linter.unusedSimpArgs false

def endOf (x : Int) : Nat := if ringOf x = 4 then 257 else (ringOf x + 1) * 64
def TimOk (t : TimT) : Prop := (0 ≤ t.1 ∧ t.1 ≤ 18446744073709551615) ∧ 0 ≤ t.2 ∧ t.2 ≤ 18446744073709551615
abbrev IR (w : World) (base : Nat) (f : Nat → Nat) (v : Value) (l : List Int) : Prop := Kd.R (Kd.int .u64) 22 w base (fun k => f k = 259) v l
theorem allT_mem {p : TimT → Bool} {L : Nat → List TimT} {t : TimT} : ∀ {E : Nat}, t ∈ allT p L E → ∃ k, k < E ∧ t ∈ L k
  | 0, h => by simp [allT] at h
  | E + 1, h => by
    rw [allT, List.mem_append] at h
    rcases h with h | h
    · obtain ⟨k, h1, h2⟩ := allT_mem h
      exact ⟨k, by omega, h2⟩
    · exact ⟨E, by omega, (List.mem_filter.1 h).1⟩
theorem allT_ok {p : TimT → Bool} {L : Nat → List TimT} {t : TimT} {E : Nat} (hT : ∀ k, k < 257 → ∀ t, t ∈ L k → TimOk t) (hE : E ≤ 257) (h : t ∈ allT p L E) : TimOk t := by
  obtain ⟨k, h1, h2⟩ := allT_mem h
  exact hT k (by omega) t h2
theorem wf_u64 {i : Int} (h0 : 0 ≤ i) (h1 : i ≤ 18446744073709551615) : (Lit.int .u64 i).wf = true := by
  simp only [Lit.wf, Bool.and_eq_true, decide_eq_true_eq, show IntKind.u64.min = 0 by decide, show IntKind.u64.max = 18446744073709551615 by decide]
  omega
theorem blk_turned {w w' : World} {B m n : Nat} {cs : Array Value} {t : TypeId} {fr : Nat × Nat} {D : DT} (h : w.heap[B]? = some (.cells cs t fr)) (hD : Due w m n D) (ht : w.mapTurned w' m) : w'.heap[B]? = some (.cells cs t fr) := by
  obtain ⟨es, clock, h2, _⟩ := hD
  refine (ht.grown.block B (Array.getElem?_eq_some_iff.1 h).1 (fun e => ?_)).trans h
  rw [Option.some.inj e, h2] at h
  cases h
theorem info22 : (Try.prog.info? 22).map (fun i => (i.zero, i.size, i.bytes)) = some (some (.int .u64 0), 1, 8) := by kernel_rfl
theorem timN_mem {l : List TimT} {j : Nat} (h : j < l.length) : timN l j ∈ l := by
  unfold timN
  rw [List.getD_eq_getElem?_getD, List.getElem?_eq_getElem h]
  exact List.getElem_mem h
set_option maxHeartbeats 4000000 in
set_option maxRecDepth 100000 in
theorem wheel_Advance.good (w0 : World) (base : Nat) (P : Nat → Prop) (g m n : Nat) (now tz x : Int) (D : DT) (R : Nat → Value) (f : Nat → Nat) (L : Nat → List TimT) (w : World) (hS : WhlSt w0 w base P g m n now D R f L) (hx : Go.bits .xor .u64 tz now = x) (h0 : 0 ≤ x) (hle : now ≤ tz) (hn : 0 ≤ now) (htz : tz ≤ 18446744073709551615)
    (hT : ∀ k, k < 257 → ∀ t, t ∈ L k → TimOk t) (hB : tot L 257 ≤ 1000000) (hL0 : ∀ s, 257 ≤ s → (L s).length ≤ 1000000) :
    Calls Try.prog 23 #[.pointer (some ⟨g, 0, none⟩), .int .u64 tz] w fun e w' => ∃ R' f' v, e = .returned (.tuple #[v, .int .i64 0]) ∧ WhlSt w0 w' base P g m n tz (dels D (sorted (allT (isOver tz) L (endOf x)))) R' f' (relo tz (gone L (endOf x)) (allT (isStay tz) L (endOf x))) ∧ IR w' base f' v ((sorted (allT (isOver tz) L (endOf x))).map (·.1)) := by
  have HS := Aside0.mk hS
  have HT := Aside0.mk hT
  have HB := Aside0.mk hB
  have HL0 := Aside0.mk hL0
  have c0 := hS.whl.now_
  have HLE := Aside0.mk hle
  have HZ := Aside0.mk htz
  have b1 : decide (tz < now) = false := decide_eq_false (by omega)
  clear hS hT hB hle htz hL0
  go_enter Try.func23, Try.ntmps23
  go_wp2_with fail
  refine (wheel_ring.calls g m now tz x R w HS.out.whl hx h0).mono ?_
  rintro e w1 ⟨rfl, rfl⟩
  have hle4 := ringOf_le x
  obtain ⟨lv, hlv⟩ : ∃ lv, lv = ringOf x := ⟨_, rfl⟩
  rw [← hlv] at hle4 ⊢
  have HV := Aside0.mk hlv
  clear hlv c0 b1 hx
  obtain ⟨K, hK⟩ : ∃ K : Nat, K = min (lv + 1) 4 := ⟨_, rfl⟩
  have hmin : min ((lv : Int) + 1) 4 = (K : Int) := by omega
  have hK4 : K ≤ 4 := by omega
  have HK := Aside0.mk hK
  clear hK
  have HI0 : Aside0 (∃ R1 f1, WhlSt w0 w1 base P g m n now D R1 f1 (gone L (0 * 64)) ∧ TR w1 base f1 257 (.slice none 0 0) (allT (isOver tz) L (0 * 64)) ∧ TR w1 base f1 258 (.slice none 0 0) (allT (isStay tz) L (0 * 64))) := ⟨R, f, HS.out.congr (gone_zero L), Kd.R_nil _ _ _ _ _, Kd.R_nil _ _ _ _ _⟩
  clear HS
  go_wp2_with fail
  go_loopw [32, 6, 7] (fun v32 v6 v7 wr => ∃ i : Nat, i ≤ K ∧ v32 = .int .i64 i ∧ Aside0 (∃ R1 f1, WhlSt w0 wr base P g m n now D R1 f1 (gone L (i * 64)) ∧ TR wr base f1 257 v6 (allT (isOver tz) L (i * 64)) ∧ TR wr base f1 258 v7 (allT (isStay tz) L (i * 64)))) (fun v32 _ _ _ => K - (intOf v32).toNat)
  case atStart => exact ⟨0, Nat.zero_le _, rfl, HI0⟩
  case round =>
    clear HI0
    obtain ⟨i, hi, rfl, HI⟩ := hrel
    by_cases hlt : i < K
    · go_wp2_with fail
      obtain ⟨R1, f1, hS, hO, hT1⟩ := HI.out
      have hsum : ∀ (p : TimT → Bool) k, k ≤ 64 → (allT p L (i * 64)).length + (gath p (gone L (i * 64)) i k).length ≤ 1000000 := fun p k hk => by
        rw [gath_gone, ← List.length_append, gath_all]
        exact Nat.le_trans (allT_le p L _) (Nat.le_trans (tot_mono L (by omega)) HB.out)
      refine (wheel_empty.calls w0 base P g m n now tz D R1 f1 (gone L (i * 64)) i u6 u7 _ _ wr hS (by omega) hO hT1 (hsum _) (hsum _) (fun k => ?hlen)).mono ?_
      case hlen =>
        unfold gone
        split
        · exact Nat.zero_le _
        · by_cases h : k < 257
          · exact Nat.le_trans (tot_one L h) HB.out
          · exact HL0.out k (by omega)
      rintro e w2 ⟨R2, f2, v6, v7, rfl, a, b, c⟩
      rw [gath_gone, gath_all] at b c
      have e64 : i * 64 + 64 = (i + 1) * 64 := by omega
      rw [e64] at b c
      have HI2 : Aside0 (∃ R1 f1, WhlSt w0 w2 base P g m n now D R1 f1 (gone L ((i + 1) * 64)) ∧ TR w2 base f1 257 v6 (allT (isOver tz) L ((i + 1) * 64)) ∧ TR w2 base f1 258 v7 (allT (isStay tz) L ((i + 1) * 64))) := ⟨R2, f2, a.congr (cleared_gone L i), b, c⟩
      clear HI hS hO hT1 hsum a b c e64
      go_wp2_with fail
      go_roundw
      case rel => exact ⟨i + 1, by omega, by go_num, HI2⟩
      case measure => simp [intOf]; omega
    · obtain rfl : i = K := by omega
      by_cases h4 : lv = 4
      · skip
        have hi4 : i = 4 := by omega
        rw [hi4] at HI
        have HI4 := Aside0.mk hi4
        have HE : Aside0 (endOf x = 257) := ⟨by unfold endOf; rw [← HV.out, if_pos h4]⟩
        have hl4 : ((lv : Int) == 4) = true := beq_iff_eq.mpr (by omega)
        clear hi4
        obtain ⟨R1, f1, hS, hO, hT1⟩ := HI.out
        have cr := hS.whl.ring_ 256 (by omega)
        obtain ⟨A1, c1, hR1⟩ := Kd.R_slice (hS.row 256 (by omega))
        rw [hR1] at cr
        obtain ⟨l, hl⟩ : ∃ l, l = L 256 := ⟨_, rfl⟩
        have hg1 : gone L (4 * 64) 256 = l := by rw [hl]; rfl
        rw [hg1] at cr hR1
        obtain ⟨N, hN⟩ : ∃ N, N = l.length := ⟨_, rfl⟩
        rw [← hN] at cr hR1
        replace cr : wr.cell? ⟨g, 257, none⟩ = some (.slice A1 N c1) := cr
        have hNB : N ≤ 1000000 := by rw [hN, hl]; exact Nat.le_trans (tot_one L (by omega)) HB.out
        have HLl := Aside0.mk hl
        have HNN := Aside0.mk hN
        have HSUM : Aside0 (∀ (p : TimT → Bool) j, (allT p L 256).length + ((l.take j).filter p).length ≤ 1000000) := ⟨fun p j => by
          have h1 := part_le l p j
          have h2 : (allT p L 257).length ≤ tot L 257 := allT_le p L 257
          rw [allT, ← HLl.out, List.length_append] at h2
          have h3 := HB.out
          omega⟩
        have HI2 : Aside0 (∃ R2 f2, WhlSt w0 wr base P g m n now D R2 f2 (gone L 256) ∧ R2 256 = .slice A1 N c1 ∧ TR wr base f2 257 u6 (allT (isOver tz) L 256 ++ (l.take 0).filter (isOver tz)) ∧ TR wr base f2 258 u7 (allT (isStay tz) L 256 ++ (l.take 0).filter (isStay tz))) := ⟨R1, f1, hS, hR1, by simpa using hO, by simpa using hT1⟩
        clear HI hl hN hR1 hS hO hT1 hg1 h4
        go_wp2_with fail
        go_loopw [52, 6, 7] (fun v52 v6 v7 w2 => ∃ j : Nat, j ≤ N ∧ v52 = .int .i64 j ∧ Aside0 (∃ R2 f2, WhlSt w0 w2 base P g m n now D R2 f2 (gone L 256) ∧ R2 256 = .slice A1 N c1 ∧ TR w2 base f2 257 v6 (allT (isOver tz) L 256 ++ (l.take j).filter (isOver tz)) ∧ TR w2 base f2 258 v7 (allT (isStay tz) L 256 ++ (l.take j).filter (isStay tz)))) (fun v52 _ _ _ => N - (intOf v52).toNat)
        case atStart => exact ⟨0, Nat.zero_le _, rfl, HI2⟩
        case round =>
          clear HI2
          obtain ⟨j, hj, rfl, HI⟩ := hrel
          obtain ⟨R2, f2, hS, hR2, hO, hT⟩ := HI.out
          clear HI
          by_cases hlj : j < N
          · have hrow := hS.row 256 (by omega)
            rw [hR2, show gone L 256 256 = l from HLl.out.symm] at hrow
            obtain ⟨ad, hA, h0, h1⟩ := tim_at (Kd.R_reads' hrow).2.2 j (by have := HNN.out; omega)
            obtain ⟨⟨id, at_⟩, htm⟩ : ∃ t, t = timN l j := ⟨_, rfl⟩
            rw [← htm] at h0 h1
            simp only at h0 h1
            subst hA
            have HTM := Aside0.mk htm
            have HR2 := Aside0.mk hR2
            have HS3 := Aside0.mk (hS.below (below_alloc (Below.refl wr.heap.size wr) (.cells #[.int .u64 id, .int .u64 at_] 84)) hS.size)
            have HO3 := Aside0.mk (Kd.R_alloc hO (.cells #[.int .u64 id, .int .u64 at_] 84))
            have HT3 := Aside0.mk (Kd.R_alloc hT (.cells #[.int .u64 id, .int .u64 at_] 84))
            have d0 := (blk_cell (blk_new wr (.cells #[.int .u64 id, .int .u64 at_] 84 (0, 0))) 0).trans rfl
            have d1 := (blk_cell (blk_new wr (.cells #[.int .u64 id, .int .u64 at_] 84 (0, 0))) 1).trans rfl
            clear hS hO hT hR2 hrow htm
            by_cases hov : at_ ≤ tz
            · skip
              have b1 : decide (at_ ≤ tz) = true := decide_eq_true hov
              have e1 : (l.take (j + 1)).filter (isOver tz) = (l.take j).filter (isOver tz) ++ [(id, at_)] := by
                rw [filter_next _ l j (by have := HNN.out; omega), ← HTM.out]
                unfold isOver
                rw [b1]
                simp
              have e2 : (l.take (j + 1)).filter (isStay tz) = (l.take j).filter (isStay tz) := by
                rw [filter_next _ l j (by have := HNN.out; omega), ← HTM.out]
                unfold isStay isOver
                rw [b1]
                simp
              have HE1 := Aside0.mk e1
              have HE2 := Aside0.mk e2
              clear hov e1 e2
              go_upto_region 17 with (fail)
              obtain ⟨Bo, hBo⟩ : ∃ Bo, Bo = wr.heap.size := ⟨_, rfl⟩
              obtain ⟨w3, hw3⟩ : ∃ w3, w3 = wr.alloc (.cells #[.int .u64 id, .int .u64 at_] 84) := ⟨_, rfl⟩
              rw [← hBo, ← hw3] at d0 d1
              rw [← hw3] at HS3 HO3 HT3
              rw [← hBo, ← hw3]
              clear hBo hw3 h0 h1
              go_wp2_with ((with_reducible refine gate_builtin (b := .append) (xs := #[.tmp 60, .tmp 62]) rfl ?_); at_builtin; refine Kd.R_append kT (w0 := w0) base rfl (.tmp 60) (.tmp 62) 76 84 (.agg #[.int .u64 0, .int .u64 0]) 16 rfl Try.underlying76 info84 rfl (by decide) (by decide) u6 (allT (isOver tz) L 256 ++ (l.take j).filter (isOver tz)) (id, at_) [.int .u64 id, .int .u64 at_] (fun k => (if k < w3.heap.size then f2 k else 257) = 257) (fun _ => False) rfl rfl (kT_M _ _ _ _) (fun _ h => h.elim) ?aF ?aO HS3.out.bel HS3.out.size ?aL ?_; (case aF => exact (fun k hk => by rw [if_neg (by omega)])); (case aO => exact (Kd.R_mono HO3.out (fun k hk => by split; exact hk; rfl))); (case aL => have := HSUM.out (isOver tz) j; rw [List.length_append]; omega); intro v5 w5 ho hb hg hat; have HNEW := Aside0.mk ho; have HST5 := Aside0.mk (HS3.out.append HO3.out (by omega) hg hb); have HOTH := Aside0.mk (TR.other HT3.out (by decide) HO3.out.1 hg); clear ho hb hg hat)
              go_roundw
              case rel => exact ⟨j + 1, by omega, by go_num, ⟨R2, _, HST5.out, HR2.out, by rw [HE1.out]; exact (by rw [← List.append_assoc]; exact HNEW.out), by rw [HE2.out]; exact HOTH.out⟩⟩
              case measure => simp [intOf]; omega
            · skip
              have b1 : decide (at_ ≤ tz) = false := decide_eq_false hov
              have e1 : (l.take (j + 1)).filter (isOver tz) = (l.take j).filter (isOver tz) := by
                rw [filter_next _ l j (by have := HNN.out; omega), ← HTM.out]
                unfold isOver
                rw [b1]
                simp
              have e2 : (l.take (j + 1)).filter (isStay tz) = (l.take j).filter (isStay tz) ++ [(id, at_)] := by
                rw [filter_next _ l j (by have := HNN.out; omega), ← HTM.out]
                unfold isStay isOver
                rw [b1]
                simp
              have HE1 := Aside0.mk e1
              have HE2 := Aside0.mk e2
              clear hov e1 e2
              go_upto_region 18 with (fail)
              obtain ⟨Bo, hBo⟩ : ∃ Bo, Bo = wr.heap.size := ⟨_, rfl⟩
              obtain ⟨w3, hw3⟩ : ∃ w3, w3 = wr.alloc (.cells #[.int .u64 id, .int .u64 at_] 84) := ⟨_, rfl⟩
              rw [← hBo, ← hw3] at d0 d1
              rw [← hw3] at HS3 HO3 HT3
              rw [← hBo, ← hw3]
              clear hBo hw3 h0 h1
              go_wp2_with ((with_reducible refine gate_builtin (b := .append) (xs := #[.tmp 64, .tmp 66]) rfl ?_); at_builtin; refine Kd.R_append kT (w0 := w0) base rfl (.tmp 64) (.tmp 66) 76 84 (.agg #[.int .u64 0, .int .u64 0]) 16 rfl Try.underlying76 info84 rfl (by decide) (by decide) u7 (allT (isStay tz) L 256 ++ (l.take j).filter (isStay tz)) (id, at_) [.int .u64 id, .int .u64 at_] (fun k => (if k < w3.heap.size then f2 k else 258) = 258) (fun _ => False) rfl rfl (kT_M _ _ _ _) (fun _ h => h.elim) ?aF ?aO HS3.out.bel HS3.out.size ?aL ?_; (case aF => exact (fun k hk => by rw [if_neg (by omega)])); (case aO => exact (Kd.R_mono HT3.out (fun k hk => by split; exact hk; rfl))); (case aL => have := HSUM.out (isStay tz) j; rw [List.length_append]; omega); intro v5 w5 ho hb hg hat; have HNEW := Aside0.mk ho; have HST5 := Aside0.mk (HS3.out.append HT3.out (by omega) hg hb); have HOTH := Aside0.mk (TR.other HO3.out (by decide) HT3.out.1 hg); clear ho hb hg hat)
              go_roundw
              case rel => exact ⟨j + 1, by omega, by go_num, ⟨R2, _, HST5.out, HR2.out, by rw [HE1.out]; exact HOTH.out, by rw [HE2.out]; exact (by rw [← List.append_assoc]; exact HNEW.out)⟩⟩
              case measure => simp [intOf]; omega
          · obtain rfl : N = j := by omega
            have fr4 : wr.frozen? ⟨g, 257, none⟩ = false := hS.whl.frozen 257
            have cr2 : wr.cell? ⟨g, 257, none⟩ = some (R2 256) := hS.whl.ring_ 256 (by omega)
            have HI : Aside0 (∃ R1 f1, WhlSt w0 (wr.setCell ⟨g, 257, none⟩ (.slice none 0 0)) base P g m n now D R1 f1 (gone L 257) ∧ TR (wr.setCell ⟨g, 257, none⟩ (.slice none 0 0)) base f1 257 u6 (allT (isOver tz) L 257) ∧ TR (wr.setCell ⟨g, 257, none⟩ (.slice none 0 0)) base f1 258 u7 (allT (isStay tz) L 257)) := ⟨by
              have h := (hS.clear 256 (by omega)).congr (L' := gone L 257) (fun k => by
                unfold gone
                by_cases e : k = 256
                · rw [if_pos e, if_pos (by omega)]
                · rw [if_neg e]
                  by_cases e2 : k < 256
                  · rw [if_pos e2, if_pos (by omega)]
                  · rw [if_neg e2, if_neg (by omega)])
              have hf : l.take N = l := by rw [HNN.out, List.take_length]
              rw [hf] at hO hT
              refine ⟨_, f2, h, ?_, ?_⟩
              · rw [allT, ← HLl.out]; exact TR.store hO hS.whl _ _
              · rw [allT, ← HLl.out]; exact TR.store hT hS.whl _ _⟩
            have cr3 := hR2
            rw [cr3] at cr2
            clear hS hR2 hO hT cr3 cr
            go_upto_region 21 with (fail)
            obtain ⟨wq, hwq⟩ : ∃ wq, wq = wr.setCell ⟨g, 257, none⟩ (.slice none 0 0) := ⟨_, rfl⟩
            rw [← hwq] at HI
            rw [← hwq]
            clear hwq fr4 cr2
            obtain ⟨E, hE⟩ : ∃ E, E = 257 := ⟨_, rfl⟩
            have HI6 : Aside0 (∃ R1 f1, WhlSt w0 wq base P g m n now D R1 f1 (gone L E) ∧ TR wq base f1 257 u6 (allT (isOver tz) L E) ∧ TR wq base f1 258 u7 (allT (isStay tz) L E)) := ⟨by rw [hE]; exact HI.out⟩
            replace HI := HI6
            rw [← hE] at HE
            clear HI6
            have hN1 : E ≤ 257 := by omega
            clear hE hj hlj HNN HLl HSUM hNB
            obtain ⟨R1, f1, hS, hO, hT1⟩ := HI.out
            have HN1 := Aside0.mk hN1
            clear hN1
            obtain ⟨As, cs, hvs⟩ := Kd.R_slice hT1
            obtain ⟨Ao, co, hvo⟩ := Kd.R_slice hO
            obtain ⟨N, hN⟩ : ∃ N, N = (allT (isStay tz) L E).length := ⟨_, rfl⟩
            obtain ⟨NO, hNO⟩ : ∃ N, N = (allT (isOver tz) L E).length := ⟨_, rfl⟩
            rw [← hN] at hvs
            rw [← hNO] at hvo
            subst hvs hvo
            have c0 := hS.whl.now_
            have fr := hS.whl.frozen 0
            have HTI : Aside0 (∃ R2 f2, WhlSt w0 (wq.setCell ⟨g, 0, none⟩ (.int .u64 tz)) base P g m n tz D R2 f2 (relo tz (gone L E) ((allT (isStay tz) L E).take 0)) ∧ TR (wq.setCell ⟨g, 0, none⟩ (.int .u64 tz)) base f2 257 (.slice Ao NO co) (allT (isOver tz) L E) ∧ TR (wq.setCell ⟨g, 0, none⟩ (.int .u64 tz)) base f2 258 (.slice As N cs) (allT (isStay tz) L E)) := ⟨R1, f1, by exact hS.time tz, TR.store hO hS.whl _ _, TR.store hT1 hS.whl _ _⟩
            have HTS : Aside0 (∀ t, t ∈ allT (isStay tz) L E → TimOk t) := ⟨fun t ht => allT_ok HT.out HN1.out ht⟩
            have HTO : Aside0 (∀ t, t ∈ sorted (allT (isOver tz) L E) → TimOk t) := ⟨fun t ht => allT_ok HT.out HN1.out (List.mem_mergeSort.1 ht)⟩
            have hNB : N ≤ 1000000 := by rw [hN]; exact Nat.le_trans (allT_le _ _ _) (Nat.le_trans (tot_mono L HN1.out) HB.out)
            have hNOB : NO ≤ 1000000 := by rw [hNO]; exact Nat.le_trans (allT_le _ _ _) (Nat.le_trans (tot_mono L HN1.out) HB.out)
            have HLN0 : Aside0 (∀ s, (gone L E s).length ≤ 1000000) := ⟨fun s => by
              unfold gone
              split
              · exact Nat.zero_le _
              · by_cases h : s < 257
                · exact Nat.le_trans (tot_one L h) HB.out
                · exact HL0.out s (by omega)⟩
            obtain ⟨St, hSt⟩ : ∃ St, St = allT (isStay tz) L E := ⟨_, rfl⟩
            obtain ⟨Ov, hOv⟩ : ∃ Ov, Ov = allT (isOver tz) L E := ⟨_, rfl⟩
            rw [← hSt] at HTI HTS hN
            rw [← hOv] at HTI HTO hNO
            have HSt := Aside0.mk hSt
            have HOv := Aside0.mk hOv
            have HNN := Aside0.mk hN
            have HNO := Aside0.mk hNO
            clear HI hS hO hT1 hSt hOv hN hNO
            go_wp2_with fail
            go_loopw [78] (fun v78 w2 => ∃ j : Nat, j ≤ N ∧ v78 = .int .i64 j ∧ Aside0 (∃ R2 f2, WhlSt w0 w2 base P g m n tz D R2 f2 (relo tz (gone L E) (St.take j)) ∧ TR w2 base f2 257 (.slice Ao NO co) Ov ∧ TR w2 base f2 258 (.slice As N cs) St)) (fun v78 _ => N - (intOf v78).toNat)
            case atStart => exact ⟨0, Nat.zero_le _, rfl, HTI⟩
            case round =>
              clear HTI
              obtain ⟨j, hj, rfl, HI⟩ := hrel
              obtain ⟨R3, f3, hS, hO, hT1⟩ := HI.out
              clear HI
              by_cases hlj : j < N
              · obtain ⟨ad, hA, h0, h1⟩ := tim_at (Kd.R_reads' hT1).2.2 j (by have := HNN.out; omega)
                obtain ⟨⟨id, at_⟩, htm⟩ : ∃ t, t = timN St j := ⟨_, rfl⟩
                have hok : TimOk (id, at_) := HTS.out _ (by rw [htm]; exact timN_mem (by have := HNN.out; omega))
                rw [← htm] at h0 h1
                simp only at h0 h1
                subst hA
                have HTM := Aside0.mk htm
                have HS3 := Aside0.mk (hS.below (below_alloc (Below.refl wr.heap.size wr) (.cells #[.int .u64 id, .int .u64 at_] 84)) hS.size)
                have HO3 := Aside0.mk (Kd.R_alloc hO (.cells #[.int .u64 id, .int .u64 at_] 84))
                have HT3 := Aside0.mk (Kd.R_alloc hT1 (.cells #[.int .u64 id, .int .u64 at_] 84))
                have b3 := blk_new wr (.cells #[.int .u64 id, .int .u64 at_] 84 (0, 0))
                have d0 := (blk_cell b3 0).trans rfl
                have d1 := (blk_cell b3 1).trans rfl
                clear hS hO hT1 htm
                go_wp2_with fail
                obtain ⟨B, hBo⟩ : ∃ B, B = wr.heap.size := ⟨_, rfl⟩
                obtain ⟨w3, hw3⟩ : ∃ w3, w3 = wr.alloc (.cells #[.int .u64 id, .int .u64 at_] 84) := ⟨_, rfl⟩
                rw [← hBo, ← hw3] at d0 d1 b3
                rw [← hw3] at HS3 HO3 HT3
                rw [← hw3]
                rw [← hBo]
                clear hBo hw3 h0 h1
                refine (wheel_slot.calls g m tz at_ (xr at_ tz) R3 w3 HS3.out.whl rfl (xr_nonneg hok.2.1 hok.2.2 (by have := HLE.out; omega) HZ.out) hok.2.1).mono ?_
                rintro e w4 ⟨rfl, hb⟩
                have HS4 := Aside0.mk (HS3.out.below hb HS3.out.size)
                have HO4 := Aside0.mk (Kd.R_below HO3.out hb)
                have HT4 := Aside0.mk (Kd.R_below HT3.out hb)
                replace d0 := pw_cell_below hb d0
                replace d1 := pw_cell_below hb d1
                obtain ⟨s, hs⟩ : ∃ s, s = slotOf at_ (xr at_ tz) := ⟨_, rfl⟩
                have hs257 : s < 257 := by rw [hs]; exact slotOf_lt _ _
                rw [← hs]
                have HSL := Aside0.mk hs
                have cr := HS4.out.whl.ring_ s hs257
                have HLN : Aside0 (∀ s, ((relo tz (gone L E) (St.take j) s).length + 1) * 16 ≤ 140737488355328) := ⟨fun s => by
                  have h1 := relo_len tz s (St.take j) (gone L E)
                  have h2 := HLN0.out s
                  have h3 : (St.take j).length ≤ N := by rw [List.length_take]; have := HNN.out; omega
                  omega⟩
                clear hs hb HS3 HO3 HT3 b3 hok
                go_wp2_with fail
                refine start_ (n := 9) (S := fun w' => w'.cell? ⟨g, 1 + s, none⟩ = some (R3 s) ∧ w'.cell? ⟨B, 0, none⟩ = some (.int .u64 id) ∧ w'.cell? ⟨B, 1, none⟩ = some (.int .u64 at_)) (ds := [6, 8]) #[false, false, false, false, false, false, false, false, false] (by kernel_rfl) rfl rfl ⟨cr, d0, d1⟩ (fun hHeld => ?_)
                refine pure_ (i := 0) (N := some 86) (v := ?_) (a' := ?_) #[true, false, false, false, false, false, false, false, false] rfl rfl (by kernel_rfl) (fun _ _ _ h => h) (Or.inl ⟨by rfl, ?_⟩) ?_ ?_
                rotate_left
                · intro w'
                  go_simp
                  with_reducible rfl
                rotate_left
                · simp only [Act.put, List.setIfInBounds_toArray, List.set_cons_zero, List.set_cons_succ, i64_w, i32_w]
                  rfl
                refine pure_ (i := 1) (N := some 87) (v := ?_) (a' := ?_) #[true, true, false, false, false, false, false, false, false] rfl rfl (by kernel_rfl) (fun _ _ _ h => h) (Or.inl ⟨by rfl, ?_⟩) ?_ ?_
                rotate_left
                · intro w'
                  go_simp
                  with_reducible rfl
                rotate_left
                · simp only [Act.put, List.setIfInBounds_toArray, List.set_cons_zero, List.set_cons_succ, i64_w, i32_w]
                  rfl
                refine pure_ (i := 2) (N := some 88) (v := ?_) (a' := ?_) #[true, true, true, false, false, false, false, false, false] rfl rfl (by kernel_rfl) (fun _ _ _ h => h) (Or.inl ⟨by rfl, ?_⟩) ?_ ?_
                rotate_left
                · intro w'
                  go_simp
                  with_reducible rfl
                rotate_left
                · simp only [Act.put, List.setIfInBounds_toArray, List.set_cons_zero, List.set_cons_succ, i64_w, i32_w]
                  rfl
                refine take_ (i := 3) (N := some 89) (v := ?_) (a' := ?_) #[true, true, true, true, false, false, false, false, false] rfl rfl (by kernel_rfl) (fun _ _ _ h => h) (Or.inl ⟨by rfl, ?_⟩) hHeld ?_ ?_
                rotate_left
                · rintro w' ⟨s0, s1, s2⟩
                  go_simp
                  with_reducible rfl
                rotate_left
                · simp only [Act.put, List.setIfInBounds_toArray, List.set_cons_zero, List.set_cons_succ, i64_w, i32_w]
                  rfl
                refine take_ (i := 4) (N := some 90) (v := ?_) (a' := ?_) #[true, true, true, true, true, false, false, false, false] rfl rfl (by kernel_rfl) (fun _ _ _ h => h) (Or.inl ⟨by rfl, ?_⟩) hHeld ?_ ?_
                rotate_left
                · rintro w' ⟨s0, s1, s2⟩
                  go_simp
                  with_reducible rfl
                rotate_left
                · simp only [Act.put, List.setIfInBounds_toArray, List.set_cons_zero, List.set_cons_succ, i64_w, i32_w]
                  rfl
                refine one_ (i := 5) (N := some 91) #[true, true, true, true, true, true, false, false, false] rfl rfl (by kernel_rfl) (by decide) (fun K hK => ?_)
                refine value_ (w1 := w4.drew.alloc (.cells #[.int .u64 id, .int .u64 at_] 84)) (v := .slice (some ⟨w4.heap.size, 0, none⟩) 1 1) (by rfl) rfl ?_ ?_
                · go_simp
                  try rfl
                refine hK.out _ _ ⟨pw_cell_below (below_alloc (Below.refl w4.drew.heap.size w4.drew) _) hHeld.1, pw_cell_below (below_alloc (Below.refl w4.drew.heap.size w4.drew) _) hHeld.2.1, pw_cell_below (below_alloc (Below.refl w4.drew.heap.size w4.drew) _) hHeld.2.2⟩ (fun hHeld => ?_)
                clear hK K
                refine norm_ (a' := ?_) ?_ ?_
                rotate_left
                · show Act.put _ (some 91) _ = _
                  simp only [Act.put, List.setIfInBounds_toArray, List.set_cons_zero, List.set_cons_succ, i64_w, i32_w]
                  rfl
                refine last_ (i := 6) (N := some 92) #[true, true, true, true, true, true, true, false, false] rfl rfl (by kernel_rfl) (by decide) (fun K hK => ?_)
                refine Kd.R_append_step kT (w0 := w0) (W := w4.drew) base (by rfl) (.tmp 89) (.tmp 91) 76 84 (.agg #[.int .u64 0, .int .u64 0]) 16 (by rfl) Try.underlying76 info84 rfl (by decide) (by decide) (R3 s) (relo tz (gone L E) (St.take j) s) (id, at_) [.int .u64 id, .int .u64 at_] (fun k => (if k < w4.heap.size then f3 k else s) = s) (fun _ => False) (by rfl) (by rfl) (kT_M _ _ _ _) (fun _ h => h.elim) ?aF ?aO (below_drew1 HS4.out.bel) HS4.out.size ?aL ?_
                case aF => exact (fun k hk => by have hk2 : w4.heap.size ≤ k := hk; rw [if_neg (by omega)])
                case aO => exact Kd.R_mono (Kd.R_below (HS4.out.row s hs257) (below_drew1 (Below.refl w4.heap.size w4))) (fun k hk => by split; exact hk; rfl)
                case aL => have := HLN.out s; omega
                intro v5 w5 ho hb hg hat
                obtain ⟨A5, q5, hv5⟩ := Kd.R_slice ho
                obtain ⟨n5, hn5⟩ : ∃ n5, n5 = (relo tz (gone L E) (St.take j) s ++ [(id, at_)]).length := ⟨_, rfl⟩
                rw [← hn5] at hv5
                clear hn5
                subst hv5
                have HNEW := Aside0.mk ho
                have HB5 := Aside0.mk hb
                have HG5 : Aside0 (w4.grownBy w5 (R3 s).ownBlock) := ⟨⟨hg.os, hg.tape, hg.output, hg.size, hg.block⟩⟩
                have c5 := (HS4.out.whl.grown HG5.out (TR.not_wheel (HS4.out.row s hs257) HS4.out.whl)).ring_ s hs257
                have fr5 := (HS4.out.whl.grown HG5.out (TR.not_wheel (HS4.out.row s hs257) HS4.out.whl)).frozen (1 + s)
                clear ho hb hg hat
                refine hK.out _ _ ?_
                clear hK K
                refine norm_ (a' := ?_) ?_ ?_
                rotate_left
                · show Act.put _ (some 92) _ = _
                  simp only [Act.put, List.setIfInBounds_toArray, List.set_cons_zero, List.set_cons_succ, i64_w, i32_w]
                  rfl
                refine pure_ (i := 7) (N := some 93) (v := ?_) (a' := ?_) #[true, true, true, true, true, true, true, true, false] rfl rfl (by kernel_rfl) (fun _ _ _ h => h) (Or.inl ⟨by rfl, ?_⟩) ?_ ?_
                rotate_left
                · intro w'
                  go_simp
                  with_reducible rfl
                rotate_left
                · simp only [Act.put, List.setIfInBounds_toArray, List.set_cons_zero, List.set_cons_succ, i64_w, i32_w]
                  rfl
                refine last_ (i := 8) (N := none) #[true, true, true, true, true, true, true, true, true] rfl rfl (by kernel_rfl) (by decide) (fun K hK => ?_)
                refine skip_ (w1 := w5.setCell ⟨g, 1 + s, none⟩ (.slice A5 n5 q5)) (by rfl) rfl ?_ ?_
                · go_simp
                  try rfl
                refine hK.out _ _ ?_
                clear hK K
                refine done_ (by kernel_rfl) ?_
                go_wp2_with fail
                have HNX : Aside0 (∃ R2 f2, WhlSt w0 (w5.setCell ⟨g, 1 + s, none⟩ (.slice A5 n5 q5)) base P g m n tz D R2 f2 (relo tz (gone L E) (St.take (j + 1))) ∧ TR (w5.setCell ⟨g, 1 + s, none⟩ (.slice A5 n5 q5)) base f2 257 (.slice Ao NO co) Ov ∧ TR (w5.setCell ⟨g, 1 + s, none⟩ (.slice A5 n5 q5)) base f2 258 (.slice (some ad) N cs) St) := ⟨by
                  have h := HS4.out.placed hs257 HNEW.out HB5.out HG5.out
                  refine ⟨_, _, h.congr (fun k => ?_), TR.placed HS4.out hs257 (by omega) HO4.out HG5.out, TR.placed HS4.out hs257 (by omega) HT4.out HG5.out⟩
                  rw [take_succ' St j (by have := HNN.out; omega), relo_snoc, ← HTM.out]
                  unfold place
                  simp only
                  rw [← HSL.out]⟩
                clear HNEW HB5 HG5 HS4 HO4 HT4 HLN
                go_roundw
                case rel => exact ⟨j + 1, by omega, by go_num, HNX⟩
                case measure => simp [intOf]; omega
              · obtain rfl : N = j := by omega
                have hf : St.take N = St := by rw [HNN.out, List.take_length]
                rw [hf] at hS
                have hNO2 := HNO.out
                have HS5 := Aside0.mk hS
                have HO5 := Aside0.mk hO
                clear hS hO hT1 hf hNO2
                go_wp2_with fail
                have hcall := sort_timers.calls wr base 257 f3 Ao co Ov (by rw [← HNO.out]; exact HO5.out) (by rw [← HNO.out]; exact hNOB)
                rw [← HNO.out] at hcall
                refine hcall.mono ?_
                clear hcall
                rintro e w6 ⟨rfl, hTs, hg⟩
                have HS6 := Aside0.mk (HS5.out.rewrote HO5.out (by omega) hg)
                obtain ⟨So, hSo⟩ : ∃ So, So = sorted Ov := ⟨_, rfl⟩
                have hNS : NO = So.length := by rw [hSo, sorted_length]; exact HNO.out
                rw [← hSo] at hTs HTO
                have HIS : Aside0 (∃ R2 f2, WhlSt w0 w6 base P g m n tz (dels D (So.take 0)) R2 f2 (relo tz (gone L E) St) ∧ TR w6 base f2 257 (.slice Ao NO co) So ∧ IR w6 base f2 (.slice none 0 0) ((So.take 0).map (·.1))) := ⟨R3, f3, HS6.out, hTs, Kd.R_nil _ _ _ _ _⟩
                have HSo := Aside0.mk hSo
                have HNS := Aside0.mk hNS
                clear hTs hg HS5 HO5 HS6 hSo hNS hlj hj
                go_wp2_with fail
                go_loopw [99, 15] (fun v99 v15 w2 => ∃ j : Nat, j ≤ NO ∧ v99 = .int .i64 j ∧ Aside0 (∃ R2 f2, WhlSt w0 w2 base P g m n tz (dels D (So.take j)) R2 f2 (relo tz (gone L E) St) ∧ TR w2 base f2 257 (.slice Ao NO co) So ∧ IR w2 base f2 v15 ((So.take j).map (·.1)))) (fun v99 _ _ => NO - (intOf v99).toNat)
                case atStart => exact ⟨0, Nat.zero_le _, rfl, HIS⟩
                case round =>
                  clear HIS
                  obtain ⟨j, hj, rfl, HI⟩ := hrel
                  obtain ⟨R4, f4, hS, hO, hI⟩ := HI.out
                  clear HI
                  by_cases hlj : j < NO
                  · obtain ⟨ad, hA, h0, h1⟩ := tim_at (Kd.R_reads' hO).2.2 j (by have := HNS.out; omega)
                    obtain ⟨⟨id, at_⟩, htm⟩ : ∃ t, t = timN So j := ⟨_, rfl⟩
                    have hok : TimOk (id, at_) := HTO.out _ (by rw [htm]; exact timN_mem (by have := HNS.out; omega))
                    rw [← htm] at h0 h1
                    simp only at h0 h1
                    subst hA
                    have HTM := Aside0.mk htm
                    have HS3 := Aside0.mk (hS.below (below_alloc (Below.refl wr.heap.size wr) (.cells #[.int .u64 id, .int .u64 at_] 84)) hS.size)
                    have HO3 := Aside0.mk (Kd.R_alloc hO (.cells #[.int .u64 id, .int .u64 at_] 84))
                    have HI3 := Aside0.mk (Kd.R_alloc hI (.cells #[.int .u64 id, .int .u64 at_] 84))
                    have b3 := blk_new wr (.cells #[.int .u64 id, .int .u64 at_] 84 (0, 0))
                    have hkey := Maps.keyOf_int_mk (P := Try.prog) Try.underlying22 (wf_u64 hok.1.1 hok.1.2)
                    clear hS hO hI htm hok
                    go_upto_region 33 with (fail)
                    obtain ⟨B, hBo⟩ : ∃ B, B = wr.heap.size := ⟨_, rfl⟩
                    obtain ⟨w3, hw3⟩ : ∃ w3, w3 = wr.alloc (.cells #[.int .u64 id, .int .u64 at_] 84) := ⟨_, rfl⟩
                    rw [← hBo, ← hw3] at b3
                    rw [← hw3] at HS3 HO3 HI3
                    rw [← hw3]
                    rw [← hBo]
                    clear hBo hw3 h0 h1
                    have d0 := (blk_cell b3 0).trans rfl
                    have d1 := (blk_cell b3 1).trans rfl
                    have cm := HS3.out.whl.map_
                    have hD3 : Due w3.drew m n (dels D (So.take j)) := HS3.out.due
                    obtain ⟨w4, hdrop, hD4, htu⟩ := World.ownsMap.drop hD3 law22 Try.underlying75 hkey 0
                    have HSd := HS3.out.below (below_drew1 (Below.refl w3.heap.size w3)) HS3.out.size
                    have HS4 := Aside0.mk (HSd.turned hD4 htu)
                    have HO4 := Aside0.mk (KR.turned (Kd.R_below HO3.out (below_drew1 (Below.refl w3.heap.size w3))) hD3 htu)
                    have HI4 := Aside0.mk (KR.turned (Kd.R_below HI3.out (below_drew1 (Below.refl w3.heap.size w3))) hD3 htu)
                    have b4 := blk_turned (w := w3.drew) b3 hD3 htu
                    have e0 := (blk_cell b4 0).trans rfl
                    clear HSd hD3 hD4 htu HS3 HO3 HI3 hkey b3 b4
                    refine start_ (n := 7) (S := fun w' => w'.cell? ⟨g, 258, none⟩ = some (.map (some m)) ∧ w'.cell? ⟨B, 0, none⟩ = some (.int .u64 id)) (ds := [6]) #[false, false, false, false, false, false, false] (by kernel_rfl) rfl rfl ⟨cm, d0⟩ (fun hHeld => ?_)
                    refine pure_ (i := 0) (N := some 103) (v := ?_) (a' := ?_) #[true, false, false, false, false, false, false] rfl rfl (by kernel_rfl) (fun _ _ _ h => h) (Or.inl ⟨by rfl, ?_⟩) ?_ ?_
                    rotate_left
                    · intro w'
                      go_simp
                      with_reducible rfl
                    rotate_left
                    · simp only [Act.put, List.setIfInBounds_toArray, List.set_cons_zero, List.set_cons_succ, i64_w, i32_w]
                      rfl
                    refine pure_ (i := 1) (N := some 104) (v := ?_) (a' := ?_) #[true, true, false, false, false, false, false] rfl rfl (by kernel_rfl) (fun _ _ _ h => h) (Or.inl ⟨by rfl, ?_⟩) ?_ ?_
                    rotate_left
                    · intro w'
                      go_simp
                      with_reducible rfl
                    rotate_left
                    · simp only [Act.put, List.setIfInBounds_toArray, List.set_cons_zero, List.set_cons_succ, i64_w, i32_w]
                      rfl
                    refine pure_ (i := 2) (N := some 105) (v := ?_) (a' := ?_) #[true, true, true, false, false, false, false] rfl rfl (by kernel_rfl) (fun _ _ _ h => h) (Or.inl ⟨by rfl, ?_⟩) ?_ ?_
                    rotate_left
                    · intro w'
                      go_simp
                      with_reducible rfl
                    rotate_left
                    · simp only [Act.put, List.setIfInBounds_toArray, List.set_cons_zero, List.set_cons_succ, i64_w, i32_w]
                      rfl
                    refine pure_ (i := 4) (N := some 107) (v := ?_) (a' := ?_) #[true, true, true, false, true, false, false] rfl rfl (by kernel_rfl) (fun _ _ _ h => h) (Or.inl ⟨by rfl, ?_⟩) ?_ ?_
                    rotate_left
                    · intro w'
                      go_simp
                      with_reducible rfl
                    rotate_left
                    · simp only [Act.put, List.setIfInBounds_toArray, List.set_cons_zero, List.set_cons_succ, i64_w, i32_w]
                      rfl
                    refine take_ (i := 3) (N := some 106) (v := ?_) (a' := ?_) #[true, true, true, true, true, false, false] rfl rfl (by kernel_rfl) (fun _ _ _ h => h) (Or.inl ⟨by rfl, ?_⟩) hHeld ?_ ?_
                    rotate_left
                    · rintro w' ⟨s0, s1⟩
                      go_simp
                      with_reducible rfl
                    rotate_left
                    · simp only [Act.put, List.setIfInBounds_toArray, List.set_cons_zero, List.set_cons_succ, i64_w, i32_w]
                      rfl
                    refine take_ (i := 5) (N := some 108) (v := ?_) (a' := ?_) #[true, true, true, true, true, true, false] rfl rfl (by kernel_rfl) (fun _ _ _ h => h) (Or.inl ⟨by rfl, ?_⟩) hHeld ?_ ?_
                    rotate_left
                    · rintro w' ⟨s0, s1⟩
                      go_simp
                      with_reducible rfl
                    rotate_left
                    · simp only [Act.put, List.setIfInBounds_toArray, List.set_cons_zero, List.set_cons_succ, i64_w, i32_w]
                      rfl
                    refine last_ (i := 6) (N := none) #[true, true, true, true, true, true, true] rfl rfl (by kernel_rfl) (by decide) (fun K hK => ?_)
                    refine value_ (w1 := w4) (v := .tuple #[]) (by rfl) rfl ?_ ?_
                    · go_simp
                      try rfl
                    refine hK.out _ _ ?_
                    clear hK K
                    refine done_ (by kernel_rfl) ?_
                    clear hdrop d0 d1 cm
                    go_wp2_with ((with_reducible refine gate_builtin (b := .append) (xs := #[.tmp 109, .tmp 112]) rfl ?_); at_builtin; refine Kd.R_append (Kd.int .u64) (w0 := w0) base rfl (.tmp 109) (.tmp 112) 42 22 (.int .u64 0) 8 rfl Try.underlying42 info22 rfl (by decide) (by decide) u15 ((So.take j).map (·.1)) id [.int .u64 id] (fun k => (if k < w4.heap.size then f4 k else 259) = 259) (fun _ => False) rfl rfl rfl (fun _ h => h.elim) ?aF ?aO HS4.out.bel HS4.out.size ?aL ?_; (case aF => exact (fun k hk => by rw [if_neg (by omega)])); (case aO => exact (Kd.R_mono HI4.out (fun k hk => by split; exact hk; rfl))); (case aL => have := HNS.out; rw [List.length_map, List.length_take]; omega); intro v5 w5 ho hb hg hat; have HNEW := Aside0.mk ho; have HST5 := Aside0.mk (HS4.out.appendR HI4.out (by decide) (by omega) hg hb); have HOTH := Aside0.mk (TR.other HO4.out (by decide) HI4.out.1 hg); clear ho hb hg hat)
                    have HNX : Aside0 (∃ R2 f2, WhlSt w0 w5 base P g m n tz (dels D (So.take (j + 1))) R2 f2 (relo tz (gone L E) St) ∧ TR w5 base f2 257 (.slice (some ad) NO co) So ∧ IR w5 base f2 v5 ((So.take (j + 1)).map (·.1))) := ⟨by
                      refine ⟨R4, _, ?_, HOTH.out, ?_⟩
                      · rw [take_succ' So j (by have := HNS.out; omega), dels_snoc, ← HTM.out]
                        exact HST5.out
                      · rw [take_succ' So j (by have := HNS.out; omega), List.map_append, ← HTM.out]
                        exact HNEW.out⟩
                    clear HNEW HST5 HOTH HS4 HO4 HI4 HTM
                    go_roundw
                    case rel => exact ⟨j + 1, by omega, by go_num, HNX⟩
                    case measure => simp [intOf]; omega
                  · obtain rfl : NO = j := by omega
                    have hf : So.take NO = So := by rw [HNS.out, List.take_length]
                    rw [hf] at hS hI
                    have HS5 := Aside0.mk hS
                    have HI5 := Aside0.mk hI
                    clear hS hO hI hf
                    go_wp2_with fail
                    go_ret2
                    refine ⟨R4, f4, _, rfl, ?_, ?_⟩
                    · rw [HE.out, ← HOv.out, ← HSt.out, ← HSo.out]; exact HS5.out
                    · rw [HE.out, ← HOv.out, ← HSo.out]; exact HI5.out
      · obtain ⟨E, hE⟩ : ∃ E, E = i * 64 := ⟨_, rfl⟩
        rw [← hE] at HI
        have HE : Aside0 (endOf x = E) := ⟨by
          unfold endOf
          have h1 := HV.out
          have h2 := HK.out
          rw [← h1, if_neg h4]
          omega⟩
        have hN1 : E ≤ 257 := by omega
        have hl4 : ((lv : Int) == 4) = false := beq_eq_false_iff_ne.mpr (by omega)
        clear hE h4
        obtain ⟨R1, f1, hS, hO, hT1⟩ := HI.out
        have HN1 := Aside0.mk hN1
        clear hN1
        obtain ⟨As, cs, hvs⟩ := Kd.R_slice hT1
        obtain ⟨Ao, co, hvo⟩ := Kd.R_slice hO
        obtain ⟨N, hN⟩ : ∃ N, N = (allT (isStay tz) L E).length := ⟨_, rfl⟩
        obtain ⟨NO, hNO⟩ : ∃ N, N = (allT (isOver tz) L E).length := ⟨_, rfl⟩
        rw [← hN] at hvs
        rw [← hNO] at hvo
        subst hvs hvo
        have c0 := hS.whl.now_
        have fr := hS.whl.frozen 0
        have HTI : Aside0 (∃ R2 f2, WhlSt w0 (wr.setCell ⟨g, 0, none⟩ (.int .u64 tz)) base P g m n tz D R2 f2 (relo tz (gone L E) ((allT (isStay tz) L E).take 0)) ∧ TR (wr.setCell ⟨g, 0, none⟩ (.int .u64 tz)) base f2 257 (.slice Ao NO co) (allT (isOver tz) L E) ∧ TR (wr.setCell ⟨g, 0, none⟩ (.int .u64 tz)) base f2 258 (.slice As N cs) (allT (isStay tz) L E)) := ⟨R1, f1, by exact hS.time tz, TR.store hO hS.whl _ _, TR.store hT1 hS.whl _ _⟩
        have HTS : Aside0 (∀ t, t ∈ allT (isStay tz) L E → TimOk t) := ⟨fun t ht => allT_ok HT.out HN1.out ht⟩
        have HTO : Aside0 (∀ t, t ∈ sorted (allT (isOver tz) L E) → TimOk t) := ⟨fun t ht => allT_ok HT.out HN1.out (List.mem_mergeSort.1 ht)⟩
        have hNB : N ≤ 1000000 := by rw [hN]; exact Nat.le_trans (allT_le _ _ _) (Nat.le_trans (tot_mono L HN1.out) HB.out)
        have hNOB : NO ≤ 1000000 := by rw [hNO]; exact Nat.le_trans (allT_le _ _ _) (Nat.le_trans (tot_mono L HN1.out) HB.out)
        have HLN0 : Aside0 (∀ s, (gone L E s).length ≤ 1000000) := ⟨fun s => by
          unfold gone
          split
          · exact Nat.zero_le _
          · by_cases h : s < 257
            · exact Nat.le_trans (tot_one L h) HB.out
            · exact HL0.out s (by omega)⟩
        obtain ⟨St, hSt⟩ : ∃ St, St = allT (isStay tz) L E := ⟨_, rfl⟩
        obtain ⟨Ov, hOv⟩ : ∃ Ov, Ov = allT (isOver tz) L E := ⟨_, rfl⟩
        rw [← hSt] at HTI HTS hN
        rw [← hOv] at HTI HTO hNO
        have HSt := Aside0.mk hSt
        have HOv := Aside0.mk hOv
        have HNN := Aside0.mk hN
        have HNO := Aside0.mk hNO
        clear HI hS hO hT1 hSt hOv hN hNO
        go_wp2_with fail
        go_loopw [78] (fun v78 w2 => ∃ j : Nat, j ≤ N ∧ v78 = .int .i64 j ∧ Aside0 (∃ R2 f2, WhlSt w0 w2 base P g m n tz D R2 f2 (relo tz (gone L E) (St.take j)) ∧ TR w2 base f2 257 (.slice Ao NO co) Ov ∧ TR w2 base f2 258 (.slice As N cs) St)) (fun v78 _ => N - (intOf v78).toNat)
        case atStart => exact ⟨0, Nat.zero_le _, rfl, HTI⟩
        case round =>
          clear HTI
          obtain ⟨j, hj, rfl, HI⟩ := hrel
          obtain ⟨R3, f3, hS, hO, hT1⟩ := HI.out
          clear HI
          by_cases hlj : j < N
          · obtain ⟨ad, hA, h0, h1⟩ := tim_at (Kd.R_reads' hT1).2.2 j (by have := HNN.out; omega)
            obtain ⟨⟨id, at_⟩, htm⟩ : ∃ t, t = timN St j := ⟨_, rfl⟩
            have hok : TimOk (id, at_) := HTS.out _ (by rw [htm]; exact timN_mem (by have := HNN.out; omega))
            rw [← htm] at h0 h1
            simp only at h0 h1
            subst hA
            have HTM := Aside0.mk htm
            have HS3 := Aside0.mk (hS.below (below_alloc (Below.refl wr.heap.size wr) (.cells #[.int .u64 id, .int .u64 at_] 84)) hS.size)
            have HO3 := Aside0.mk (Kd.R_alloc hO (.cells #[.int .u64 id, .int .u64 at_] 84))
            have HT3 := Aside0.mk (Kd.R_alloc hT1 (.cells #[.int .u64 id, .int .u64 at_] 84))
            have b3 := blk_new wr (.cells #[.int .u64 id, .int .u64 at_] 84 (0, 0))
            have d0 := (blk_cell b3 0).trans rfl
            have d1 := (blk_cell b3 1).trans rfl
            clear hS hO hT1 htm
            go_wp2_with fail
            obtain ⟨B, hBo⟩ : ∃ B, B = wr.heap.size := ⟨_, rfl⟩
            obtain ⟨w3, hw3⟩ : ∃ w3, w3 = wr.alloc (.cells #[.int .u64 id, .int .u64 at_] 84) := ⟨_, rfl⟩
            rw [← hBo, ← hw3] at d0 d1 b3
            rw [← hw3] at HS3 HO3 HT3
            rw [← hw3]
            rw [← hBo]
            clear hBo hw3 h0 h1
            refine (wheel_slot.calls g m tz at_ (xr at_ tz) R3 w3 HS3.out.whl rfl (xr_nonneg hok.2.1 hok.2.2 (by have := HLE.out; omega) HZ.out) hok.2.1).mono ?_
            rintro e w4 ⟨rfl, hb⟩
            have HS4 := Aside0.mk (HS3.out.below hb HS3.out.size)
            have HO4 := Aside0.mk (Kd.R_below HO3.out hb)
            have HT4 := Aside0.mk (Kd.R_below HT3.out hb)
            replace d0 := pw_cell_below hb d0
            replace d1 := pw_cell_below hb d1
            obtain ⟨s, hs⟩ : ∃ s, s = slotOf at_ (xr at_ tz) := ⟨_, rfl⟩
            have hs257 : s < 257 := by rw [hs]; exact slotOf_lt _ _
            rw [← hs]
            have HSL := Aside0.mk hs
            have cr := HS4.out.whl.ring_ s hs257
            have HLN : Aside0 (∀ s, ((relo tz (gone L E) (St.take j) s).length + 1) * 16 ≤ 140737488355328) := ⟨fun s => by
              have h1 := relo_len tz s (St.take j) (gone L E)
              have h2 := HLN0.out s
              have h3 : (St.take j).length ≤ N := by rw [List.length_take]; have := HNN.out; omega
              omega⟩
            clear hs hb HS3 HO3 HT3 b3 hok
            go_wp2_with fail
            refine start_ (n := 9) (S := fun w' => w'.cell? ⟨g, 1 + s, none⟩ = some (R3 s) ∧ w'.cell? ⟨B, 0, none⟩ = some (.int .u64 id) ∧ w'.cell? ⟨B, 1, none⟩ = some (.int .u64 at_)) (ds := [6, 8]) #[false, false, false, false, false, false, false, false, false] (by kernel_rfl) rfl rfl ⟨cr, d0, d1⟩ (fun hHeld => ?_)
            refine pure_ (i := 0) (N := some 86) (v := ?_) (a' := ?_) #[true, false, false, false, false, false, false, false, false] rfl rfl (by kernel_rfl) (fun _ _ _ h => h) (Or.inl ⟨by rfl, ?_⟩) ?_ ?_
            rotate_left
            · intro w'
              go_simp
              with_reducible rfl
            rotate_left
            · simp only [Act.put, List.setIfInBounds_toArray, List.set_cons_zero, List.set_cons_succ, i64_w, i32_w]
              rfl
            refine pure_ (i := 1) (N := some 87) (v := ?_) (a' := ?_) #[true, true, false, false, false, false, false, false, false] rfl rfl (by kernel_rfl) (fun _ _ _ h => h) (Or.inl ⟨by rfl, ?_⟩) ?_ ?_
            rotate_left
            · intro w'
              go_simp
              with_reducible rfl
            rotate_left
            · simp only [Act.put, List.setIfInBounds_toArray, List.set_cons_zero, List.set_cons_succ, i64_w, i32_w]
              rfl
            refine pure_ (i := 2) (N := some 88) (v := ?_) (a' := ?_) #[true, true, true, false, false, false, false, false, false] rfl rfl (by kernel_rfl) (fun _ _ _ h => h) (Or.inl ⟨by rfl, ?_⟩) ?_ ?_
            rotate_left
            · intro w'
              go_simp
              with_reducible rfl
            rotate_left
            · simp only [Act.put, List.setIfInBounds_toArray, List.set_cons_zero, List.set_cons_succ, i64_w, i32_w]
              rfl
            refine take_ (i := 3) (N := some 89) (v := ?_) (a' := ?_) #[true, true, true, true, false, false, false, false, false] rfl rfl (by kernel_rfl) (fun _ _ _ h => h) (Or.inl ⟨by rfl, ?_⟩) hHeld ?_ ?_
            rotate_left
            · rintro w' ⟨s0, s1, s2⟩
              go_simp
              with_reducible rfl
            rotate_left
            · simp only [Act.put, List.setIfInBounds_toArray, List.set_cons_zero, List.set_cons_succ, i64_w, i32_w]
              rfl
            refine take_ (i := 4) (N := some 90) (v := ?_) (a' := ?_) #[true, true, true, true, true, false, false, false, false] rfl rfl (by kernel_rfl) (fun _ _ _ h => h) (Or.inl ⟨by rfl, ?_⟩) hHeld ?_ ?_
            rotate_left
            · rintro w' ⟨s0, s1, s2⟩
              go_simp
              with_reducible rfl
            rotate_left
            · simp only [Act.put, List.setIfInBounds_toArray, List.set_cons_zero, List.set_cons_succ, i64_w, i32_w]
              rfl
            refine one_ (i := 5) (N := some 91) #[true, true, true, true, true, true, false, false, false] rfl rfl (by kernel_rfl) (by decide) (fun K hK => ?_)
            refine value_ (w1 := w4.drew.alloc (.cells #[.int .u64 id, .int .u64 at_] 84)) (v := .slice (some ⟨w4.heap.size, 0, none⟩) 1 1) (by rfl) rfl ?_ ?_
            · go_simp
              try rfl
            refine hK.out _ _ ⟨pw_cell_below (below_alloc (Below.refl w4.drew.heap.size w4.drew) _) hHeld.1, pw_cell_below (below_alloc (Below.refl w4.drew.heap.size w4.drew) _) hHeld.2.1, pw_cell_below (below_alloc (Below.refl w4.drew.heap.size w4.drew) _) hHeld.2.2⟩ (fun hHeld => ?_)
            clear hK K
            refine norm_ (a' := ?_) ?_ ?_
            rotate_left
            · show Act.put _ (some 91) _ = _
              simp only [Act.put, List.setIfInBounds_toArray, List.set_cons_zero, List.set_cons_succ, i64_w, i32_w]
              rfl
            refine last_ (i := 6) (N := some 92) #[true, true, true, true, true, true, true, false, false] rfl rfl (by kernel_rfl) (by decide) (fun K hK => ?_)
            refine Kd.R_append_step kT (w0 := w0) (W := w4.drew) base (by rfl) (.tmp 89) (.tmp 91) 76 84 (.agg #[.int .u64 0, .int .u64 0]) 16 (by rfl) Try.underlying76 info84 rfl (by decide) (by decide) (R3 s) (relo tz (gone L E) (St.take j) s) (id, at_) [.int .u64 id, .int .u64 at_] (fun k => (if k < w4.heap.size then f3 k else s) = s) (fun _ => False) (by rfl) (by rfl) (kT_M _ _ _ _) (fun _ h => h.elim) ?aF ?aO (below_drew1 HS4.out.bel) HS4.out.size ?aL ?_
            case aF => exact (fun k hk => by have hk2 : w4.heap.size ≤ k := hk; rw [if_neg (by omega)])
            case aO => exact Kd.R_mono (Kd.R_below (HS4.out.row s hs257) (below_drew1 (Below.refl w4.heap.size w4))) (fun k hk => by split; exact hk; rfl)
            case aL => have := HLN.out s; omega
            intro v5 w5 ho hb hg hat
            obtain ⟨A5, q5, hv5⟩ := Kd.R_slice ho
            obtain ⟨n5, hn5⟩ : ∃ n5, n5 = (relo tz (gone L E) (St.take j) s ++ [(id, at_)]).length := ⟨_, rfl⟩
            rw [← hn5] at hv5
            clear hn5
            subst hv5
            have HNEW := Aside0.mk ho
            have HB5 := Aside0.mk hb
            have HG5 : Aside0 (w4.grownBy w5 (R3 s).ownBlock) := ⟨⟨hg.os, hg.tape, hg.output, hg.size, hg.block⟩⟩
            have c5 := (HS4.out.whl.grown HG5.out (TR.not_wheel (HS4.out.row s hs257) HS4.out.whl)).ring_ s hs257
            have fr5 := (HS4.out.whl.grown HG5.out (TR.not_wheel (HS4.out.row s hs257) HS4.out.whl)).frozen (1 + s)
            clear ho hb hg hat
            refine hK.out _ _ ?_
            clear hK K
            refine norm_ (a' := ?_) ?_ ?_
            rotate_left
            · show Act.put _ (some 92) _ = _
              simp only [Act.put, List.setIfInBounds_toArray, List.set_cons_zero, List.set_cons_succ, i64_w, i32_w]
              rfl
            refine pure_ (i := 7) (N := some 93) (v := ?_) (a' := ?_) #[true, true, true, true, true, true, true, true, false] rfl rfl (by kernel_rfl) (fun _ _ _ h => h) (Or.inl ⟨by rfl, ?_⟩) ?_ ?_
            rotate_left
            · intro w'
              go_simp
              with_reducible rfl
            rotate_left
            · simp only [Act.put, List.setIfInBounds_toArray, List.set_cons_zero, List.set_cons_succ, i64_w, i32_w]
              rfl
            refine last_ (i := 8) (N := none) #[true, true, true, true, true, true, true, true, true] rfl rfl (by kernel_rfl) (by decide) (fun K hK => ?_)
            refine skip_ (w1 := w5.setCell ⟨g, 1 + s, none⟩ (.slice A5 n5 q5)) (by rfl) rfl ?_ ?_
            · go_simp
              try rfl
            refine hK.out _ _ ?_
            clear hK K
            refine done_ (by kernel_rfl) ?_
            go_wp2_with fail
            have HNX : Aside0 (∃ R2 f2, WhlSt w0 (w5.setCell ⟨g, 1 + s, none⟩ (.slice A5 n5 q5)) base P g m n tz D R2 f2 (relo tz (gone L E) (St.take (j + 1))) ∧ TR (w5.setCell ⟨g, 1 + s, none⟩ (.slice A5 n5 q5)) base f2 257 (.slice Ao NO co) Ov ∧ TR (w5.setCell ⟨g, 1 + s, none⟩ (.slice A5 n5 q5)) base f2 258 (.slice (some ad) N cs) St) := ⟨by
              have h := HS4.out.placed hs257 HNEW.out HB5.out HG5.out
              refine ⟨_, _, h.congr (fun k => ?_), TR.placed HS4.out hs257 (by omega) HO4.out HG5.out, TR.placed HS4.out hs257 (by omega) HT4.out HG5.out⟩
              rw [take_succ' St j (by have := HNN.out; omega), relo_snoc, ← HTM.out]
              unfold place
              simp only
              rw [← HSL.out]⟩
            clear HNEW HB5 HG5 HS4 HO4 HT4 HLN
            go_roundw
            case rel => exact ⟨j + 1, by omega, by go_num, HNX⟩
            case measure => simp [intOf]; omega
          · obtain rfl : N = j := by omega
            have hf : St.take N = St := by rw [HNN.out, List.take_length]
            rw [hf] at hS
            have hNO2 := HNO.out
            have HS5 := Aside0.mk hS
            have HO5 := Aside0.mk hO
            clear hS hO hT1 hf hNO2
            go_wp2_with fail
            have hcall := sort_timers.calls wr base 257 f3 Ao co Ov (by rw [← HNO.out]; exact HO5.out) (by rw [← HNO.out]; exact hNOB)
            rw [← HNO.out] at hcall
            refine hcall.mono ?_
            clear hcall
            rintro e w6 ⟨rfl, hTs, hg⟩
            have HS6 := Aside0.mk (HS5.out.rewrote HO5.out (by omega) hg)
            obtain ⟨So, hSo⟩ : ∃ So, So = sorted Ov := ⟨_, rfl⟩
            have hNS : NO = So.length := by rw [hSo, sorted_length]; exact HNO.out
            rw [← hSo] at hTs HTO
            have HIS : Aside0 (∃ R2 f2, WhlSt w0 w6 base P g m n tz (dels D (So.take 0)) R2 f2 (relo tz (gone L E) St) ∧ TR w6 base f2 257 (.slice Ao NO co) So ∧ IR w6 base f2 (.slice none 0 0) ((So.take 0).map (·.1))) := ⟨R3, f3, HS6.out, hTs, Kd.R_nil _ _ _ _ _⟩
            have HSo := Aside0.mk hSo
            have HNS := Aside0.mk hNS
            clear hTs hg HS5 HO5 HS6 hSo hNS hlj hj
            go_wp2_with fail
            go_loopw [99, 15] (fun v99 v15 w2 => ∃ j : Nat, j ≤ NO ∧ v99 = .int .i64 j ∧ Aside0 (∃ R2 f2, WhlSt w0 w2 base P g m n tz (dels D (So.take j)) R2 f2 (relo tz (gone L E) St) ∧ TR w2 base f2 257 (.slice Ao NO co) So ∧ IR w2 base f2 v15 ((So.take j).map (·.1)))) (fun v99 _ _ => NO - (intOf v99).toNat)
            case atStart => exact ⟨0, Nat.zero_le _, rfl, HIS⟩
            case round =>
              clear HIS
              obtain ⟨j, hj, rfl, HI⟩ := hrel
              obtain ⟨R4, f4, hS, hO, hI⟩ := HI.out
              clear HI
              by_cases hlj : j < NO
              · obtain ⟨ad, hA, h0, h1⟩ := tim_at (Kd.R_reads' hO).2.2 j (by have := HNS.out; omega)
                obtain ⟨⟨id, at_⟩, htm⟩ : ∃ t, t = timN So j := ⟨_, rfl⟩
                have hok : TimOk (id, at_) := HTO.out _ (by rw [htm]; exact timN_mem (by have := HNS.out; omega))
                rw [← htm] at h0 h1
                simp only at h0 h1
                subst hA
                have HTM := Aside0.mk htm
                have HS3 := Aside0.mk (hS.below (below_alloc (Below.refl wr.heap.size wr) (.cells #[.int .u64 id, .int .u64 at_] 84)) hS.size)
                have HO3 := Aside0.mk (Kd.R_alloc hO (.cells #[.int .u64 id, .int .u64 at_] 84))
                have HI3 := Aside0.mk (Kd.R_alloc hI (.cells #[.int .u64 id, .int .u64 at_] 84))
                have b3 := blk_new wr (.cells #[.int .u64 id, .int .u64 at_] 84 (0, 0))
                have hkey := Maps.keyOf_int_mk (P := Try.prog) Try.underlying22 (wf_u64 hok.1.1 hok.1.2)
                clear hS hO hI htm hok
                go_upto_region 33 with (fail)
                obtain ⟨B, hBo⟩ : ∃ B, B = wr.heap.size := ⟨_, rfl⟩
                obtain ⟨w3, hw3⟩ : ∃ w3, w3 = wr.alloc (.cells #[.int .u64 id, .int .u64 at_] 84) := ⟨_, rfl⟩
                rw [← hBo, ← hw3] at b3
                rw [← hw3] at HS3 HO3 HI3
                rw [← hw3]
                rw [← hBo]
                clear hBo hw3 h0 h1
                have d0 := (blk_cell b3 0).trans rfl
                have d1 := (blk_cell b3 1).trans rfl
                have cm := HS3.out.whl.map_
                have hD3 : Due w3.drew m n (dels D (So.take j)) := HS3.out.due
                obtain ⟨w4, hdrop, hD4, htu⟩ := World.ownsMap.drop hD3 law22 Try.underlying75 hkey 0
                have HSd := HS3.out.below (below_drew1 (Below.refl w3.heap.size w3)) HS3.out.size
                have HS4 := Aside0.mk (HSd.turned hD4 htu)
                have HO4 := Aside0.mk (KR.turned (Kd.R_below HO3.out (below_drew1 (Below.refl w3.heap.size w3))) hD3 htu)
                have HI4 := Aside0.mk (KR.turned (Kd.R_below HI3.out (below_drew1 (Below.refl w3.heap.size w3))) hD3 htu)
                have b4 := blk_turned (w := w3.drew) b3 hD3 htu
                have e0 := (blk_cell b4 0).trans rfl
                clear HSd hD3 hD4 htu HS3 HO3 HI3 hkey b3 b4
                refine start_ (n := 7) (S := fun w' => w'.cell? ⟨g, 258, none⟩ = some (.map (some m)) ∧ w'.cell? ⟨B, 0, none⟩ = some (.int .u64 id)) (ds := [6]) #[false, false, false, false, false, false, false] (by kernel_rfl) rfl rfl ⟨cm, d0⟩ (fun hHeld => ?_)
                refine pure_ (i := 0) (N := some 103) (v := ?_) (a' := ?_) #[true, false, false, false, false, false, false] rfl rfl (by kernel_rfl) (fun _ _ _ h => h) (Or.inl ⟨by rfl, ?_⟩) ?_ ?_
                rotate_left
                · intro w'
                  go_simp
                  with_reducible rfl
                rotate_left
                · simp only [Act.put, List.setIfInBounds_toArray, List.set_cons_zero, List.set_cons_succ, i64_w, i32_w]
                  rfl
                refine pure_ (i := 1) (N := some 104) (v := ?_) (a' := ?_) #[true, true, false, false, false, false, false] rfl rfl (by kernel_rfl) (fun _ _ _ h => h) (Or.inl ⟨by rfl, ?_⟩) ?_ ?_
                rotate_left
                · intro w'
                  go_simp
                  with_reducible rfl
                rotate_left
                · simp only [Act.put, List.setIfInBounds_toArray, List.set_cons_zero, List.set_cons_succ, i64_w, i32_w]
                  rfl
                refine pure_ (i := 2) (N := some 105) (v := ?_) (a' := ?_) #[true, true, true, false, false, false, false] rfl rfl (by kernel_rfl) (fun _ _ _ h => h) (Or.inl ⟨by rfl, ?_⟩) ?_ ?_
                rotate_left
                · intro w'
                  go_simp
                  with_reducible rfl
                rotate_left
                · simp only [Act.put, List.setIfInBounds_toArray, List.set_cons_zero, List.set_cons_succ, i64_w, i32_w]
                  rfl
                refine pure_ (i := 4) (N := some 107) (v := ?_) (a' := ?_) #[true, true, true, false, true, false, false] rfl rfl (by kernel_rfl) (fun _ _ _ h => h) (Or.inl ⟨by rfl, ?_⟩) ?_ ?_
                rotate_left
                · intro w'
                  go_simp
                  with_reducible rfl
                rotate_left
                · simp only [Act.put, List.setIfInBounds_toArray, List.set_cons_zero, List.set_cons_succ, i64_w, i32_w]
                  rfl
                refine take_ (i := 3) (N := some 106) (v := ?_) (a' := ?_) #[true, true, true, true, true, false, false] rfl rfl (by kernel_rfl) (fun _ _ _ h => h) (Or.inl ⟨by rfl, ?_⟩) hHeld ?_ ?_
                rotate_left
                · rintro w' ⟨s0, s1⟩
                  go_simp
                  with_reducible rfl
                rotate_left
                · simp only [Act.put, List.setIfInBounds_toArray, List.set_cons_zero, List.set_cons_succ, i64_w, i32_w]
                  rfl
                refine take_ (i := 5) (N := some 108) (v := ?_) (a' := ?_) #[true, true, true, true, true, true, false] rfl rfl (by kernel_rfl) (fun _ _ _ h => h) (Or.inl ⟨by rfl, ?_⟩) hHeld ?_ ?_
                rotate_left
                · rintro w' ⟨s0, s1⟩
                  go_simp
                  with_reducible rfl
                rotate_left
                · simp only [Act.put, List.setIfInBounds_toArray, List.set_cons_zero, List.set_cons_succ, i64_w, i32_w]
                  rfl
                refine last_ (i := 6) (N := none) #[true, true, true, true, true, true, true] rfl rfl (by kernel_rfl) (by decide) (fun K hK => ?_)
                refine value_ (w1 := w4) (v := .tuple #[]) (by rfl) rfl ?_ ?_
                · go_simp
                  try rfl
                refine hK.out _ _ ?_
                clear hK K
                refine done_ (by kernel_rfl) ?_
                clear hdrop d0 d1 cm
                go_wp2_with ((with_reducible refine gate_builtin (b := .append) (xs := #[.tmp 109, .tmp 112]) rfl ?_); at_builtin; refine Kd.R_append (Kd.int .u64) (w0 := w0) base rfl (.tmp 109) (.tmp 112) 42 22 (.int .u64 0) 8 rfl Try.underlying42 info22 rfl (by decide) (by decide) u15 ((So.take j).map (·.1)) id [.int .u64 id] (fun k => (if k < w4.heap.size then f4 k else 259) = 259) (fun _ => False) rfl rfl rfl (fun _ h => h.elim) ?aF ?aO HS4.out.bel HS4.out.size ?aL ?_; (case aF => exact (fun k hk => by rw [if_neg (by omega)])); (case aO => exact (Kd.R_mono HI4.out (fun k hk => by split; exact hk; rfl))); (case aL => have := HNS.out; rw [List.length_map, List.length_take]; omega); intro v5 w5 ho hb hg hat; have HNEW := Aside0.mk ho; have HST5 := Aside0.mk (HS4.out.appendR HI4.out (by decide) (by omega) hg hb); have HOTH := Aside0.mk (TR.other HO4.out (by decide) HI4.out.1 hg); clear ho hb hg hat)
                have HNX : Aside0 (∃ R2 f2, WhlSt w0 w5 base P g m n tz (dels D (So.take (j + 1))) R2 f2 (relo tz (gone L E) St) ∧ TR w5 base f2 257 (.slice (some ad) NO co) So ∧ IR w5 base f2 v5 ((So.take (j + 1)).map (·.1))) := ⟨by
                  refine ⟨R4, _, ?_, HOTH.out, ?_⟩
                  · rw [take_succ' So j (by have := HNS.out; omega), dels_snoc, ← HTM.out]
                    exact HST5.out
                  · rw [take_succ' So j (by have := HNS.out; omega), List.map_append, ← HTM.out]
                    exact HNEW.out⟩
                clear HNEW HST5 HOTH HS4 HO4 HI4 HTM
                go_roundw
                case rel => exact ⟨j + 1, by omega, by go_num, HNX⟩
                case measure => simp [intOf]; omega
              · obtain rfl : NO = j := by omega
                have hf : So.take NO = So := by rw [HNS.out, List.take_length]
                rw [hf] at hS hI
                have HS5 := Aside0.mk hS
                have HI5 := Aside0.mk hI
                clear hS hO hI hf
                go_wp2_with fail
                go_ret2
                refine ⟨R4, f4, _, rfl, ?_, ?_⟩
                · rw [HE.out, ← HOv.out, ← HSt.out, ← HSo.out]; exact HS5.out
                · rw [HE.out, ← HOv.out, ← HSo.out]; exact HI5.out
end Go.Proofs.Ytkgdlmgodpgcoaa.Hand
