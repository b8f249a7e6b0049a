/- Wheel: the document's Remove, Next, Ring, Spread. -/
import Derived.Test.YtkgdlmgodpgcoaaWhlW
import Derived.Test.YtkgdlmgodpgcoaaWhlU
import Derived.Test.YtkgdlmgodpgcoaaWhlK
namespace Go.Proofs.Ytkgdlmgodpgcoaa.Hand
open Go.RowKit Go.Maps Go.Proofs.YtkgdlmgodpgcoaaW.PrintWords Go.Proofs.YtkgdlmgodpgcoaaW.PrintLast Go.Proofs.YtkgdlmgodpgcoaaW.PrintMore
set_option linter.unusedVariables false
set_option linter.unusedSimpArgs false

theorem split_at {l : List TimT} {i : Nat} (hi : i < l.length) : l.take i ++ timN l i :: l.drop (i + 1) = l := by
  have h2 := take_succ' l i hi
  have h3 := List.take_append_drop (i + 1) l
  rw [h2, List.append_assoc] at h3
  exact h3
theorem take_drop_without {l : List TimT} (hN : (l.map (·.1)).Nodup) {i : Nat} {id : Int} (hi : i < l.length) (hid : (timN l i).1 = id) (hpre : ∀ t, t ∈ l.take i → t.1 ≠ id) : l.take i ++ l.drop (i + 1) = without l id := by
  have hs := split_at hi
  have h2 : without (l.take i ++ timN l i :: l.drop (i + 1)) id = l.take i ++ l.drop (i + 1) := by
    unfold without
    rw [List.filter_append, List.filter_cons_of_neg (by simpa using hid), List.filter_eq_self.2 (fun t ht => by simpa using hpre t ht), List.filter_eq_self.2 (fun t ht => ?_)]
    have h1 : ((timN l i :: l.drop (i + 1)).map (·.1)).Nodup := by
      rw [← hs] at hN
      rw [List.map_append] at hN
      exact (List.nodup_append.1 hN).2.1
    rw [List.map_cons, List.nodup_cons] at h1
    have : t.1 ≠ id := fun e => h1.1 (List.mem_map.2 ⟨t, ht, e.trans hid.symm⟩)
    simpa using this
  rw [← h2, hs]
set_option maxHeartbeats 4000000 in
set_option maxRecDepth 100000 in
theorem ref_Remove.all {w : World} {F : Nat → Prop} {r : Nat} {now : Int} {Ls : List TimT} (h : Rst w F r now Ls) (hS : Srt Ls) (hl : Ls.length ≤ 8192) (id : Int) :
    Calls Try.prog 51 #[.pointer (some ⟨r, 0, none⟩), .int .u64 id] w fun e w' => e = .returned (.int .i64 (remE Ls id)) ∧ ∃ F', Rst w' F' r now (without Ls id) ∧ (∀ k, F' k → F k ∨ w.heap.size ≤ k) ∧ KeptW F w w' := by
  have H := Aside0.mk h
  have HS := Aside0.mk hS
  have HL := Aside0.mk hl
  clear h hS hl
  go_enter Try.func51, Try.ntmps51
  go_wp2_with fail
  refine (ref_find.calls H.out id).mono ?_
  rintro e w1 ⟨⟨k, rfl, hk⟩, rfl⟩
  rcases hk with ⟨rfl, hno⟩ | ⟨i, hi, rfl, hid, hpre⟩
  · have HE : Aside0 (remE Ls id = 7 ∧ without Ls id = Ls) := ⟨by unfold remE; rw [hno]; rfl, without_self hno⟩
    clear hno
    go_wp2_with fail
    go_ret
    exact ⟨by rw [HE.out.1]; rfl, F, by rw [HE.out.2]; exact H.out, fun k hk => .inl hk, KeptW.refl _ _⟩
  · have HE : Aside0 (remE Ls id = 0 ∧ Ls.take i ++ Ls.drop (i + 1) = without Ls id) := ⟨by unfold remE; rw [if_pos (hasId_at hi hid)], take_drop_without HS.out.nodup hi hid hpre⟩
    obtain ⟨A, c, hb, hC, hc⟩ := H.out.view
    obtain ⟨N, hN⟩ : ∃ N, N = Ls.length := ⟨_, rfl⟩
    rw [← hN] at hb hC hc
    have hiN : i < N := by omega
    have d0 := (blk_cell hb 0).trans rfl
    have hN2 : (N : Int) ≤ 8192 := by have := HL.out; omega
    have HC := Aside0.mk hC
    have HN := Aside0.mk hN
    have HBL := Aside0.mk hb
    obtain ⟨hct, hCT⟩ := cut_take hC hN hc i (by omega)
    obtain ⟨A2, m2, c2, hcut, hC2, hm2⟩ := cut_drop hC hN hc (i + 1) (by omega)
    have HC1 := Aside0.mk hCT
    have HC2 := Aside0.mk hC2
    have HL1 : Aside0 ((([] : List TimT).length + i) * 16 ≤ 140737488355328) := ⟨by have := HL.out; simp; omega⟩
    have HLM : Aside0 (((Ls.take i).length + m2) * 16 ≤ 140737488355328) := ⟨by rw [hm2, List.length_take, List.length_drop]; have := HL.out; omega⟩
    have HR0 : Aside0 (RT w1 w1.heap.size (fun _ => True) (.slice none 0 0) []) := ⟨Kd.R_nil _ _ _ _ _⟩
    push_cast at hcut
    clear hb hC hN hid hpre hi hC2 hCT hm2
    go_wp2_with (first
      | ((with_reducible refine gate_builtin (b := .append) (xs := #[.tmp 12, .tmp 18]) rfl ?_); at_builtin; refine Kd.R_append_rows kT (Rr := kT.K w1) (w0 := w1) w1.heap.size rfl (.tmp 12) (.tmp 18) 37 56 (.agg #[.int .u64 0, .int .u64 0]) 16 rfl Try.underlying37 info56 rfl (by decide) (by decide) (.slice none 0 0) [] (Ls.take i) A i c (fun _ => True) (fun _ => False) rfl rfl HR0.out HC1.out (kT_KM _ _ _ _) (fun _ h => h.elim) (fun _ _ => trivial) (Below.refl _ _) (Nat.le_refl _) HL1.out ?_; intro v5 w5 ho hb hg hat; rw [List.nil_append] at ho; have HA5 := Aside0.mk ho; have HB5 := Aside0.mk hb; have d5 := pw_cell_below hb d0; clear ho hb hg hat HR0 HC1 HL1)
      | ((with_reducible refine gate_builtin (b := .append) (xs := #[.tmp 21, .tmp 28]) rfl ?_); at_builtin; refine Kd.R_append_rows kT (Rr := kT.K w5) (w0 := w1) w1.heap.size rfl (.tmp 21) (.tmp 28) 37 56 (.agg #[.int .u64 0, .int .u64 0]) 16 rfl Try.underlying37 info56 rfl (by decide) (by decide) v5 (Ls.take i) (Ls.drop (i + 1)) A2 m2 c2 (fun _ => True) (fun _ => False) rfl rfl HA5.out (Kd.C_below HC2.out HB5.out) (kT_KM _ _ _ _) (fun _ h => h.elim) (fun _ _ => trivial) HB5.out HB5.out.size HLM.out ?_; intro v6 w6 ho hb hg hat; obtain ⟨A6, c6, hv6⟩ := Kd.R_slice ho; have HA6 := Aside0.mk ho; have HB6 := Aside0.mk hb; have b6 := (hb.block r (blk_lt HBL.out)).trans HBL.out; have d6 := (blk_cell b6 0).trans rfl; have f6 := blk_frozen b6 0; obtain ⟨N6, hN6⟩ : ∃ N6, N6 = (Ls.take i ++ Ls.drop (i + 1)).length := ⟨_, rfl⟩; rw [← hN6] at hv6; subst hv6; clear ho hb hg hat b6 hN6))
    go_ret
    obtain ⟨F', hR', hF', hk'⟩ := H.out.close HB6.out HA6.out
    rw [HE.out.2] at hR'
    exact ⟨by rw [HE.out.1]; rfl, F', hR', hF', hk'⟩
theorem leastOf_le {l : List TimT} {t : TimT} (h : t ∈ l) : leastOf l ≤ t.2 := by
  obtain ⟨s, u, rfl⟩ := List.append_of_mem h
  have hp : (s ++ t :: u).Perm ((s ++ u) ++ [t]) := List.perm_middle.trans (List.perm_append_comm (l₁ := [t]) (l₂ := s ++ u))
  rw [leastOf_perm hp, leastOf_snoc]
  omega
set_option maxHeartbeats 2000000 in
set_option maxRecDepth 100000 in
theorem ref_Next.all {w : World} {F : Nat → Prop} {r : Nat} {now : Int} {Ls : List TimT} (h : Rst w F r now Ls) (hU : ∀ t, t ∈ Ls → t.2 ≤ 18446744073709551615) :
    Calls Try.prog 47 #[.pointer (some ⟨r, 0, none⟩)] w fun e w' => e = .returned (.tuple #[.int .u64 (if Ls = [] then 0 else leastOf Ls), .bool (!decide (Ls = []))]) ∧ w' = w := by
  obtain ⟨A, c, hb, hC, _⟩ := h.view
  have d0 := (blk_cell hb 0).trans rfl
  by_cases hz : Ls = []
  · have b1 : ((Ls.length : Int) == 0) = true := by rw [hz]; rfl
    rw [if_pos hz, decide_eq_true hz]
    clear hz h hb hC
    go_enter Try.func47, Try.ntmps47
    go_wp2_with fail
    go_ret2
    exact ⟨rfl, rfl⟩
  · have hpos : 0 < Ls.length := by cases Ls with | nil => exact absurd rfl hz | cons t l => simp
    have b1 : ((Ls.length : Int) == 0) = false := beq_eq_false_iff_ne.mpr (by omega)
    rw [if_neg hz, decide_eq_false hz]
    obtain ⟨ad, hA, h0, h1⟩ := tim_at hC 0 hpos
    subst hA
    obtain ⟨⟨ti, ta⟩, htm⟩ : ∃ t, t = timN Ls 0 := ⟨_, rfl⟩
    rw [← htm] at h1
    simp only at h1
    rw [Nat.zero_mul, show ad.add 0 = ad from by unfold Addr.add; rfl] at h1
    have HTM := Aside0.mk htm
    have HL0 : Aside0 (ta = min ta (leastOf (Ls.take 0))) := ⟨by
      have := hU _ (timN_mem hpos)
      rw [← htm] at this
      show ta = min ta 18446744073709551615
      simp only at this
      omega⟩
    have HFIN : Aside0 (min ta (leastOf Ls) = leastOf Ls) := ⟨by
      have := leastOf_le (timN_mem hpos)
      rw [← htm] at this
      simp only at this
      omega⟩
    obtain ⟨N, hN⟩ : ∃ N, N = Ls.length := ⟨_, rfl⟩
    rw [← hN] at d0 b1 hC
    have hN2 : (N : Int) ≤ 9223372036854775807 := by have := hC.2.1; omega
    have hNp : 0 < N := by omega
    have HC := Aside0.mk hC
    have HN := Aside0.mk hN
    clear hz h hb hC htm hpos hN h0
    go_enter Try.func47, Try.ntmps47
    go_wp2_with fail
    clear h1
    go_loopw [5, 4] (fun v5 v4 wr => ∃ (i : Nat) (z : Int), i ≤ N ∧ v5 = .int .i64 i ∧ v4 = .int .u64 z ∧ wr = w ∧ Aside0 (z = min ta (leastOf (Ls.take i)))) (fun v5 _ _ => N - (intOf v5).toNat)
    case atStart => exact ⟨0, ta, Nat.zero_le _, rfl, rfl, rfl, HL0⟩
    case round =>
      clear HL0
      obtain ⟨i, z, hi, rfl, rfl, rfl, HZ⟩ := hrel
      by_cases hlt : i < N
      · obtain ⟨ad', hA', h0, h1⟩ := tim_at HC.out i hlt
        injection hA' with hA'
        subst hA'
        obtain ⟨⟨yi, ya⟩, hym⟩ : ∃ t, t = timN Ls i := ⟨_, rfl⟩
        rw [← hym] at h0 h1
        simp only at h0 h1
        have HS : Aside0 (leastOf (Ls.take (i + 1)) = min (leastOf (Ls.take i)) ya) := ⟨by rw [take_succ' Ls i (by have := HN.out; omega), ← hym, leastOf_snoc]⟩
        clear hym h0
        by_cases hy : ya < z
        · have b2 : decide (ya < z) = true := decide_eq_true hy
          have HZ2 : Aside0 (ya = min ta (leastOf (Ls.take (i + 1)))) := ⟨by rw [HS.out]; have := HZ.out; omega⟩
          clear hy HZ HS
          go_wp2_with fail
          go_roundw
          case rel => exact ⟨i + 1, ya, by omega, by go_num, rfl, trivial, HZ2⟩
          case measure => simp [intOf]; omega
        · have b2 : decide (ya < z) = false := decide_eq_false hy
          have HZ2 : Aside0 (z = min ta (leastOf (Ls.take (i + 1)))) := ⟨by rw [HS.out]; have := HZ.out; omega⟩
          clear hy HZ HS
          go_wp2_with fail
          go_roundw
          case rel => exact ⟨i + 1, z, by omega, by go_num, rfl, trivial, HZ2⟩
          case measure => simp [intOf]; omega
      · obtain rfl : i = N := by omega
        have HE : Aside0 (z = leastOf Ls) := ⟨by have h := HZ.out; rw [HN.out, List.take_length, HFIN.out] at h; exact h⟩
        clear HZ
        go_wp2_with fail
        go_ret2
        exact ⟨by rw [HE.out]; rfl, rfl⟩
def dv (a : Int) : Nat → Int
  | 0 => a
  | i + 1 => dv a i / 64
def rgN (a b : Int) : Nat → Nat
  | 0 => 0
  | i + 1 => if dv a i % 64 = dv b i % 64 then rgN a b i else i
theorem dv_nonneg {a : Int} (h : 0 ≤ a) : ∀ i, 0 ≤ dv a i
  | 0 => h
  | i + 1 => by have := dv_nonneg h i; show 0 ≤ dv a i / 64; omega
theorem dv_le {a : Int} (h : U a) : ∀ i, dv a i ≤ 18446744073709551615
  | 0 => h.2
  | i + 1 => by have := dv_le h i; have := dv_nonneg h.1 i; show dv a i / 64 ≤ _; omega
theorem dv_eq {a b : Int} {k : Nat} (h : dv a k = dv b k) : ∀ m, dv a (k + m) = dv b (k + m)
  | 0 => h
  | m + 1 => by show dv a (k + m) / 64 = dv b (k + m) / 64; rw [dv_eq h m]
theorem rgN_same {a b : Int} {k : Nat} (h : dv a k = dv b k) : ∀ m, rgN a b (k + m) = rgN a b k
  | 0 => rfl
  | m + 1 => by
    show (if dv a (k + m) % 64 = dv b (k + m) % 64 then rgN a b (k + m) else k + m) = _
    rw [dv_eq h m, if_pos rfl, rgN_same h m]
theorem rgN_ge {a b : Int} {j : Nat} (h : dv a j % 64 ≠ dv b j % 64) : ∀ m, j ≤ rgN a b (j + 1 + m)
  | 0 => by
    show j ≤ (if dv a j % 64 = dv b j % 64 then rgN a b j else j)
    rw [if_neg h]
    exact Nat.le_refl _
  | m + 1 => by
    show j ≤ (if dv a (j + 1 + m) % 64 = dv b (j + 1 + m) % 64 then rgN a b (j + 1 + m) else j + 1 + m)
    have := rgN_ge h m
    split
    · exact this
    · omega
theorem dv_up {a b : Int} {j : Nat} (h1 : dv a (j + 1) = dv b (j + 1)) (h2 : dv a j % 64 = dv b j % 64) : dv a j = dv b j := by
  have h3 : dv a j / 64 = dv b j / 64 := h1
  omega
theorem dv_eleven {a : Int} (h : U a) : dv a 11 = 0 := by
  obtain ⟨h1, h2⟩ := h
  simp only [dv]
  omega
theorem rg_ring {a b : Int} (ha : U a) (hb : U b) : (if 4 < rgN a b 11 then 4 else rgN a b 11) = ringD a b := by
  have e1 : dv a 1 = a / 64 ∧ dv b 1 = b / 64 := ⟨rfl, rfl⟩
  have e2 : dv a 2 = a / 4096 ∧ dv b 2 = b / 4096 := by simp only [dv]; omega
  have e3 : dv a 3 = a / 262144 ∧ dv b 3 = b / 262144 := by simp only [dv]; omega
  have e4 : dv a 4 = a / 16777216 ∧ dv b 4 = b / 16777216 := by simp only [dv]; omega
  have step : ∀ j, dv a j ≠ dv b j → dv a (j + 1) = dv b (j + 1) → rgN a b (j + 1) = j := fun j h1 h2 => by
    show (if dv a j % 64 = dv b j % 64 then rgN a b j else j) = j
    rw [if_neg (fun h => h1 (dv_up h2 h))]
  unfold ringD
  rw [← e1.1, ← e1.2, ← e2.1, ← e2.2, ← e3.1, ← e3.2, ← e4.1, ← e4.2]
  by_cases h1 : dv a 1 = dv b 1
  · rw [if_pos h1, show rgN a b 11 = rgN a b 1 from rgN_same h1 10]
    have : rgN a b 1 = 0 := by show (if _ then rgN a b 0 else 0) = 0; split <;> rfl
    rw [this]
    rfl
  · rw [if_neg h1]
    by_cases h2 : dv a 2 = dv b 2
    · rw [if_pos h2, show rgN a b 11 = rgN a b 2 from rgN_same h2 9, step 1 h1 h2]
      rfl
    · rw [if_neg h2]
      by_cases h3 : dv a 3 = dv b 3
      · rw [if_pos h3, show rgN a b 11 = rgN a b 3 from rgN_same h3 8, step 2 h2 h3]
        rfl
      · rw [if_neg h3]
        by_cases h4 : dv a 4 = dv b 4
        · rw [if_pos h4, show rgN a b 11 = rgN a b 4 from rgN_same h4 7, step 3 h3 h4]
          rfl
        · rw [if_neg h4]
          have key : 4 ≤ rgN a b 11 := by
            by_cases g10 : dv a 10 % 64 = dv b 10 % 64
            · have q10 := dv_up (j := 10) (by rw [show dv a (10 + 1) = 0 from dv_eleven ha, show dv b (10 + 1) = 0 from dv_eleven hb]) g10
              by_cases g9 : dv a 9 % 64 = dv b 9 % 64
              · have q9 := dv_up (j := 9) q10 g9
                by_cases g8 : dv a 8 % 64 = dv b 8 % 64
                · have q8 := dv_up (j := 8) q9 g8
                  by_cases g7 : dv a 7 % 64 = dv b 7 % 64
                  · have q7 := dv_up (j := 7) q8 g7
                    by_cases g6 : dv a 6 % 64 = dv b 6 % 64
                    · have q6 := dv_up (j := 6) q7 g6
                      by_cases g5 : dv a 5 % 64 = dv b 5 % 64
                      · have q5 := dv_up (j := 5) q6 g5
                        by_cases g4 : dv a 4 % 64 = dv b 4 % 64
                        · exact absurd (dv_up (j := 4) q5 g4) h4
                        · exact rgN_ge g4 6
                      · exact Nat.le_trans (by decide) (rgN_ge g5 5)
                    · exact Nat.le_trans (by decide) (rgN_ge g6 4)
                  · exact Nat.le_trans (by decide) (rgN_ge g7 3)
                · exact Nat.le_trans (by decide) (rgN_ge g8 2)
              · exact Nat.le_trans (by decide) (rgN_ge g9 1)
            · exact Nat.le_trans (by decide) (rgN_ge g10 0)
          split <;> omega
set_option maxHeartbeats 2000000 in
set_option maxRecDepth 100000 in
theorem ref_Ring.calls (a b : Int) (ha : U a) (hb : U b) (w : World) : Calls Try.prog 40 #[.int .u64 a, .int .u64 b] w fun e w' => e = .returned (.int .i64 (ringD a b : Nat)) ∧ w' = w := by
  have HA := Aside0.mk ha
  have HB := Aside0.mk hb
  clear ha hb
  go_enter Try.func40, Try.ntmps40
  go_wp2_with fail
  go_loopw [0, 1, 6, 5] (fun v0 v1 v6 v5 wr => ∃ i : Nat, i ≤ 11 ∧ v0 = .int .u64 (dv a i) ∧ v1 = .int .u64 (dv b i) ∧ v6 = .int .i64 i ∧ v5 = .int .i64 (rgN a b i : Nat) ∧ wr = w) (fun _ _ v6 _ _ => 11 - (intOf v6).toNat)
  case atStart => exact ⟨0, by omega, rfl, rfl, rfl, rfl, rfl⟩
  case round =>
    obtain ⟨i, hi, rfl, rfl, rfl, rfl, rfl⟩ := hrel
    obtain ⟨x, hx⟩ : ∃ x, x = dv a i := ⟨_, rfl⟩
    obtain ⟨y, hy⟩ : ∃ y, y = dv b i := ⟨_, rfl⟩
    obtain ⟨q, hq⟩ : ∃ q, q = rgN a b i := ⟨_, rfl⟩
    have hx0 : 0 ≤ x := by rw [hx]; exact dv_nonneg HA.out.1 i
    have hx1 : x ≤ 18446744073709551615 := by rw [hx]; exact dv_le HA.out i
    have hy0 : 0 ≤ y := by rw [hy]; exact dv_nonneg HB.out.1 i
    have hy1 : y ≤ 18446744073709551615 := by rw [hy]; exact dv_le HB.out i
    have HX := Aside0.mk hx
    have HY := Aside0.mk hy
    have HQ := Aside0.mk hq
    rw [← hx, ← hy, ← hq]
    clear hx hy hq
    by_cases hlt : i < 11
    · have hi2 : (i : Int) < 11 := by omega
      have HXN : Aside0 (dv a (i + 1) = x / 64 ∧ dv b (i + 1) = y / 64) := ⟨by rw [HX.out, HY.out]; exact ⟨rfl, rfl⟩⟩
      by_cases he : x % 64 = y % 64
      · have b1 : (x % 64 == y % 64) = true := beq_iff_eq.mpr he
        have HRN : Aside0 (rgN a b (i + 1) = q) := ⟨by show (if dv a i % 64 = dv b i % 64 then rgN a b i else i) = q; rw [← HX.out, ← HY.out, if_pos he, HQ.out]⟩
        clear he
        go_wp2_with fail
        go_roundw
        case rel => exact ⟨i + 1, by omega, by rw [HXN.out.1], by rw [HXN.out.2], by go_num, by rw [HRN.out], trivial⟩
        case measure => simp [intOf]; omega
      · have b1 : (x % 64 == y % 64) = false := beq_eq_false_iff_ne.mpr he
        have HRN : Aside0 (rgN a b (i + 1) = i) := ⟨by show (if dv a i % 64 = dv b i % 64 then rgN a b i else i) = i; rw [← HX.out, ← HY.out, if_neg he]⟩
        clear he
        go_wp2_with fail
        go_roundw
        case rel => exact ⟨i + 1, by omega, by rw [HXN.out.1], by rw [HXN.out.2], by go_num, by rw [HRN.out], trivial⟩
        case measure => simp [intOf]; omega
    · have bi : decide ((i : Int) < 11) = false := decide_eq_false (by omega)
      have HR : Aside0 ((if 4 < q then 4 else q) = ringD a b) := ⟨by
        have e : i = 11 := by omega
        rw [HQ.out, e]
        exact rg_ring HA.out HB.out⟩
      clear hlt hi
      by_cases h4 : 4 < q
      · have b4 : decide ((q : Int) > 4) = true := decide_eq_true (by omega)
        have HR4 : Aside0 (ringD a b = 4) := ⟨by rw [← HR.out, if_pos h4]⟩
        clear h4
        go_wp2_with fail
        go_ret
        exact ⟨by rw [HR4.out]; rfl, rfl⟩
      · have b4 : decide ((q : Int) > 4) = false := decide_eq_false (by omega)
        have HR4 : Aside0 (ringD a b = q) := ⟨by rw [← HR.out, if_neg h4]⟩
        clear h4
        go_wp2_with fail
        go_ret
        exact ⟨by rw [HR4.out]; rfl, rfl⟩
/-- The counters' block, the first i timers counted. -/
structure SpR (w wr : World) (Ls : List TimT) (now : Int) (i : Nat) : Prop where
  blk : ∃ arr, wr.heap[w.heap.size + 1]? = some (.cells arr 40 (0, 0)) ∧ arr.size = 5 ∧ ∀ k, k < 5 → arr[k]? = some (.int .i64 ((cntOf (Ls.take i) now k : Nat) : Int))
  res : wr.heap[w.heap.size]? = some (.cells #[.int .i64 0, .int .i64 0, .int .i64 0, .int .i64 0, .int .i64 0] 40 (0, 0))
  bel : Below w.heap.size w wr
theorem cntOf_next {Ls : List TimT} {now : Int} {i k : Nat} (hi : i < Ls.length) : cntOf (Ls.take (i + 1)) now k = cntOf (Ls.take i) now k + (if ringD (timN Ls i).2 now = k then 1 else 0) := by
  unfold cntOf
  rw [take_succ' Ls i hi, List.filter_append, List.length_append]
  congr 1
  by_cases e : ringD (timN Ls i).2 now = k
  · rw [List.filter_cons_of_pos (by simpa using e), if_pos e]; rfl
  · rw [List.filter_cons_of_neg (by simpa using e), if_neg e]; rfl
theorem ringD_lt (a b : Int) : ringD a b < 5 := by rcases ringD_cases a b with ⟨e, _⟩ | ⟨e, _⟩ | ⟨e, _⟩ | ⟨e, _⟩ | ⟨e, _⟩ <;> omega
theorem SpR.put {w wr : World} {Ls : List TimT} {now : Int} {i : Nat} (h : SpR w wr Ls now i) (hi : i < Ls.length) : SpR w (wr.setCell ⟨w.heap.size + 1, ringD (timN Ls i).2 now, none⟩ (.int .i64 ((cntOf (Ls.take i) now (ringD (timN Ls i).2 now) : Nat) + 1))) Ls now (i + 1) := by
  obtain ⟨⟨arr, hb, hs, ha⟩, hr, hbel⟩ := h
  have hlt := ringD_lt (timN Ls i).2 now
  refine ⟨⟨_, blk_put hb _ _ rfl, by simpa using hs, fun k hk => ?_⟩, (Below.heap_setCell wr ⟨w.heap.size + 1, _, none⟩ _ _ (by simp)).trans hr, hbel.setCell (p := ⟨w.heap.size + 1, _, none⟩) (by simp) _⟩
  rw [cntOf_next hi]
  by_cases e : ringD (timN Ls i).2 now = k
  · subst e
    rw [Array.getElem?_setIfInBounds_self_of_lt (by omega), if_pos rfl]
    rfl
  · rw [Array.getElem?_setIfInBounds_ne e, ha k hk, if_neg e]
    rfl
theorem cntOf_le (Ls : List TimT) (now : Int) (k : Nat) : cntOf Ls now k ≤ Ls.length := List.length_filter_le _ _
set_option maxHeartbeats 4000000 in
set_option maxRecDepth 100000 in
theorem ref_Spread.all {w : World} {F : Nat → Prop} {r : Nat} {now : Int} {Ls : List TimT} (h : Rst w F r now Ls) (hl : Ls.length ≤ 8192) (hn : U now) (hU : ∀ t, t ∈ Ls → U t.2) :
    Calls Try.prog 22 #[.pointer (some ⟨r, 0, none⟩)] w fun e w' => e = .returned (.agg #[.int .i64 (cntOf Ls now 0 : Nat), .int .i64 (cntOf Ls now 1 : Nat), .int .i64 (cntOf Ls now 2 : Nat), .int .i64 (cntOf Ls now 3 : Nat), .int .i64 (cntOf Ls now 4 : Nat)]) ∧ Below w.heap.size w w' := by
  obtain ⟨A, c, hb, hC, _⟩ := h.view
  obtain ⟨N, hN⟩ : ∃ N, N = Ls.length := ⟨_, rfl⟩
  rw [← hN] at hb hC hl
  have hN2 : (N : Int) ≤ 8192 := by omega
  have HC := Aside0.mk hC
  have HN := Aside0.mk hN
  have HBL := Aside0.mk hb
  have HU := Aside0.mk hU
  have HNW := Aside0.mk hn
  clear h hb hC hN hl hn hU
  have b2 := blk_alloc (blk_new w (.cells #[.int .i64 0, .int .i64 0, .int .i64 0, .int .i64 0, .int .i64 0] 40 (0, 0))) (.cells #[.int .i64 0, .int .i64 0, .int .i64 0, .int .i64 0, .int .i64 0] 40)
  have b3 := blk_new (w.alloc (.cells #[.int .i64 0, .int .i64 0, .int .i64 0, .int .i64 0, .int .i64 0] 40)) (.cells #[.int .i64 0, .int .i64 0, .int .i64 0, .int .i64 0, .int .i64 0] 40 (0, 0))
  rw [World.size_alloc] at b3
  have HI0 : Aside0 (SpR w ((w.alloc (.cells #[.int .i64 0, .int .i64 0, .int .i64 0, .int .i64 0, .int .i64 0] 40)).alloc (.cells #[.int .i64 0, .int .i64 0, .int .i64 0, .int .i64 0, .int .i64 0] 40)) Ls now 0) := ⟨⟨⟨_, b3, rfl, fun k hk => by
    match k, hk with
    | 0, _ => rfl
    | 1, _ => rfl
    | 2, _ => rfl
    | 3, _ => rfl
    | 4, _ => rfl⟩, b2, below_alloc (below_alloc (Below.refl _ _) _) _⟩⟩
  clear b2 b3
  go_enter Try.func22, Try.ntmps22
  go_wp2_with fail
  go_loopw [4] (fun v4 wr => ∃ i : Nat, i ≤ N ∧ v4 = .int .i64 i ∧ Aside0 (SpR w wr Ls now i)) (fun v4 _ => N - (intOf v4).toNat)
  case atStart => exact ⟨0, by omega, rfl, HI0⟩
  case round =>
    clear HI0
    obtain ⟨i, hi, rfl, HI⟩ := hrel
    have hbw := (HI.out.bel.block r (blk_lt HBL.out)).trans HBL.out
    have d0 := (blk_cell hbw 0).trans rfl
    have d1 := (blk_cell hbw 1).trans rfl
    clear hbw
    by_cases hlt : i < N
    · have hiL : i < Ls.length := by have := HN.out; omega
      obtain ⟨ad, hA, h0, h1⟩ := tim_at (Kd.C_below HC.out HI.out.bel) i hlt
      subst hA
      have hta : U (timN Ls i).2 := HU.out _ (timN_mem hiL)
      have hput := HI.out.put hiL
      have hq := cntOf_le (Ls.take i) now (ringD (timN Ls i).2 now)
      rw [List.length_take] at hq
      obtain ⟨arr, hb, hs, ha⟩ := HI.out.blk
      have k0 := ha _ (ringD_lt (timN Ls i).2 now)
      have hrl := ringD_lt (timN Ls i).2 now
      obtain ⟨⟨ti, ta⟩, htm⟩ : ∃ t, t = timN Ls i := ⟨_, rfl⟩
      rw [← htm] at h1 hta hput hq k0 hrl
      simp only at h1 hta hput hq k0 hrl
      obtain ⟨kr, hkr⟩ : ∃ kr, kr = ringD ta now := ⟨_, rfl⟩
      have HKR := Aside0.mk hkr
      rw [← hkr] at hput hq k0 hrl
      obtain ⟨q, hqe⟩ : ∃ q, q = cntOf (Ls.take i) now kr := ⟨_, rfl⟩
      rw [← hqe] at hput hq k0
      have hq2 : (q : Int) ≤ 8192 := by omega
      have e0 := (blk_cell hb kr).trans k0
      have f0 := blk_frozen hb kr
      have HNX : Aside0 (SpR w (wr.drew.setCell ⟨w.heap.size + 1, kr, none⟩ (.int .i64 ((q : Int) + 1))) Ls now (i + 1)) := ⟨by
        obtain ⟨p1, p2, p3⟩ := hput
        exact ⟨p1, p2, below_drew1 p3⟩⟩
      have HTA := Aside0.mk hta
      have hkr2 : (kr : Int) < 5 := by omega
      clear hkr hqe hput k0 hb hs ha HI htm h0 hq hta hiL
      go_upto_region 5 with (fail)
      refine start_ (n := 14) (S := fun w' => w'.cell? ⟨r, 0, none⟩ = some (.slice (some ad) N c) ∧ w'.cell? ⟨r, 1, none⟩ = some (.int .u64 now) ∧ w'.cell? ⟨(ad.add (i * 2)).block, (ad.add (i * 2)).off + 1, none⟩ = some (.int .u64 ta) ∧ w' = wr.drew) (ds := []) #[false, false, false, false, false, false, false, false, false, false, false, false, false, false] (by kernel_rfl) rfl rfl ⟨d0, d1, h1, rfl⟩ (fun hHeld => ?_)
      refine pure_ (i := 0) (N := some 15) (v := ?_) (a' := ?_) #[true, false, false, false, false, false, false, false, false, false, false, false, false, false] rfl rfl (by kernel_rfl) (fun _ _ _ h => h) (Or.inl ⟨by rfl, ?_⟩) ?_ ?_
      rotate_left
      · intro w'
        go_simp
        with_reducible rfl
      rotate_left
      · simp only [Act.put, List.setIfInBounds_toArray, List.set_cons_zero, List.set_cons_succ, i64_w, i32_w]
        rfl
      refine pure_ (i := 1) (N := some 16) (v := ?_) (a' := ?_) #[true, true, false, false, false, false, false, false, false, false, false, false, false, false] rfl rfl (by kernel_rfl) (fun _ _ _ h => h) (Or.inl ⟨by rfl, ?_⟩) ?_ ?_
      rotate_left
      · intro w'
        go_simp
        with_reducible rfl
      rotate_left
      · simp only [Act.put, List.setIfInBounds_toArray, List.set_cons_zero, List.set_cons_succ, i64_w, i32_w]
        rfl
      refine pure_ (i := 2) (N := some 17) (v := ?_) (a' := ?_) #[true, true, true, false, false, false, false, false, false, false, false, false, false, false] rfl rfl (by kernel_rfl) (fun _ _ _ h => h) (Or.inl ⟨by rfl, ?_⟩) ?_ ?_
      rotate_left
      · intro w'
        go_simp
        with_reducible rfl
      rotate_left
      · simp only [Act.put, List.setIfInBounds_toArray, List.set_cons_zero, List.set_cons_succ, i64_w, i32_w]
        rfl
      refine pure_ (i := 4) (N := some 19) (v := ?_) (a' := ?_) #[true, true, true, false, true, false, false, false, false, false, false, false, false, false] rfl rfl (by kernel_rfl) (fun _ _ _ h => h) (Or.inl ⟨by rfl, ?_⟩) ?_ ?_
      rotate_left
      · intro w'
        go_simp
        with_reducible rfl
      rotate_left
      · simp only [Act.put, List.setIfInBounds_toArray, List.set_cons_zero, List.set_cons_succ, i64_w, i32_w]
        rfl
      refine pure_ (i := 8) (N := some 23) (v := ?_) (a' := ?_) #[true, true, true, false, true, false, false, false, true, false, false, false, false, false] rfl rfl (by kernel_rfl) (fun _ _ _ h => h) (Or.inl ⟨by rfl, ?_⟩) ?_ ?_
      rotate_left
      · intro w'
        go_simp
        with_reducible rfl
      rotate_left
      · simp only [Act.put, List.setIfInBounds_toArray, List.set_cons_zero, List.set_cons_succ, i64_w, i32_w]
        rfl
      refine pure_ (i := 9) (N := some 24) (v := ?_) (a' := ?_) #[true, true, true, false, true, false, false, false, true, true, false, false, false, false] rfl rfl (by kernel_rfl) (fun _ _ _ h => h) (Or.inl ⟨by rfl, ?_⟩) ?_ ?_
      rotate_left
      · intro w'
        go_simp
        with_reducible rfl
      rotate_left
      · simp only [Act.put, List.setIfInBounds_toArray, List.set_cons_zero, List.set_cons_succ, i64_w, i32_w]
        rfl
      refine pure_ (i := 10) (N := some 25) (v := ?_) (a' := ?_) #[true, true, true, false, true, false, false, false, true, true, true, false, false, false] rfl rfl (by kernel_rfl) (fun _ _ _ h => h) (Or.inl ⟨by rfl, ?_⟩) ?_ ?_
      rotate_left
      · intro w'
        go_simp
        with_reducible rfl
      rotate_left
      · simp only [Act.put, List.setIfInBounds_toArray, List.set_cons_zero, List.set_cons_succ, i64_w, i32_w]
        rfl
      refine take_ (i := 3) (N := some 18) (v := ?_) (a' := ?_) #[true, true, true, true, true, false, false, false, true, true, true, false, false, false] rfl rfl (by kernel_rfl) (fun _ _ _ h => h) (Or.inl ⟨by rfl, ?_⟩) hHeld ?_ ?_
      rotate_left
      · rintro w' ⟨s0, s1, s2, s3⟩
        go_simp
        with_reducible rfl
      rotate_left
      · simp only [Act.put, List.setIfInBounds_toArray, List.set_cons_zero, List.set_cons_succ, i64_w, i32_w]
        rfl
      refine pure_ (i := 5) (N := some 20) (v := ?_) (a' := ?_) #[true, true, true, true, true, true, false, false, true, true, true, false, false, false] rfl rfl (by kernel_rfl) (fun _ _ _ h => h) (Or.inl ⟨by rfl, ?_⟩) ?_ ?_
      rotate_left
      · intro w'
        go_simp
        with_reducible rfl
      rotate_left
      · simp only [Act.put, List.setIfInBounds_toArray, List.set_cons_zero, List.set_cons_succ, i64_w, i32_w]
        rfl
      refine pure_ (i := 6) (N := some 21) (v := ?_) (a' := ?_) #[true, true, true, true, true, true, true, false, true, true, true, false, false, false] rfl rfl (by kernel_rfl) (fun _ _ _ h => h) (Or.inl ⟨by rfl, ?_⟩) ?_ ?_
      rotate_left
      · intro w'
        go_simp
        with_reducible rfl
      rotate_left
      · simp only [Act.put, List.setIfInBounds_toArray, List.set_cons_zero, List.set_cons_succ, i64_w, i32_w]
        rfl
      refine take_ (i := 7) (N := some 22) (v := ?_) (a' := ?_) #[true, true, true, true, true, true, true, true, true, true, true, false, false, false] rfl rfl (by kernel_rfl) (fun _ _ _ h => h) (Or.inl ⟨by rfl, ?_⟩) hHeld ?_ ?_
      rotate_left
      · rintro w' ⟨s0, s1, s2, s3⟩
        go_simp
        with_reducible rfl
      rotate_left
      · simp only [Act.put, List.setIfInBounds_toArray, List.set_cons_zero, List.set_cons_succ, i64_w, i32_w]
        rfl
      refine take_ (i := 11) (N := some 26) (v := ?_) (a' := ?_) #[true, true, true, true, true, true, true, true, true, true, true, true, false, false] rfl rfl (by kernel_rfl) (fun _ _ _ h => h) (Or.inl ⟨by rfl, ?_⟩) hHeld ?_ ?_
      rotate_left
      · rintro w' ⟨s0, s1, s2, s3⟩
        go_simp
        with_reducible rfl
      rotate_left
      · simp only [Act.put, List.setIfInBounds_toArray, List.set_cons_zero, List.set_cons_succ, i64_w, i32_w]
        rfl
      refine one_ (i := 12) (N := some 27) #[true, true, true, true, true, true, true, true, true, true, true, true, true, false] rfl rfl (by kernel_rfl) (by decide) (fun K hK => ?_)
      refine goes_ Try.func40 (by kernel_rfl) rfl #[.int .u64 ta, .int .u64 now] (by rfl) rfl rfl (by simp only [List.map_toArray, List.map_cons, List.map_nil]; rfl) ?_
      with_reducible refine (ref_Ring.calls ta now HTA.out HNW.out _).mono ?_
      rintro e w7 ⟨rfl, rfl⟩
      rw [← HKR.out]
      refine ⟨_, rfl, ?_⟩
      refine hK.out _ _ ⟨hHeld.1, hHeld.2.1, hHeld.2.2.1, hHeld.2.2.2⟩ (fun hHeld => ?_)
      clear hK K
      refine norm_ (a' := ?_) ?_ ?_
      rotate_left
      · show Act.put _ (some 27) _ = _
        simp only [Act.put, List.setIfInBounds_toArray, List.set_cons_zero, List.set_cons_succ, i64_w, i32_w]
        rfl
      refine pure_ (i := 13) (N := some 5) (v := ?_) (a' := ?_) #[true, true, true, true, true, true, true, true, true, true, true, true, true, true] rfl rfl (by kernel_rfl) (fun _ _ _ h => h) (Or.inl ⟨by rfl, ?_⟩) ?_ ?_
      rotate_left
      · intro w'
        go_simp
        with_reducible rfl
      rotate_left
      · simp only [Act.put, List.setIfInBounds_toArray, List.set_cons_zero, List.set_cons_succ, i64_w, i32_w]
        rfl
      refine done_ (by kernel_rfl) ?_
      go_wp2_with fail
      go_roundw
      case rel => exact ⟨i + 1, by omega, by go_num, HNX⟩
      case measure => simp [intOf]; omega
    · obtain rfl : i = N := by omega
      obtain ⟨arr, hb, hs, ha⟩ := HI.out.blk
      have harr : arr = #[.int .i64 (cntOf Ls now 0 : Nat), .int .i64 (cntOf Ls now 1 : Nat), .int .i64 (cntOf Ls now 2 : Nat), .int .i64 (cntOf Ls now 3 : Nat), .int .i64 (cntOf Ls now 4 : Nat)] := by
        rw [HN.out, List.take_length] at ha
        apply Array.ext_getElem?
        intro j
        match j with
        | 0 => exact ha 0 (by omega)
        | 1 => exact ha 1 (by omega)
        | 2 => exact ha 2 (by omega)
        | 3 => exact ha 3 (by omega)
        | 4 => exact ha 4 (by omega)
        | j + 5 => rw [Array.getElem?_eq_none (by omega), Array.getElem?_eq_none (by simp)]
      rw [harr] at hb
      have hr := HI.out.res
      have HRS := Aside0.mk hr
      have HBE := Aside0.mk HI.out.bel
      have d0 := (blk_cell hb 0).trans rfl
      have d1 := (blk_cell hb 1).trans rfl
      have d2 := (blk_cell hb 2).trans rfl
      have d3 := (blk_cell hb 3).trans rfl
      have d4 := (blk_cell hb 4).trans rfl
      have e0 := (blk_cell hr 0).trans rfl
      have e1 := (blk_cell hr 1).trans rfl
      have e2 := (blk_cell hr 2).trans rfl
      have e3 := (blk_cell hr 3).trans rfl
      have e4 := (blk_cell hr 4).trans rfl
      have y0 := blk_frozen hr 0
      have y1 := blk_frozen hr 1
      have y2 := blk_frozen hr 2
      have y3 := blk_frozen hr 3
      have y4 := blk_frozen hr 4
      have hbw := (HI.out.bel.block r (blk_lt HBL.out)).trans HBL.out
      have dr := (blk_cell hbw 0).trans rfl
      clear ha harr hb hs hr HI hbw
      go_wp2_with fail
      have hfin := blk_put (blk_put (blk_put (blk_put (blk_put HRS.out 0 (.int .i64 (cntOf Ls now 0 : Nat)) rfl) 1 (.int .i64 (cntOf Ls now 1 : Nat)) rfl) 2 (.int .i64 (cntOf Ls now 2 : Nat)) rfl) 3 (.int .i64 (cntOf Ls now 3 : Nat)) rfl) 4 (.int .i64 (cntOf Ls now 4 : Nat)) rfl
      refine bodyPost_ret (results_cell_row rfl _ _ w.heap.size 40 _ (0, 0) _ rfl hfin Try.underlying40 rfl (by kernel_rfl)) rfl ?_
      refine ⟨rfl, ?_⟩
      exact ((((HBE.out.setCell (p := ⟨w.heap.size, 0, none⟩) (Nat.le_refl _) _).setCell (p := ⟨w.heap.size, 1, none⟩) (Nat.le_refl _) _).setCell (p := ⟨w.heap.size, 2, none⟩) (Nat.le_refl _) _).setCell (p := ⟨w.heap.size, 3, none⟩) (Nat.le_refl _) _).setCell (p := ⟨w.heap.size, 4, none⟩) (Nat.le_refl _) _
end Go.Proofs.Ytkgdlmgodpgcoaa.Hand
