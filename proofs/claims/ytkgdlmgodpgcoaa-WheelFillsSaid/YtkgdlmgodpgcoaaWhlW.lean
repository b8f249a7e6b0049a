/- Wheel: the document's Add and Remove. -/
import Derived.Test.YtkgdlmgodpgcoaaWhlV
namespace Go.Proofs.Ytkgdlmgodpgcoaa.Hand
open Go.RowKit Go.Maps Go.Proofs.YtkgdlmgodpgcoaaW.PrintWords Go.Proofs.YtkgdlmgodpgcoaaW.PrintLast Go.Proofs.YtkgdlmgodpgcoaaW.PrintMore
set_option linter.unusedVariables false
set_option linter.unusedSimpArgs false

/-- By rising numbers. -/
def Srt (l : List TimT) : Prop := l.Pairwise fun a b => a.1 < b.1
theorem Srt.nodup {l : List TimT} (h : Srt l) : (l.map (·.1)).Nodup := by
  unfold List.Nodup
  rw [List.pairwise_map]
  exact List.Pairwise.imp (fun h => by omega) h
theorem Srt.filter {l : List TimT} (h : Srt l) (p : TimT → Bool) : Srt (l.filter p) := List.Pairwise.sublist List.filter_sublist h
theorem timN_get {l : List TimT} {i : Nat} (h : i < l.length) : timN l i = l[i] := by
  unfold timN
  rw [List.getD_eq_getElem?_getD, List.getElem?_eq_getElem h]
  rfl
theorem Srt.put {l : List TimT} (h : Srt l) {id at_ : Int} {i : Nat} (hi : i ≤ l.length) (h1 : ∀ t, t ∈ l.take i → t.1 < id) (h2 : i < l.length → ¬ (timN l i).1 < id) (h3 : hasId l id = false) : Srt (l.take i ++ (id, at_) :: l.drop i) := by
  have hs : l.take i ++ l.drop i = l := List.take_append_drop i l
  have hp : (l.take i ++ l.drop i).Pairwise fun a b => a.1 < b.1 := by rw [hs]; exact h
  obtain ⟨p1, p2, p3⟩ := List.pairwise_append.1 hp
  have h4 : ∀ t, t ∈ l.drop i → id < t.1 := fun t ht => by
    have hlt : i < l.length := by
      rcases Nat.lt_or_ge i l.length with h | h
      · exact h
      · rw [List.drop_eq_nil_of_le h] at ht; cases ht
    have h5 := h2 hlt
    rw [timN_get hlt] at h5
    have h6 : t ∈ l := List.mem_of_mem_drop ht
    have h7 := hasId_false.1 h3 t h6
    rw [List.drop_eq_getElem_cons hlt] at ht p2
    rcases List.mem_cons.1 ht with rfl | ht
    · omega
    · have := (List.pairwise_cons.1 p2).1 t ht
      omega
  unfold Srt
  rw [List.pairwise_append, List.pairwise_cons]
  refine ⟨p1, ⟨h4, p2⟩, fun a ha b hb => ?_⟩
  rcases List.mem_cons.1 hb with rfl | hb
  · exact h1 a ha
  · exact p3 a ha b hb
theorem put_perm (l : List TimT) (t : TimT) (i : Nat) : (l.take i ++ t :: l.drop i).Perm (l ++ [t]) := by
  have hs : l.take i ++ l.drop i = l := List.take_append_drop i l
  refine List.perm_middle.trans ?_
  rw [hs]
  exact (List.perm_append_comm (l₁ := l) (l₂ := [t])).symm
theorem kT_KM (w w' : World) (base : Nat) (ok : Nat → Prop) : ∀ (x : TimT) cs, kT.K w x cs → kT.M w' base ok x cs := fun x cs h => by
  obtain rfl := kT_open h
  exact kT_M _ _ _ _
theorem info56' : ∃ i, Try.prog.info? 56 = some i ∧ i.size = 2 := by
  obtain ⟨i0, hi0, hz⟩ := Option.map_eq_some_iff.1 info56
  simp only [Prod.mk.injEq] at hz
  exact ⟨i0, hi0, hz.2.1⟩
theorem cut_drop {w : World} {A : Option Addr} {N c : Nat} {Ls : List TimT} (hC : CT w A N Ls) (hN : N = Ls.length) (hc : N ≤ c) (i : Nat) (hi : i ≤ N) :
    ∃ A2 m2 c2, (∀ W : World, (Instr.slice 37 (.slice A N c) (some (.int .i64 i)) none none).run Try.prog W = .ok (.slice A2 m2 c2) W) ∧ CT w A2 m2 (Ls.drop i) ∧ m2 = (Ls.drop i).length := by
  subst hN
  obtain ⟨i0, hi0, hz⟩ := info56'
  have h := cut_from (P := Try.prog) 37 56 .i64 Try.underlying37 hi0 2 hz A Ls.length c i (by omega) (by omega)
  rw [Int.toNat_natCast] at h
  have h2 := Kd.C_drop hC hi hc
  exact ⟨_, _, _, h, by rw [List.length_drop] at h2; exact h2, by rw [List.length_drop]⟩
theorem cut_take {w : World} {A : Option Addr} {N c : Nat} {Ls : List TimT} (hC : CT w A N Ls) (hN : N = Ls.length) (hc : N ≤ c) (i : Nat) (hi : i ≤ N) :
    (∀ W : World, (Instr.slice 37 (.slice A N c) none (some (.int .i64 i)) none).run Try.prog W = .ok (.slice A i c) W) ∧ CT w A i (Ls.take i) := by
  subst hN
  obtain ⟨i0, hi0, hz⟩ := info56'
  have h := cut_to (P := Try.prog) 37 56 .i64 Try.underlying37 hi0 A Ls.length c i (by omega) (by omega) hc
  rw [Int.toNat_natCast] at h
  have h2 := Kd.C_take hC hi
  rw [List.length_take, Nat.min_eq_left hi] at h2
  exact ⟨h, h2⟩
set_option maxHeartbeats 4000000 in
set_option maxRecDepth 100000 in
theorem ref_Add.all {w : World} {F : Nat → Prop} {r : Nat} {now : Int} {Ls : List TimT} (h : Rst w F r now Ls) (hS : Srt Ls) (hl : Ls.length ≤ 8192) (id at_ : Int) :
    Calls Try.prog 19 #[.pointer (some ⟨r, 0, none⟩), .int .u64 id, .int .u64 at_] w fun e w' => e = .returned (.int .i64 (addE now Ls id at_)) ∧ ∃ F' Ls', Rst w' F' r now Ls' ∧ Ls'.Perm (addL now Ls id at_) ∧ Srt Ls' ∧ (∀ k, F' k → F k ∨ w.heap.size ≤ k) ∧ KeptW F w w' := by
  have H := Aside0.mk h
  have HS := Aside0.mk hS
  have HL := Aside0.mk hl
  have bad : ∀ z, addE now Ls id at_ = z → z ≠ 0 → ∃ F' Ls', Rst w F' r now Ls' ∧ Ls'.Perm (addL now Ls id at_) ∧ Srt Ls' ∧ (∀ k, F' k → F k ∨ w.heap.size ≤ k) ∧ KeptW F w w := fun z hz hne => by
    refine ⟨F, Ls, H.out, ?_, HS.out, fun k hk => .inl hk, KeptW.refl _ _⟩
    unfold addL
    rw [hz, if_neg hne]
  have BAD := Aside0.mk bad
  clear h hS hl bad
  go_enter Try.func19, Try.ntmps19
  go_wp2_with fail
  refine (ref_find.calls H.out id).mono ?_
  rintro e w1 ⟨⟨k, rfl, hk⟩, rfl⟩
  rcases hk with ⟨rfl, hno⟩ | ⟨i, hi, rfl, hid, _⟩
  · obtain ⟨A, c, hb, hC, hc⟩ := H.out.view
    obtain ⟨N, hN⟩ : ∃ N, N = Ls.length := ⟨_, rfl⟩
    rw [← hN] at hb hC hc
    have d0 := (blk_cell hb 0).trans rfl
    have d1 := (blk_cell hb 1).trans rfl
    have hN2 : (N : Int) ≤ 8192 := by have := HL.out; omega
    have HC := Aside0.mk hC
    have HN := Aside0.mk hN
    have HBL := Aside0.mk hb
    have HNO := Aside0.mk hno
    clear hb hC hN hno
    by_cases g1 : at_ ≤ now
    · have b1 : decide (at_ ≤ now) = true := decide_eq_true g1
      have HE : Aside0 (addE now Ls id at_ = 70) := ⟨by unfold addE; rw [HNO.out, if_neg (by decide), if_pos g1]⟩
      clear g1
      go_wp2_with fail
      go_ret
      exact ⟨by rw [HE.out]; rfl, BAD.out 70 HE.out (by decide)⟩
    · have b1 : decide (at_ ≤ now) = false := decide_eq_false g1
      by_cases g2 : 8192 ≤ N
      · have b2 : decide ((N : Int) ≥ 8192) = true := decide_eq_true (by omega)
        have HE : Aside0 (addE now Ls id at_ = 5) := ⟨by unfold addE; rw [HNO.out, if_neg (by decide), if_neg g1, if_pos (by have := HN.out; omega)]⟩
        clear g1 g2
        go_wp2_with fail
        go_ret
        exact ⟨by rw [HE.out]; rfl, BAD.out 5 HE.out (by decide)⟩
      · have b2 : decide ((N : Int) ≥ 8192) = false := decide_eq_false (by omega)
        have HE : Aside0 (addE now Ls id at_ = 0) := ⟨by unfold addE; rw [HNO.out, if_neg (by decide), if_neg g1, if_neg (by have := HN.out; omega)]⟩
        have hN3 : (N : Int) < 8192 := by omega
        have HI0 : Aside0 (RT w1 w1.heap.size (fun _ => True) (.slice none 0 0) (Ls.take 0) ∧ Below w1.heap.size w1 w1 ∧ ∀ t, t ∈ Ls.take 0 → t.1 < id) := ⟨Kd.R_nil _ _ _ _ _, Below.refl _ _, fun t ht => by simp at ht⟩
        have HD0 := Aside0.mk d0
        clear g1 g2 BAD
        go_wp2_with fail
        clear b1 b2 d1 d0
        go_loopw [8, 7] (fun v8 v7 wr => ∃ i : Nat, i ≤ N ∧ v8 = .int .i64 i ∧ Aside0 (RT wr w1.heap.size (fun _ => True) v7 (Ls.take i) ∧ Below w1.heap.size w1 wr ∧ ∀ t, t ∈ Ls.take i → t.1 < id)) (fun v8 _ _ => N - (intOf v8).toNat)
        case atStart => exact ⟨0, Nat.zero_le _, rfl, HI0⟩
        case round =>
          clear HI0
          obtain ⟨i, hi, rfl, HI⟩ := hrel
          have d0 := pw_cell_below HI.out.2.1 HD0.out
          have fin : (i < Ls.length → ¬ (timN Ls i).1 < id) → Aside0 (Srt (Ls.take i ++ (id, at_) :: Ls.drop i)) := fun h => ⟨HS.out.put (by have := HN.out; omega) HI.out.2.2 h HNO.out⟩
          by_cases hlt : i < N
          · obtain ⟨ad, hA, h0, h1⟩ := tim_at (Kd.C_below HC.out HI.out.2.1) i hlt
            subst hA
            obtain ⟨⟨ti, ta⟩, htm⟩ : ∃ t, t = timN Ls i := ⟨_, rfl⟩
            rw [← htm] at h0 h1 fin
            simp only at h0 h1 fin
            have HTM := Aside0.mk htm
            clear htm
            by_cases he : ti < id
            · have b1 : decide (ti < id) = true := decide_eq_true he
              have HLN : Aside0 (((Ls.take i).length + 1) * 16 ≤ 140737488355328) := ⟨by rw [List.length_take]; have := HL.out; omega⟩
              have HT : Aside0 (Ls.take (i + 1) = Ls.take i ++ [(ti, ta)]) := ⟨by rw [take_succ' Ls i (by have := HN.out; omega), ← HTM.out]⟩
              have HID := Aside0.mk he
              clear he fin
              go_wp2_with ((with_reducible refine gate_builtin (b := .append) (xs := #[.tmp 47, .tmp 55]) rfl ?_); at_builtin; refine Kd.R_append kT (w0 := w1) w1.heap.size rfl (.tmp 47) (.tmp 55) 37 56 (.agg #[.int .u64 0, .int .u64 0]) 16 rfl Try.underlying37 info56 rfl (by decide) (by decide) u7 (Ls.take i) (ti, ta) [.int .u64 ti, .int .u64 ta] (fun _ => True) (fun _ => False) rfl rfl (kT_M _ _ _ _) (fun _ h => h.elim) (fun _ _ => trivial) HI.out.1 HI.out.2.1 HI.out.2.1.size HLN.out ?_; intro v5 w5 ho hb hg hat; have HNEW : Aside0 (RT w5 w1.heap.size (fun _ => True) v5 (Ls.take (i + 1)) ∧ Below w1.heap.size w1 w5 ∧ ∀ t, t ∈ Ls.take (i + 1) → t.1 < id) := ⟨by rw [HT.out]; exact ⟨ho, hb, fun t ht => by rcases List.mem_append.1 ht with ht | ht; exact HI.out.2.2 t ht; rw [List.mem_singleton] at ht; rw [ht]; exact HID.out⟩⟩; clear ho hb hg hat)
              clear HI HLN HT
              go_roundw
              case rel => exact ⟨i + 1, by omega, by go_num, HNEW⟩
              case measure => simp [intOf]; omega
            · have b1 : decide (ti < id) = false := decide_eq_false he
              have HP := fin (fun _ => he)
              clear he fin h0 h1
              have h0 : w1.cell? (ad.add (i * 2)) = some (.int .u64 ti) := by
                obtain ⟨ad', hA', q0, _⟩ := tim_at HC.out i hlt
                injection hA' with hA'
                rw [← HTM.out, ← hA'] at q0
                exact q0
              have h0 := pw_cell_below HI.out.2.1 h0
              obtain ⟨A2, m2, c2, hcut, hC2, hm2⟩ := cut_drop HC.out HN.out hc i (by omega)
              have HC2 := Aside0.mk hC2
              have HLN : Aside0 (((Ls.take i).length + 1) * 16 ≤ 140737488355328) := ⟨by rw [List.length_take]; have := HL.out; omega⟩
              have HLM : Aside0 (((Ls.take i ++ [(id, at_)]).length + m2) * 16 ≤ 140737488355328) := ⟨by rw [hm2, List.length_append, List.length_take, List.length_drop, List.length_singleton]; have := HL.out; omega⟩
              clear hC2 hm2
              go_wp2_with (first
                | ((with_reducible refine gate_builtin (b := .append) (xs := #[.tmp 59, .tmp 63]) rfl ?_); at_builtin; refine Kd.R_append kT (w0 := w1) w1.heap.size rfl (.tmp 59) (.tmp 63) 37 56 (.agg #[.int .u64 0, .int .u64 0]) 16 rfl Try.underlying37 info56 rfl (by decide) (by decide) u7 (Ls.take i) (id, at_) [.int .u64 id, .int .u64 at_] (fun _ => True) (fun _ => False) rfl rfl (kT_M _ _ _ _) (fun _ h => h.elim) (fun _ _ => trivial) HI.out.1 HI.out.2.1 HI.out.2.1.size HLN.out ?_; intro v5 w5 ho hb hg hat; have HA5 := Aside0.mk ho; have HB5 := Aside0.mk hb; have d5 := pw_cell_below hb HD0.out; clear ho hb hg hat)
                | ((with_reducible refine gate_builtin (b := .append) (xs := #[.tmp 66, .tmp 72]) rfl ?_); at_builtin; refine Kd.R_append_rows kT (Rr := kT.K w5) (w0 := w1) w1.heap.size rfl (.tmp 66) (.tmp 72) 37 56 (.agg #[.int .u64 0, .int .u64 0]) 16 rfl Try.underlying37 info56 rfl (by decide) (by decide) v5 (Ls.take i ++ [(id, at_)]) (Ls.drop i) A2 m2 c2 (fun _ => True) (fun _ => False) rfl rfl HA5.out (Kd.C_below HC2.out HB5.out) (kT_KM _ _ _ _) (fun _ h => h.elim) (fun _ _ => trivial) HB5.out HB5.out.size HLM.out ?_; intro v6 w6 ho hb hg hat; obtain ⟨A6, c6, hv6⟩ := Kd.R_slice ho; have HA6 := Aside0.mk ho; have HB6 := Aside0.mk hb; have b6 := (hb.block r (blk_lt HBL.out)).trans HBL.out; have d6 := (blk_cell b6 0).trans rfl; have f6 := blk_frozen b6 0; obtain ⟨N6, hN6⟩ : ∃ N6, N6 = (Ls.take i ++ [(id, at_)] ++ Ls.drop i).length := ⟨_, rfl⟩; rw [← hN6] at hv6; subst hv6; clear ho hb hg hat b6 hN6))
              go_ret
              obtain ⟨F', hR', hF', hk'⟩ := H.out.close HB6.out HA6.out
              have el : Ls.take i ++ [(id, at_)] ++ Ls.drop i = Ls.take i ++ (id, at_) :: Ls.drop i := by rw [List.append_assoc, List.singleton_append]
              refine ⟨by rw [HE.out]; rfl, F', _, hR', ?_, by rw [el]; exact HP.out, hF', hk'⟩
              rw [el]
              unfold addL
              rw [HE.out, if_pos rfl]
              exact put_perm Ls (id, at_) i
          · obtain rfl : i = N := by omega
            have HP := fin (fun h => absurd h (by have := HN.out; omega))
            clear fin
            obtain ⟨A2, m2, c2, hcut, hC2, hm2⟩ := cut_drop HC.out HN.out hc i (by omega)
            have HC2 := Aside0.mk hC2
            have HLN : Aside0 (((Ls.take i).length + 1) * 16 ≤ 140737488355328) := ⟨by rw [List.length_take]; have := HL.out; omega⟩
            have HLM : Aside0 (((Ls.take i ++ [(id, at_)]).length + m2) * 16 ≤ 140737488355328) := ⟨by rw [hm2, List.length_append, List.length_take, List.length_drop, List.length_singleton]; have := HL.out; omega⟩
            clear hC2 hm2
            go_wp2_with (first
              | ((with_reducible refine gate_builtin (b := .append) (xs := #[.tmp 59, .tmp 63]) rfl ?_); at_builtin; refine Kd.R_append kT (w0 := w1) w1.heap.size rfl (.tmp 59) (.tmp 63) 37 56 (.agg #[.int .u64 0, .int .u64 0]) 16 rfl Try.underlying37 info56 rfl (by decide) (by decide) u7 (Ls.take i) (id, at_) [.int .u64 id, .int .u64 at_] (fun _ => True) (fun _ => False) rfl rfl (kT_M _ _ _ _) (fun _ h => h.elim) (fun _ _ => trivial) HI.out.1 HI.out.2.1 HI.out.2.1.size HLN.out ?_; intro v5 w5 ho hb hg hat; have HA5 := Aside0.mk ho; have HB5 := Aside0.mk hb; have d5 := pw_cell_below hb HD0.out; clear ho hb hg hat)
              | ((with_reducible refine gate_builtin (b := .append) (xs := #[.tmp 66, .tmp 72]) rfl ?_); at_builtin; refine Kd.R_append_rows kT (Rr := kT.K w5) (w0 := w1) w1.heap.size rfl (.tmp 66) (.tmp 72) 37 56 (.agg #[.int .u64 0, .int .u64 0]) 16 rfl Try.underlying37 info56 rfl (by decide) (by decide) v5 (Ls.take i ++ [(id, at_)]) (Ls.drop i) A2 m2 c2 (fun _ => True) (fun _ => False) rfl rfl HA5.out (Kd.C_below HC2.out HB5.out) (kT_KM _ _ _ _) (fun _ h => h.elim) (fun _ _ => trivial) HB5.out HB5.out.size HLM.out ?_; intro v6 w6 ho hb hg hat; obtain ⟨A6, c6, hv6⟩ := Kd.R_slice ho; have HA6 := Aside0.mk ho; have HB6 := Aside0.mk hb; have b6 := (hb.block r (blk_lt HBL.out)).trans HBL.out; have d6 := (blk_cell b6 0).trans rfl; have f6 := blk_frozen b6 0; obtain ⟨N6, hN6⟩ : ∃ N6, N6 = (Ls.take i ++ [(id, at_)] ++ Ls.drop i).length := ⟨_, rfl⟩; rw [← hN6] at hv6; subst hv6; clear ho hb hg hat b6 hN6))
            go_ret
            obtain ⟨F', hR', hF', hk'⟩ := H.out.close HB6.out HA6.out
            have el : Ls.take i ++ [(id, at_)] ++ Ls.drop i = Ls.take i ++ (id, at_) :: Ls.drop i := by rw [List.append_assoc, List.singleton_append]
            refine ⟨by rw [HE.out]; rfl, F', _, hR', ?_, by rw [el]; exact HP.out, hF', hk'⟩
            rw [el]
            unfold addL
            rw [HE.out, if_pos rfl]
            exact put_perm Ls (id, at_) i
  · have hi2 : (i : Int) ≤ 8192 := by have := HL.out; omega
    have HE : Aside0 (addE now Ls id at_ = 8) := ⟨by unfold addE; rw [if_pos (hasId_at hi hid)]⟩
    clear hi hid
    go_wp2_with fail
    go_ret
    exact ⟨by rw [HE.out]; rfl, BAD.out 8 HE.out (by decide)⟩
end Go.Proofs.Ytkgdlmgodpgcoaa.Hand
