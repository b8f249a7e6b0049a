/- Wheel: the law's own lists: out, due; what a row is to others. -/
import Derived.Test.YtkgdlmgodpgcoaaWhlO
namespace Go.Proofs.Ytkgdlmgodpgcoaa.Hand
open Go.RowKit Go.Maps Go.Proofs.YtkgdlmgodpgcoaaW.PrintWords Go.Proofs.YtkgdlmgodpgcoaaW.PrintLast Go.Proofs.YtkgdlmgodpgcoaaW.PrintMore
set_option linter.unusedVariables false
set_option linter.unusedSimpArgs false

theorem KR.kept {α : Type} {d : Kd α} {e base : Nat} {F F' : Nat → Prop} {w w' : World} {v : Value} {l : List α} (h : d.R e w base (fun k => ¬ F k) v l) (hk : KeptW F w w') (hF : ∀ k, F' k → F k ∨ w.heap.size ≤ k) : d.R e w' base (fun k => ¬ F' k) v l :=
  Kd.R_mono (Kd.R_step (Kd.R_bound h) (fun k ho hl => hk.same k hl ho.1)) (fun k hk2 h2 => by rcases hF k h2 with h3 | h3; exact hk2.1 h3; have := hk2.2.2.1; omega)
theorem KeptW.of_grown {w w' : World} {row : Option Nat} (hg : w.grownBy w' row) : KeptW (fun k => row = some k) w w' :=
  ⟨⟨hg.os, hg.tape, hg.output, hg.size, fun k hk => absurd hk (Nat.not_lt_zero k)⟩, fun k hk hn => hg.block k hk (fun e => hn e.symm)⟩
theorem KeptW.belowN {F : Nat → Prop} {N : Nat} {w1 w w' : World} (hb : Below N w1 w) (hN : N ≤ w.heap.size) (h : KeptW F w w') (hF : ∀ k, F k → N ≤ k) : Below N w1 w' := KeptW.below hb hN h hF
theorem info56 : (Try.prog.info? 56).map (fun i => (i.zero, i.size, i.bytes)) = some (some (.agg #[.int .u64 0, .int .u64 0]), 2, 16) := by kernel_rfl
abbrev RT (w : World) (base : Nat) (ok : Nat → Prop) (v : Value) (l : List TimT) : Prop := Kd.R kT 56 w base ok v l
abbrev CT (w : World) (A : Option Addr) (n : Nat) (l : List TimT) : Prop := kT.C w A n l
set_option maxHeartbeats 2000000 in
set_option maxRecDepth 100000 in
theorem law_due.calls (A : Option Addr) (N c : Nat) (id : Int) (l : List TimT) (w : World) (hC : CT w A N l) : Calls Try.prog 29 #[.slice A N c, .int .u64 id] w fun e w' => e = .returned (.tuple #[.int .u64 (atOf l id), .bool (hasId l id)]) ∧ w' = w := by
  have hN := hC.1
  have hn2 : (N : Int) ≤ 9223372036854775807 := by have := hC.2.1; omega
  have HC := Aside0.mk hC
  have HN := Aside0.mk hN
  clear hC hN
  go_enter Try.func29, Try.ntmps29
  go_wp2_with fail
  have HI0 : Aside0 (∀ t, t ∈ l.take 0 → t.1 ≠ id) := ⟨fun t ht => by simp at ht⟩
  go_loopw [6] (fun v6 wr => ∃ i : Nat, i ≤ N ∧ v6 = .int .i64 i ∧ wr = w ∧ Aside0 (∀ t, t ∈ l.take i → t.1 ≠ id)) (fun v6 _ => N - (intOf v6).toNat)
  case atStart => exact ⟨0, Nat.zero_le _, rfl, rfl, HI0⟩
  case round =>
    clear HI0
    obtain ⟨i, hi, rfl, rfl, HI⟩ := hrel
    by_cases hlt : i < N
    · obtain ⟨ad, hA, h0, h1⟩ := tim_at HC.out i hlt
      subst hA
      obtain ⟨⟨ti, ta⟩, htm⟩ : ∃ t, t = timN l i := ⟨_, rfl⟩
      rw [← htm] at h0 h1
      simp only at h0 h1
      have HTM := Aside0.mk htm
      clear htm
      by_cases he : ti = id
      · have b1 : (ti == id) = true := beq_iff_eq.mpr he
        have HR : Aside0 (atOf l id = ta ∧ hasId l id = true) := ⟨by
          have hm : timN l i ∈ l := timN_mem (by have := HN.out; omega)
          have hf : l.find? (fun t => decide (t.1 = id)) = some (timN l i) := by
            have hs : l = l.take i ++ timN l i :: l.drop (i + 1) := by
              have h2 := take_succ' l i (by have := HN.out; omega)
              have h3 := List.take_append_drop (i + 1) l
              rw [h2, List.append_assoc] at h3
              exact h3.symm
            refine (congrArg (List.find? _) hs).trans ?_
            rw [List.find?_append, show (l.take i).find? (fun t => decide (t.1 = id)) = none from List.find?_eq_none.2 (fun t ht => by simpa using HI.out t ht), ← HTM.out, List.find?_cons_of_pos (by simpa using he)]
            rfl
          refine ⟨?_, ?_⟩
          · unfold atOf
            rw [hf, ← HTM.out]
            rfl
          · unfold hasId
            rw [List.any_eq_true]
            exact ⟨_, hm, by rw [← HTM.out]; simpa using he⟩⟩
        clear he HI
        go_wp2_with fail
        go_ret2
        exact ⟨by rw [HR.out.1, HR.out.2]; rfl, rfl⟩
      · have b1 : (ti == id) = false := beq_eq_false_iff_ne.mpr he
        have HI2 : Aside0 (∀ t, t ∈ l.take (i + 1) → t.1 ≠ id) := ⟨fun t ht => by
          rw [take_succ' l i (by have := HN.out; omega), List.mem_append, List.mem_singleton] at ht
          rcases ht with ht | rfl
          · exact HI.out t ht
          · rw [← HTM.out]; exact he⟩
        clear he HI
        go_wp2_with fail
        go_roundw
        case rel => exact ⟨i + 1, by omega, by go_num, trivial, HI2⟩
        case measure => simp [intOf]; omega
    · obtain rfl : i = N := by omega
      have HR : Aside0 (atOf l id = 0 ∧ hasId l id = false) := ⟨by
        have hf : l.take i = l := by rw [← HN.out, List.take_length]
        have hall := HI.out
        rw [hf] at hall
        refine ⟨?_, hasId_false.2 hall⟩
        unfold atOf
        rw [List.find?_eq_none.2 (fun t ht => by simpa using hall t ht)]
        rfl⟩
      clear HI
      go_wp2_with fail
      go_ret2
      exact ⟨by rw [HR.out.1, HR.out.2]; rfl, rfl⟩
set_option maxHeartbeats 2000000 in
set_option maxRecDepth 100000 in
theorem law_out.calls (A : Option Addr) (N c : Nat) (id : Int) (l : List TimT) (w : World) (hC : CT w A N l) (hl : l.length ≤ 1000000) : Calls Try.prog 28 #[.slice A N c, .int .u64 id] w fun e w' => ∃ v, e = .returned v ∧ RT w' w.heap.size (fun _ => True) v (without l id) ∧ Below w.heap.size w w' := by
  have hN := hC.1
  have hn2 : (N : Int) ≤ 1000000 := by omega
  have HC := Aside0.mk hC
  have HN := Aside0.mk hN
  clear hC hN hl
  go_enter Try.func28, Try.ntmps28
  go_wp2_with fail
  have HI0 : Aside0 (RT w w.heap.size (fun _ => True) (.slice none 0 0) (without (l.take 0) id) ∧ Below w.heap.size w w) := ⟨Kd.R_nil _ _ _ _ _, Below.refl _ _⟩
  go_loopw [6, 5] (fun v6 v5 wr => ∃ i : Nat, i ≤ N ∧ v6 = .int .i64 i ∧ Aside0 (RT wr w.heap.size (fun _ => True) v5 (without (l.take i) id) ∧ Below w.heap.size w wr)) (fun v6 _ _ => N - (intOf v6).toNat)
  case atStart => exact ⟨0, Nat.zero_le _, rfl, HI0⟩
  case round =>
    clear HI0
    obtain ⟨i, hi, rfl, HI⟩ := hrel
    by_cases hlt : i < N
    · obtain ⟨ad, hA, h0, h1⟩ := tim_at (Kd.C_below HC.out HI.out.2) i hlt
      subst hA
      obtain ⟨⟨ti, ta⟩, htm⟩ : ∃ t, t = timN l i := ⟨_, rfl⟩
      rw [← htm] at h0 h1
      simp only at h0 h1
      have HTM := Aside0.mk htm
      clear htm
      by_cases he : ti = id
      · have b1 : (ti == id) = true := beq_iff_eq.mpr he
        have HI2 : Aside0 (RT wr w.heap.size (fun _ => True) u5 (without (l.take (i + 1)) id) ∧ Below w.heap.size w wr) := ⟨by
          rw [without_take (by have := HN.out; omega), ← HTM.out, if_pos he, List.append_nil]
          exact HI.out⟩
        clear he HI
        go_wp2_with fail
        go_roundw
        case rel => exact ⟨i + 1, by omega, by go_num, HI2⟩
        case measure => simp [intOf]; omega
      · have b1 : (ti == id) = false := beq_eq_false_iff_ne.mpr he
        have HL : Aside0 (((without (l.take i) id).length + 1) * 16 ≤ 140737488355328) := ⟨by
          have h2 : (without (l.take i) id).length ≤ (l.take i).length := List.length_filter_le _ _
          rw [List.length_take] at h2
          omega⟩
        have e1 : without (l.take (i + 1)) id = without (l.take i) id ++ [(ti, ta)] := by rw [without_take (by have := HN.out; omega), ← HTM.out, if_neg he]
        have HE := Aside0.mk e1
        clear he e1
        go_wp2_with ((with_reducible refine gate_builtin (b := .append) (xs := #[.tmp 20, .tmp 25]) rfl ?_); at_builtin; refine Kd.R_append kT (w0 := w) w.heap.size rfl (.tmp 20) (.tmp 25) 37 56 (.agg #[.int .u64 0, .int .u64 0]) 16 rfl Try.underlying37 info56 rfl (by decide) (by decide) u5 (without (l.take i) id) (ti, ta) [.int .u64 ti, .int .u64 ta] (fun _ => True) (fun _ => False) rfl rfl (kT_M _ _ _ _) (fun _ h => h.elim) (fun _ _ => trivial) HI.out.1 HI.out.2 HI.out.2.size HL.out ?_; intro v5 w5 ho hb hg hat; have HNEW : Aside0 (RT w5 w.heap.size (fun _ => True) v5 (without (l.take (i + 1)) id) ∧ Below w.heap.size w w5) := ⟨by rw [HE.out]; exact ⟨ho, hb⟩⟩; clear ho hb hg hat)
        clear HI
        go_roundw
        case rel => exact ⟨i + 1, by omega, by go_num, HNEW⟩
        case measure => simp [intOf]; omega
    · obtain rfl : i = N := by omega
      have hf : l.take i = l := by rw [← HN.out, List.take_length]
      rw [hf] at HI
      clear hf
      go_wp2_with fail
      go_ret
      exact ⟨_, rfl, HI.out.1, HI.out.2⟩
end Go.Proofs.Ytkgdlmgodpgcoaa.Hand
