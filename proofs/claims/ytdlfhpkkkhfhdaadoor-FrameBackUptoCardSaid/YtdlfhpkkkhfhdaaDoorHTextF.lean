/- Texts: what the program lays and reads (the door's seat): read and written again. -/
import Derived.Test.YtdlfhpkkkhfhdaaDoorHFormsP
namespace Go.Proofs.YtdlfhpkkkhfhdaaDoor.Hand
set_option linter.unusedVariables false
set_option linter.unusedSimpArgs false
open Go.RowKit Go.Proofs.YtdlfhpkkkhfhdaaDoorW.PrintWords Go.Proofs.YtdlfhpkkkhfhdaaDoorW.PrintLast Go.Proofs.YtdlfhpkkkhfhdaaDoorW.PrintMore Go.Proofs.YtdlfhpkkkhfhdaaDoor.Q

/-- What was read is where it may be. -/
theorem uintP_range (l : List Int) : ∀ (i : Nat) (n : Int), (∀ x ∈ l, 0 ≤ x ∧ x ≤ 255) → i ≤ 9 → 0 ≤ n → n < 128 ^ i → (uintP l i n).2.2 = 0 → 0 ≤ (uintP l i n).1 ∧ (uintP l i n).1 < 18446744073709551616 ∧ (i : Int) + 1 ≤ (uintP l i n).2.1 ∧ (uintP l i n).2.1 ≤ i + l.length := by
  induction l with
  | nil => intro i n _ _ _ _ h; simp [uintP] at h
  | cons x r ih =>
    intro i n hw hi h0 h1 h
    have hx := hw x (by simp)
    rw [uintP_cons] at h ⊢
    by_cases h9 : i = 9 ∧ x > 1
    · rw [if_pos h9] at h; simp at h
    · rw [if_neg h9] at h ⊢
      by_cases hz : i > 0 ∧ x = 0
      · rw [if_pos hz] at h; simp at h
      · rw [if_neg hz] at h ⊢
        have e := seven_or x i n hi hx.1 hx.2 h9 h0 h1
        have hb := next_lt x i n h0 h1
        by_cases h8 : x < 128
        · rw [if_pos h8] at h ⊢
          refine ⟨hb.1, e.2, ?_, ?_⟩
          · show (i : Int) + 1 ≤ (i : Int) + 1
            exact Int.le_refl _
          · show (i : Int) + 1 ≤ (i : Int) + ((r.length + 1 : Nat) : Int)
            omega
        · rw [if_neg h8] at h ⊢
          have := ih (i + 1) _ (fun y hy => hw y (by simp [hy])) (not_nine x i hi h9 h8) hb.1 hb.2 h
          refine ⟨this.1, this.2.1, ?_, ?_⟩
          · have := this.2.2.1; push_cast at this; omega
          · have := this.2.2.2
            rw [List.length_cons]
            push_cast at this ⊢
            omega

/-- The reading of a text, by definition. -/
def textP (l : List Int) (most : Int) : ByteArray × Int × Int :=
  if most < 0 then (⟨#[]⟩, 0, 2) else if (uintP l 0 0).2.2 = 0 then (if (uintP l 0 0).1 > most then (⟨#[]⟩, 0, 1) else if (uintP l 0 0).1 > (l.length : Int) - (uintP l 0 0).2.1 then (⟨#[]⟩, 0, 3)
    else (strOfNums ((l.take ((uintP l 0 0).2.1 + (uintP l 0 0).1).toNat).drop (uintP l 0 0).2.1.toNat), (uintP l 0 0).2.1 + (uintP l 0 0).1, 0)) else (⟨#[]⟩, 0, (uintP l 0 0).2.2)
theorem text_tail (l : List Int) (most : Int) (hl : l.length ≤ 100000000) (hw : ∀ x ∈ l, 0 ≤ x ∧ x ≤ 255) (hm : most ≤ 9223372036854775807) (h0 : ¬ most < 0) :
    (if (uintP l 0 0).2.2 = 0 then (if (uintP l 0 0).1 > (IntKind.u64.wrap most) then (some ((⟨#[]⟩ : ByteArray), (0 : Int), (1 : Int))) else (if (uintP l 0 0).1 > (IntKind.u64.wrap (wrap64 ((l.length : Int) - (uintP l 0 0).2.1))) then (some ((⟨#[]⟩ : ByteArray), 0, 3)) else (if 0 ≤ (uintP l 0 0).2.1 then (if (uintP l 0 0).2.1 ≤ (wrap64 ((uintP l 0 0).2.1 + (wrap64 ((uintP l 0 0).1)))) then (if (wrap64 ((uintP l 0 0).2.1 + (wrap64 ((uintP l 0 0).1)))) ≤ (l.length : Int) then (some (strOfNums ((l.take ((wrap64 ((uintP l 0 0).2.1 + (wrap64 ((uintP l 0 0).1)))) : Int).toNat).drop ((uintP l 0 0).2.1 : Int).toNat), wrap64 ((uintP l 0 0).2.1 + (wrap64 ((uintP l 0 0).1))), 0)) else (none)) else (none)) else (none)))) else (some ((⟨#[]⟩ : ByteArray), 0, (uintP l 0 0).2.2))) = some (textP l most) := by
  unfold textP
  rw [if_neg h0]
  by_cases hz : (uintP l 0 0).2.2 = 0
  · rw [if_pos hz, if_pos hz]
    have hr := uintP_range l 0 0 hw (by decide) (by decide) (by decide) hz
    generalize uintP l 0 0 = u at hr hz
    obtain ⟨n, k, e⟩ := u
    simp only at hr hz ⊢
    have e1 : IntKind.u64.wrap most = most := by rw [IntKind.wrap_u64]; omega
    have e2 : wrap64 ((l.length : Int) - k) = (l.length : Int) - k := w64 (by omega) (by omega)
    have e3 : IntKind.u64.wrap ((l.length : Int) - k) = (l.length : Int) - k := by rw [IntKind.wrap_u64]; omega
    rw [e1, e2, e3]
    by_cases h1 : n > most
    · rw [if_pos h1, if_pos h1]
    · rw [if_neg h1, if_neg h1]
      by_cases h2 : n > (l.length : Int) - k
      · rw [if_pos h2, if_pos h2]
      · rw [if_neg h2, if_neg h2]
        have e4 : wrap64 n = n := w64 (by omega) (by omega)
        have e5 : wrap64 (k + n) = k + n := w64 (by omega) (by omega)
        rw [e4, e5, if_pos (by omega), if_pos (by omega), if_pos (by omega)]
  · rw [if_neg hz, if_neg hz]
theorem frameText_ev (l : List Int) (most : Int) (hl : l.length ≤ 100000000) (hw : ∀ x ∈ l, 0 ≤ x ∧ x ≤ 255) (hm : most ≤ 9223372036854775807) : Ev (fun k => frame_Text.f k l most) (textP l most) := by
  unfold frame_Text.f
  by_cases h0 : most < 0
  · simp only [h0, ↓reduceIte]
    have e : textP l most = (⟨#[]⟩, 0, 2) := by unfold textP; rw [if_pos h0]
    rw [e]
    exact Ev.now _
  · simp only [h0, ↓reduceIte]
    refine (frameUint_ev l (by omega) hw).bind ?_
    have h := text_tail l most hl hw hm h0
    exact ⟨0, fun _ _ => h⟩
theorem framePutText_f (l : List Int) (s : ByteArray) (hl : l.length ≤ 100000000) (hs : s.size ≤ 100000000) : frame_PutText.f l s = some (l ++ uvI s.size ++ bytesOf s) := by
  have e : IntKind.u64.wrap (s.size : Int) = s.size := by rw [IntKind.wrap_u64]; omega
  have hu := uvI_len 9 (s.size : Int) (by omega)
  unfold frame_PutText.f
  rw [e, framePutUint_f l _ hl (by omega)]
  simp only [Option.bind_some]
  rw [if_pos (by rw [List.length_append]; omega)]

theorem uintP_err (l : List Int) : ∀ (i : Nat) (n : Int), (uintP l i n).2.2 ≠ 0 → (uintP l i n).2.2 = 3 ∨ (uintP l i n).2.2 = 10 ∨ (uintP l i n).2.2 = 11 := by
  induction l with
  | nil => intro i n _; exact .inl rfl
  | cons x r ih =>
    intro i n h
    rw [uintP_cons] at h ⊢
    by_cases h9 : i = 9 ∧ x > 1
    · rw [if_pos h9]; exact .inr (.inr rfl)
    · rw [if_neg h9] at h ⊢
      by_cases hz : i > 0 ∧ x = 0
      · rw [if_pos hz]; exact .inr (.inl rfl)
      · rw [if_neg hz] at h ⊢
        by_cases h8 : x < 128
        · rw [if_pos h8] at h; exact absurd rfl h
        · rw [if_neg h8] at h ⊢
          exact ih _ _ h
theorem textP_err (l : List Int) (most : Int) (h : (textP l most).2.2 ≠ 0) : (textP l most).2.2 = 1 ∨ (textP l most).2.2 = 2 ∨ (textP l most).2.2 = 3 ∨ (textP l most).2.2 = 10 ∨ (textP l most).2.2 = 11 := by
  unfold textP at h ⊢
  by_cases h0 : most < 0
  · rw [if_pos h0]; exact .inr (.inl rfl)
  · rw [if_neg h0] at h ⊢
    by_cases hz : (uintP l 0 0).2.2 = 0
    · rw [if_pos hz] at h ⊢
      by_cases h1 : (uintP l 0 0).1 > most
      · rw [if_pos h1]; exact .inl rfl
      · rw [if_neg h1] at h ⊢
        by_cases h2 : (uintP l 0 0).1 > (l.length : Int) - (uintP l 0 0).2.1
        · rw [if_pos h2]; exact .inr (.inr (.inl rfl))
        · rw [if_neg h2] at h; exact absurd rfl h
    · rw [if_neg hz] at h ⊢
      rcases uintP_err l 0 0 h with h3 | h3 | h3
      · exact .inr (.inr (.inl h3))
      · exact .inr (.inr (.inr (.inl h3)))
      · exact .inr (.inr (.inr (.inr h3)))
theorem uint_back (l : List Int) (n k : Int) (hl : l.length ≤ 100000000) (hw : Bytes l) (h : uintP l 0 0 = (n, k, 0)) : ∃ X : List Int, k = (X.length : Int) ∧ X.length ≤ l.length ∧ l.take X.length = X ∧ 1 ≤ X.length ∧ uvI n = X := by
  obtain ⟨m, j, h1, h2, h3, h4, h5, h6, _⟩ := uintP_back l 0 0 n k hw h
  have e : n = m := by rw [h2]; simp
  have e2 : (l.take j).length = j := by rw [List.length_take]; omega
  refine ⟨l.take j, by rw [e2, h3]; simp, by rw [e2]; exact h5, by rw [e2], by rw [e2]; exact h4, by rw [e]; exact h6⟩
theorem text_back (l : List Int) (most : Int) (sv : ByteArray) (m : Int) (hl : l.length ≤ 100000000) (hw : Bytes l) (h : textP l most = (sv, m, 0)) : ∃ X : List Int, m = (X.length : Int) ∧ X.length ≤ l.length ∧ l.take X.length = X ∧ 1 ≤ X.length ∧ (sv.size : Int) ≤ most ∧ frame_PutText.f [] sv = some X := by
  unfold textP at h
  by_cases h0 : most < 0
  · rw [if_pos h0] at h; simp at h
  · rw [if_neg h0] at h
    by_cases hz : (uintP l 0 0).2.2 = 0
    · rw [if_pos hz] at h
      obtain ⟨n, k, e⟩ : ∃ n k, uintP l 0 0 = (n, k, 0) := ⟨(uintP l 0 0).1, (uintP l 0 0).2.1, Prod.ext rfl (Prod.ext rfl hz)⟩
      have hr := uintP_range l 0 0 hw (by decide) (by decide) (by decide) hz
      rw [e] at h hr
      simp only at h hr
      by_cases h1 : n > most
      · rw [if_pos h1] at h; simp at h
      · rw [if_neg h1] at h
        by_cases h2 : n > (l.length : Int) - k
        · rw [if_pos h2] at h; simp at h
        · rw [if_neg h2] at h
          obtain ⟨Y, hk, hY1, hY2, hY3, hY4⟩ := uint_back l n k hl hw e
          obtain ⟨N, hN⟩ := Int.eq_ofNat_of_zero_le hr.1
          simp only [Prod.mk.injEq, and_true] at h
          obtain ⟨hs, hm⟩ := h
          have e1 : (k + n).toNat = Y.length + N := by omega
          have e2 : k.toNat = Y.length := by omega
          rw [e1, e2] at hs
          have hlen : (l.take (Y.length + N)).length = Y.length + N := by rw [List.length_take]; omega
          have hd : ((l.take (Y.length + N)).drop Y.length).length = N := by rw [List.length_drop, hlen]; omega
          have hb : bytesOf sv = (l.take (Y.length + N)).drop Y.length := by
            rw [← hs]
            exact bytesOf_strOfNums _ (fun x hx => hw x (List.mem_of_mem_take (List.mem_of_mem_drop hx)))
          have hsz : sv.size = N := by rw [← hs, strOfNums_size, hd]
          have hX : Y ++ bytesOf sv = l.take (Y.length + N) := by
            rw [hb]
            have h3 : (l.take (Y.length + N)).take Y.length = Y := by rw [List.take_take, Nat.min_eq_left (by omega)]; exact hY2
            conv => lhs; lhs; rw [← h3]
            exact List.take_append_drop _ _
          have hXl : (Y ++ bytesOf sv).length = Y.length + N := by rw [hX, hlen]
          refine ⟨Y ++ bytesOf sv, by rw [hXl]; omega, by rw [hXl]; omega, by rw [hXl, hX], by rw [hXl]; omega, by rw [hsz]; omega, ?_⟩
          rw [framePutText_f [] sv (by simp) (by rw [hsz]; omega), hsz, List.nil_append, ← hN, hY4]
    · rw [if_neg hz] at h
      simp only [Prod.mk.injEq] at h
      exact absurd h.2.2 hz
end Go.Proofs.YtdlfhpkkkhfhdaaDoor.Hand
