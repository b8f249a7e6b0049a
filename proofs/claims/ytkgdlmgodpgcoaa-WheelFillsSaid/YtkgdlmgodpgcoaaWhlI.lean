/- Wheel: rings, slots and what Advance gathers, as laws of plain lists. -/
import Derived.Test.YtkgdlmgodpgcoaaWhlH
namespace Go.Proofs.Ytkgdlmgodpgcoaa.Hand
open Go.RowKit Go.Maps Go.Proofs.YtkgdlmgodpgcoaaW.PrintWords Go.Proofs.YtkgdlmgodpgcoaaW.PrintLast Go.Proofs.YtkgdlmgodpgcoaaW.PrintMore
set_option linter.unusedVariables false
set_option linter.unusedSimpArgs false

abbrev U (a : Int) : Prop := 0 ≤ a ∧ a ≤ 18446744073709551615
def ringD (a b : Int) : Nat := if a / 64 = b / 64 then 0 else if a / 4096 = b / 4096 then 1 else if a / 262144 = b / 262144 then 2 else if a / 16777216 = b / 16777216 then 3 else 4
theorem xor_div (x y k : Nat) : (x ^^^ y) / 2 ^ k = 0 ↔ x / 2 ^ k = y / 2 ^ k := by
  rw [← Nat.shiftRight_eq_div_pow, ← Nat.shiftRight_eq_div_pow, ← Nat.shiftRight_eq_div_pow, Nat.shiftRight_xor_distrib]
  constructor
  · intro h
    have h2 : (x >>> k ^^^ y >>> k) ^^^ y >>> k = 0 ^^^ y >>> k := by rw [h]
    rwa [Nat.xor_assoc, Nat.xor_self, Nat.xor_zero, Nat.zero_xor] at h2
  · intro h
    rw [h, Nat.xor_self]
theorem xr_div {a b : Int} (ha : U a) (hb : U b) (k : Nat) (c : Int) (hc : c = ((2 ^ k : Nat) : Int)) : xr a b / c = 0 ↔ a / c = b / c := by
  obtain ⟨x, rfl⟩ : ∃ x : Nat, a = x := ⟨a.toNat, by omega⟩
  obtain ⟨y, rfl⟩ : ∃ y : Nat, b = y := ⟨b.toNat, by omega⟩
  unfold xr
  rw [u64_xor _ _ ha.1 (by omega) hb.1 (by omega), hc, Int.toNat_natCast, Int.toNat_natCast]
  have h := xor_div x y k
  constructor
  · intro h2
    have h3 := h.1 (by exact_mod_cast h2)
    exact_mod_cast h3
  · intro h2
    have h3 := h.2 (by exact_mod_cast h2)
    exact_mod_cast h3
theorem ring_xr {a b : Int} (ha : U a) (hb : U b) : ringOf (xr a b) = ringD a b := by
  unfold ringOf ringD
  simp only [xr_div ha hb 6 64 (by decide), xr_div ha hb 12 4096 (by decide), xr_div ha hb 18 262144 (by decide), xr_div ha hb 24 16777216 (by decide)]
def slotD (a b : Int) : Nat := if ringD a b = 0 then (a % 64).toNat else if ringD a b = 1 then 64 + (a / 64 % 64).toNat else if ringD a b = 2 then 128 + (a / 4096 % 64).toNat else if ringD a b = 3 then 192 + (a / 262144 % 64).toNat else 256
theorem slot_xr {a b : Int} (ha : U a) (hb : U b) : slotOf a (xr a b) = slotD a b := by
  unfold slotOf slotD
  rw [ring_xr ha hb]
def endD (a b : Int) : Nat := if ringD a b = 4 then 257 else (ringD a b + 1) * 64
theorem end_xr {a b : Int} (ha : U a) (hb : U b) : endOf (xr a b) = endD a b := by
  unfold endOf endD
  rw [ring_xr ha hb]
theorem slotD_lt (a b : Int) : slotD a b < 257 := by
  unfold slotD
  repeat' split
  all_goals omega
theorem ringD_cases (a b : Int) : (ringD a b = 0 ∧ a / 64 = b / 64) ∨ (ringD a b = 1 ∧ a / 64 ≠ b / 64 ∧ a / 4096 = b / 4096) ∨ (ringD a b = 2 ∧ a / 4096 ≠ b / 4096 ∧ a / 262144 = b / 262144) ∨ (ringD a b = 3 ∧ a / 262144 ≠ b / 262144 ∧ a / 16777216 = b / 16777216) ∨ (ringD a b = 4 ∧ a / 16777216 ≠ b / 16777216) := by
  unfold ringD
  by_cases h1 : a / 64 = b / 64
  · simp [h1]
  · by_cases h2 : a / 4096 = b / 4096
    · simp [h1, h2]
    · by_cases h3 : a / 262144 = b / 262144
      · simp [h1, h2, h3]
      · by_cases h4 : a / 16777216 = b / 16777216
        · simp [h1, h2, h3, h4]
        · simp [h1, h2, h3, h4]
theorem slot_over {a n z : Int} (hn : 0 ≤ n) (h1 : n < a) (h2 : a ≤ z) : slotD a n < endD z n := by
  unfold slotD endD
  rcases ringD_cases a n with ⟨e, h⟩ | ⟨e, h, h'⟩ | ⟨e, h, h'⟩ | ⟨e, h, h'⟩ | ⟨e, h⟩ <;> rcases ringD_cases z n with ⟨e2, k⟩ | ⟨e2, k, k'⟩ | ⟨e2, k, k'⟩ | ⟨e2, k, k'⟩ | ⟨e2, k⟩ <;> rw [e, e2] <;> simp <;> omega
theorem slot_stays {a n z : Int} (hn : 0 ≤ n) (h1 : n < a) (h2 : n ≤ z) (h : endD z n ≤ slotD a n) : slotD a z = slotD a n := by
  revert h
  unfold slotD endD
  rcases ringD_cases a n with ⟨e, h⟩ | ⟨e, h, h'⟩ | ⟨e, h, h'⟩ | ⟨e, h, h'⟩ | ⟨e, h⟩ <;> rcases ringD_cases z n with ⟨e2, k⟩ | ⟨e2, k, k'⟩ | ⟨e2, k, k'⟩ | ⟨e2, k, k'⟩ | ⟨e2, k⟩ <;> rcases ringD_cases a z with ⟨e3, j⟩ | ⟨e3, j, j'⟩ | ⟨e3, j, j'⟩ | ⟨e3, j, j'⟩ | ⟨e3, j⟩ <;> rw [e, e2, e3] <;> simp <;> omega
theorem filter_or {α : Type} (A B : α → Bool) : ∀ l : List α, (∀ t ∈ l, ¬ (A t = true ∧ B t = true)) → (l.filter A ++ l.filter B).Perm (l.filter fun t => A t || B t)
  | [], _ => List.Perm.refl _
  | t :: l, h => by
    have ih := filter_or A B l (fun x hx => h x (List.mem_cons_of_mem _ hx))
    have h0 := h t List.mem_cons_self
    rw [List.filter_cons, List.filter_cons, List.filter_cons]
    cases ha : A t <;> cases hb : B t
    · simpa using ih
    · simp only [Bool.false_or, if_true, Bool.false_eq_true, if_false]
      exact List.perm_middle.trans (List.Perm.cons _ ih)
    · simp only [Bool.true_or, if_true, Bool.false_eq_true, if_false, List.cons_append]
      exact List.Perm.cons _ ih
    · exact absurd ⟨ha, hb⟩ h0
def Slots (L : Nat → List TimT) (Ls : List TimT) (now : Int) : Prop := ∀ k, k < 257 → (L k).Perm (Ls.filter fun t => decide (slotD t.2 now = k))
theorem allT_slots {L : Nat → List TimT} {Ls : List TimT} {now : Int} (h : Slots L Ls now) (p : TimT → Bool) : ∀ E, E ≤ 257 → (allT p L E).Perm (Ls.filter fun t => decide (slotD t.2 now < E) && p t)
  | 0, _ => by
    rw [allT, List.filter_eq_nil_iff.2 (fun t _ => by simp)]
  | E + 1, hE => by
    rw [allT]
    refine ((allT_slots h p E (by omega)).append ((h E (by omega)).filter p)).trans ?_
    rw [List.filter_filter]
    refine (filter_or _ _ Ls (fun t _ => ?_)).trans ?_
    · simp
      intro h1 _ _
      omega
    · rw [List.filter_congr (fun t _ => ?_)]
      rw [Bool.eq_iff_iff]
      simp
      constructor
      · rintro (⟨h1, h2⟩ | ⟨h1, h2⟩)
        · exact ⟨by omega, h2⟩
        · exact ⟨by omega, h1⟩
      · rintro ⟨h1, h2⟩
        by_cases e : slotD t.2 now = E
        · exact .inr ⟨h2, e⟩
        · exact .inl ⟨by omega, h2⟩
theorem relo_at (tz : Int) (k : Nat) (hz : U tz) : ∀ (ts : List TimT) (L : Nat → List TimT), (∀ t ∈ ts, U t.2) → relo tz L ts k = L k ++ ts.filter fun t => decide (slotD t.2 tz = k)
  | [], L, _ => by simp [relo]
  | t :: ts, L, h => by
    have ih := relo_at tz k hz ts (place tz L t) (fun x hx => h x (List.mem_cons_of_mem _ hx))
    have h0 := h t List.mem_cons_self
    show relo tz (place tz L t) ts k = _
    rw [ih]
    unfold place
    rw [slot_xr h0 hz, List.filter_cons]
    by_cases e : slotD t.2 tz = k
    · rw [if_pos e.symm, if_pos (by simpa using e), List.append_assoc]; rfl
    · rw [if_neg (fun h => e h.symm), if_neg (by simpa using e)]
theorem Slots.over {L : Nat → List TimT} {Ls : List TimT} {now tz : Int} (h : Slots L Ls now) (hn : 0 ≤ now) (hL : ∀ t ∈ Ls, now < t.2) : (allT (isOver tz) L (endD tz now)).Perm (Ls.filter (isOver tz)) := by
  refine (allT_slots h _ _ (by unfold endD; rcases ringD_cases tz now with ⟨e, _⟩ | ⟨e, _⟩ | ⟨e, _⟩ | ⟨e, _⟩ | ⟨e, _⟩ <;> rw [e] <;> simp)).trans ?_
  rw [List.filter_congr (fun t ht => ?_)]
  rw [Bool.eq_iff_iff]
  unfold isOver
  simp
  exact fun h1 => slot_over hn (hL t ht) h1
theorem Slots.advance {L : Nat → List TimT} {Ls : List TimT} {now tz : Int} (h : Slots L Ls now) (hn : 0 ≤ now) (hz : U tz) (hnz : now ≤ tz) (hL : ∀ t ∈ Ls, now < t.2) (hU : ∀ t ∈ Ls, U t.2) : Slots (relo tz (gone L (endD tz now)) (allT (isStay tz) L (endD tz now))) (Ls.filter (isStay tz)) tz := by
  have hE : endD tz now ≤ 257 := by unfold endD; rcases ringD_cases tz now with ⟨e, _⟩ | ⟨e, _⟩ | ⟨e, _⟩ | ⟨e, _⟩ | ⟨e, _⟩ <;> rw [e] <;> simp
  have hp := allT_slots h (isStay tz) _ hE
  intro k hk
  rw [relo_at tz k hz _ _ (fun t ht => hU t (List.mem_filter.1 (hp.mem_iff.1 ht)).1)]
  unfold gone
  by_cases hkE : k < endD tz now
  · rw [if_pos hkE, List.nil_append]
    refine (hp.filter _).trans ?_
    rw [List.filter_filter, List.filter_filter, List.filter_congr (fun t ht => ?_)]
    rw [Bool.eq_iff_iff]
    simp
    intro h1
    intro _
    rcases Nat.lt_or_ge (slotD t.2 now) (endD tz now) with h3 | h3
    · exact h3
    · have := slot_stays hn (hL t ht) hnz h3
      omega
  · rw [if_neg hkE]
    refine ((h k hk).append (hp.filter _)).trans ?_
    rw [List.filter_filter, List.filter_filter]
    refine (filter_or _ _ Ls (fun t _ => ?_)).trans ?_
    · simp
      intro h1 _ h3
      omega
    · rw [List.filter_congr (fun t ht => ?_)]
      rw [Bool.eq_iff_iff]
      simp
      constructor
      · rintro (h1 | ⟨h1, h2, h3⟩)
        · have h3 := slot_stays hn (hL t ht) hnz (show endD tz now ≤ slotD t.2 now by omega)
          refine ⟨by omega, ?_⟩
          unfold isStay isOver
          simp
          rcases Int.lt_or_le tz t.2 with h4 | h4
          · exact h4
          · have := slot_over hn (hL t ht) h4
            omega
        · exact ⟨h1, h3⟩
      · rintro ⟨h1, h2⟩
        rcases Nat.lt_or_ge (slotD t.2 now) (endD tz now) with h3 | h3
        · exact .inr ⟨h1, h3, h2⟩
        · have := slot_stays hn (hL t ht) hnz h3
          exact .inl (by omega)
end Go.Proofs.Ytkgdlmgodpgcoaa.Hand
