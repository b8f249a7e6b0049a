/- FrameForms: what is read is what would be written: the plain law. -/
import Derived.Test.YtdlfhpkkkhfhdaaDoorHOpenPure
import Derived.Test.YtdlfhpkkkhfhdaaDoorHNumFrame
import Derived.Test.YtdlfhpkkkhfhdaaDoorHSumsM
namespace Go.Proofs.YtdlfhpkkkhfhdaaDoor.Hand
open Go.RowKit Go.Proofs.YtdlfhpkkkhfhdaaDoorW.PrintWords Go.Proofs.YtdlfhpkkkhfhdaaDoorW.PrintLast Go.Proofs.YtdlfhpkkkhfhdaaDoorW.PrintMore Go.Proofs.YtdlfhpkkkhfhdaaDoor.Q
set_option linter.unusedVariables false
set_option linter.unusedSimpArgs false

theorem uvI_join (x m : Int) (hx : 128 ≤ x ∧ x ≤ 255) (hm : 1 ≤ m) : uvI (x % 128 + 128 * m) = x :: uvI m := by
  rw [uvI_big (by omega), group_or _ (by omega)]
  have e1 : (x % 128 + 128 * m) % 128 = x % 128 := by omega
  have e2 : (x % 128 + 128 * m) / 128 = m := by omega
  rw [e1, e2]
  congr 1
  omega
theorem value_join (n x m p q : Int) (h : q = p * 128) : n + x * p + m * q = n + (x + 128 * m) * p := by
  rw [h, Int.add_mul, Int.mul_assoc 128 m p, ← Int.mul_assoc m p 128, Int.mul_comm (m * p) 128, Int.add_assoc]
theorem uintP_back (l : List Int) : ∀ (i : Nat) (n v k : Int), (∀ x ∈ l, 0 ≤ x ∧ x ≤ 255) → uintP l i n = (v, k, 0) →
    ∃ (m : Int) (j : Nat), 0 ≤ m ∧ v = n + m * 128 ^ i ∧ k = ((i + j : Nat) : Int) ∧ 1 ≤ j ∧ j ≤ l.length ∧ uvI m = l.take j ∧ (0 < i → 1 ≤ m) := by
  induction l with
  | nil => intro i n v k _ h; simp [uintP] at h
  | cons x r ih =>
    intro i n v k hw h
    have hx := hw x (by simp)
    rw [uintP_cons] at h
    by_cases h9 : i = 9 ∧ x > 1
    · rw [if_pos h9] at h; simp at h
    · rw [if_neg h9] at h
      by_cases hz : i > 0 ∧ x = 0
      · rw [if_pos hz] at h; simp at h
      · rw [if_neg hz] at h
        by_cases h8 : x < 128
        · rw [if_pos h8] at h
          simp only [Prod.mk.injEq] at h
          have hm : x % 128 = x := by clear h; omega
          refine ⟨x, 1, hx.1, by rw [← h.1, hm], by rw [← h.2.1]; rfl, Nat.le_refl _, by simp, ?_, fun hi => ?_⟩
          · rw [uvI_small (by clear h; omega)]
            have hm2 : x % 256 = x := by clear h; omega
            rw [hm2]; rfl
          · clear h; omega
        · rw [if_neg h8] at h
          obtain ⟨m, j, h1, h2, h3, h4, h5, h6, h7⟩ := ih (i + 1) _ v k (fun y hy => hw y (by simp [hy])) h
          have hm := h7 (Nat.succ_pos i)
          refine ⟨x % 128 + 128 * m, j + 1, by clear h h2 h3; omega, ?_, by rw [h3]; congr 1; clear h h2 h3; omega, by clear h h2 h3; omega, by simp; exact h5, ?_, fun _ => by clear h h2 h3; omega⟩
          · rw [h2]
            exact value_join _ _ _ _ _ (Int.pow_succ _ _)
          · rw [uvI_join x m ⟨by clear h h2 h3; omega, hx.2⟩ hm, h6]
            rfl
theorem open_back (l : List Int) (kd n : Int) (lo : List Int) (hl : l.length ≤ 100000000) (hw : Bytes l) (h : openP l = (kd, lo, n, 0)) : ∃ X : List Int, n = (X.length : Int) ∧ X.length ≤ l.length ∧ l.take X.length = X ∧ 9 ≤ X.length ∧ frame_Seal.f kd lo = some (X, 0) := by
  rcases nine_or l with ⟨a, b, c, d, e, f, g, hh, kd', r, rfl⟩ | ⟨hs, he⟩
  · have ha := hw a (by simp)
    have hb := hw b (by simp)
    have hc := hw c (by simp)
    have hd := hw d (by simp)
    have hee := hw e (by simp)
    have hf := hw f (by simp)
    have hg := hw g (by simp)
    have hh' := hw hh (by simp)
    have hn := w4_range a b c d ha hb hc hd
    rw [openP_nine] at h
    by_cases h1 : w4 a b c d > 2097152
    · rw [if_pos h1] at h; simp at h
    · rw [if_neg h1] at h
      by_cases h2 : (r.length : Int) < w4 a b c d
      · rw [if_pos h2] at h; simp at h
      · rw [if_neg h2] at h
        by_cases h3 : w4 e f g hh ≠ sumOf kd' (r.take (w4 a b c d).toNat)
        · rw [if_pos h3] at h; simp at h
        · rw [if_neg h3] at h
          have h3' : w4 e f g hh = sumOf kd' (r.take (w4 a b c d).toNat) := Decidable.not_not.1 h3
          by_cases h4 : kd' = 0
          · rw [if_pos h4] at h; simp at h
          · rw [if_neg h4] at h
            simp only [Prod.mk.injEq] at h
            obtain ⟨rfl, rfl, rfl, _⟩ := h
            obtain ⟨N, hN⟩ := Int.eq_ofNat_of_zero_le hn.1
            have eN : (w4 a b c d).toNat = N := by omega
            rw [eN] at h3' ⊢
            have htl : (r.take N).length = N := by rw [List.length_take]; omega
            have hX : sealOf kd' (r.take N) = a :: b :: c :: d :: e :: f :: g :: hh :: kd' :: r.take N := by
              unfold sealOf
              rw [htl, ← hN, fourI_w4 a b c d ha hb hc hd, ← h3', fourI_w4 e f g hh hee hf hg hh']
              rfl
            refine ⟨sealOf kd' (r.take N), ?_, ?_, ?_, ?_, ?_⟩
            · rw [sealOf_length, htl]; omega
            · rw [sealOf_length, htl]; simp; omega
            · rw [sealOf_length, htl, hX]; rfl
            · rw [sealOf_length]; omega
            · rw [frameSeal_f]
              unfold sealP
              rw [if_neg h4, if_neg (by rw [htl]; omega)]
  · rw [he] at h; simp at h
theorem bytesOf_strOfNums (xs : List Int) (h : Bytes xs) : bytesOf (strOfNums xs) = xs := by
  unfold bytesOf
  rw [strOfNums_data, List.map_map]
  apply List.ext_getElem
  · simp
  · intro i h1 h2
    have hx := h xs[i] (List.getElem_mem h2)
    simp only [List.getElem_map, Function.comp_apply, UInt8.toNat_ofNat']
    omega
end Go.Proofs.YtdlfhpkkkhfhdaaDoor.Hand
