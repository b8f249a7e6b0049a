/- Numbers: what the program lays and reads (the door's seat, where the document's functions are not reached). -/
import Derived.Test.YtdlfhpkkkhfhdaaDoorHFrameA
import Derived.Test.YtdlfhpkkkhfhdaaDoorHPut
import Derived.Laws.BitsAllLaws
import Derived.Laws.Bits64
namespace Go.Proofs.YtdlfhpkkkhfhdaaDoor.Hand
open Go.RowKit Go.Proofs.YtdlfhpkkkhfhdaaDoorW.PrintWords Go.Proofs.YtdlfhpkkkhfhdaaDoorW.PrintLast Go.Proofs.YtdlfhpkkkhfhdaaDoorW.PrintMore Go.Proofs.YtdlfhpkkkhfhdaaDoor.Q
set_option linter.unusedVariables false
set_option linter.unusedSimpArgs false

theorem group_or (a : Int) (h0 : 0 ≤ a) : Go.bits .or .u8 (a % 256) 128 = 128 + a % 128 := by
  obtain ⟨n, hn⟩ := Int.eq_ofNat_of_zero_le (show 0 ≤ a % 256 by omega)
  rw [hn, show (128 : Int) = ((128 : Nat) : Int) from rfl, u8_or_nat n 128 (by omega) (by omega)]
  have h1 : n ||| 128 = 128 + n % 128 := by
    have h2 : n = n / 128 * 128 + n % 128 := by omega
    have h3 : n < 256 := by omega
    have h4 : n / 128 = 0 ∨ n / 128 = 1 := by omega
    have h5 := nat_join 7 128 (n % 128) (by decide) (by omega)
    rcases h4 with h4 | h4
    · have e : n = n % 128 := by omega
      rw [Nat.or_comm, e, Nat.mod_mod]
      exact h5
    · have e : n = 128 ||| n % 128 := by rw [h5]; omega
      have h6 : n ||| 128 = 128 ||| n % 128 := by
        rw [Nat.or_comm]
        conv => lhs; rw [e]
        rw [← Nat.or_assoc, Nat.or_self]
      rw [h6]
      exact h5
  rw [h1]
  omega
theorem uvI_bytes (d : Nat) : ∀ a : Int, 0 ≤ a → a < 128 ^ (d + 1) → ∀ x ∈ uvI a, 0 ≤ x ∧ x ≤ 255 := by
  induction d with
  | zero =>
    intro a h0 h1 x hx
    rw [uvI_small (by simp at h1; omega)] at hx
    rw [List.mem_singleton.1 hx]
    omega
  | succ d ih =>
    intro a h0 h1 x hx
    by_cases hb : a > 127
    · rw [uvI_big hb] at hx
      rcases List.mem_cons.1 hx with rfl | hx
      · rw [group_or a h0]; omega
      · exact ih (a / 128) (by omega) (by rw [Int.pow_succ] at h1; omega) x hx
    · rw [uvI_small hb] at hx
      rw [List.mem_singleton.1 hx]
      omega
theorem framePutUint_f (l : List Int) (a : Int) (hl : l.length ≤ 100000000) (h1 : a < 18446744073709551616) : frame_PutUint.f l a = some (l ++ uvI a) := by
  unfold frame_PutUint.f
  rw [if_pos (by omega), if_pos h1]
theorem xor_u64_range (a b : Int) : 0 ≤ Go.bits .xor .u64 a b ∧ Go.bits .xor .u64 a b < 18446744073709551616 := by
  unfold Go.bits
  simp only [IntKind.wrap_u64]
  omega

/-- The reading of a number, by definition: what is left, how many groups were read, and their number. -/
def uintP : List Int → Nat → Int → Int × Int × Int
  | [], _, _ => (0, 0, 3)
  | x :: r, i, n => if i = 9 ∧ x > 1 then (0, 0, 11) else if i > 0 ∧ x = 0 then (0, 0, 10) else if x < 128 then (n + x % 128 * 128 ^ i, (i : Int) + 1, 0) else uintP r (i + 1) (n + x % 128 * 128 ^ i)

theorem seven_or (x : Int) (i : Nat) (n : Int) (hi : i ≤ 9) (hx : 0 ≤ x) (hx2 : x ≤ 255) (h9 : ¬ (i = 9 ∧ x > 1)) (h0 : 0 ≤ n) (h1 : n < 128 ^ i) :
    Go.bits .or .u64 n (shl .u64 (IntKind.u64.wrap (Go.bits .and .u8 x 127)) (wrap64 (7 * (i : Int)))) = n + x % 128 * 128 ^ i ∧ n + x % 128 * 128 ^ i < 18446744073709551616 := by
  obtain ⟨b, rfl⟩ := Int.eq_ofNat_of_zero_le hx
  obtain ⟨m, rfl⟩ := Int.eq_ofNat_of_zero_le h0
  have e1 : Go.bits .and .u8 (b : Int) 127 = ((b % 128 : Nat) : Int) := by
    rw [show (127 : Int) = ((127 : Nat) : Int) from rfl, u8_and_nat b 127 (by omega) (by omega), nat_mask7]
  have e2 : IntKind.u64.wrap ((b % 128 : Nat) : Int) = ((b % 128 : Nat) : Int) := by rw [IntKind.wrap_u64]; omega
  have e3 : wrap64 (7 * (i : Int)) = ((7 * i : Nat) : Int) := by rw [w64 (by omega) (by omega)]; omega
  have p : (128 : Nat) ^ i = 2 ^ (7 * i) := by rw [Nat.pow_mul]
  have hm : m < 128 ^ i := by exact_mod_cast h1
  have hpow : b % 128 * 128 ^ i + m < 18446744073709551616 := by
    by_cases h : i = 9
    · subst h
      have : b ≤ 1 := by omega
      have h2 : (128 : Nat) ^ 9 = 9223372036854775808 := by decide
      rw [h2] at hm ⊢
      have : b % 128 ≤ 1 := by omega
      omega
    · have h8 : i ≤ 8 := by omega
      have h2 : (128 : Nat) ^ i ≤ 128 ^ 8 := Nat.pow_le_pow_right (by decide) h8
      have h3 : (128 : Nat) ^ 8 = 72057594037927936 := by decide
      have h4 : b % 128 * 128 ^ i ≤ 127 * 128 ^ 8 := Nat.mul_le_mul (by omega) h2
      omega
  have e4 : shl .u64 ((b % 128 : Nat) : Int) ((7 * i : Nat) : Int) = ((b % 128 * 128 ^ i : Nat) : Int) := by
    unfold shl
    rw [IntKind.wrap_u64, Int.toNat_natCast, show min (7 * i) IntKind.u64.bits = 7 * i from Nat.min_eq_left (by show 7 * i ≤ 64; omega)]
    have e5 : ((b % 128 : Nat) : Int) * 2 ^ (7 * i) = ((b % 128 * 128 ^ i : Nat) : Int) := by rw [p]; push_cast; rfl
    rw [e5]
    omega
  rw [e1, e2, e3, e4, u64_or_nat m (b % 128 * 128 ^ i) (by omega) (by omega)]
  have e6 : m ||| b % 128 * 128 ^ i = b % 128 * 128 ^ i + m := by
    rw [Nat.or_comm]
    exact nat_join (7 * i) _ _ (by rw [p]; exact Nat.mul_mod_left _ _) (by rw [← p]; exact hm)
  rw [e6]
  have e7 : (m : Int) + (b : Int) % 128 * 128 ^ i = ((b % 128 * 128 ^ i + m : Nat) : Int) := by push_cast; omega
  rw [e7]
  exact ⟨rfl, by omega⟩
theorem uintP_cons (x : Int) (r : List Int) (i : Nat) (n : Int) : uintP (x :: r) i n = if i = 9 ∧ x > 1 then (0, 0, 11) else if i > 0 ∧ x = 0 then (0, 0, 10) else if x < 128 then (n + x % 128 * 128 ^ i, (i : Int) + 1, 0) else uintP r (i + 1) (n + x % 128 * 128 ^ i) := rfl
theorem not_nine (x : Int) (i : Nat) (h2 : i ≤ 9) (h9 : ¬ (i = 9 ∧ x > 1)) (h8 : ¬ x < 128) : i + 1 ≤ 9 := by omega
theorem next_lt (x : Int) (i : Nat) (n : Int) (h0 : 0 ≤ n) (h1 : n < 128 ^ i) : 0 ≤ n + x % 128 * 128 ^ i ∧ n + x % 128 * 128 ^ i < 128 ^ (i + 1) := by
  have hp : (0 : Int) < 128 ^ i := Int.pow_pos (by decide)
  have h2 : 0 ≤ x % 128 := by omega
  have h3 : x % 128 ≤ 127 := by omega
  have h4 := Int.mul_nonneg h2 (Int.le_of_lt hp)
  have h5 := Int.mul_le_mul_of_nonneg_right h3 (Int.le_of_lt hp)
  rw [Int.pow_succ]
  omega
theorem rd_at {l : List Int} {i : Nat} (hi : i < l.length) : rd l (i : Int) = l[i] := by
  unfold rd
  rw [Int.toNat_natCast, List.getD_eq_getElem?_getD, List.getElem?_eq_getElem hi]
  rfl
theorem frameUint_from (l : List Int) (hl : l.length ≤ 9000000000000000000) (hw : ∀ x ∈ l, 0 ≤ x ∧ x ≤ 255) (d : Nat) : ∀ (i : Nat) (n : Int), i + d = l.length → i ≤ 9 → 0 ≤ n → n < 128 ^ i → Ev (fun k => frame_Uint.l0 k n l (l.length : Int) (i : Int)) (uintP (l.drop i) i n) := by
  induction d with
  | zero =>
    intro i n h1 h2 h3 h4
    refine ev_next ?_
    have c1 : ¬ (i : Int) < (l.length : Int) := by omega
    simp only [frame_Uint.l0, c1, ↓reduceIte]
    rw [List.drop_of_length_le (by omega)]
    exact Ev.now _
  | succ d ih =>
    intro i n h1 h2 h3 h4
    have hi : i < l.length := by omega
    have hx := hw l[i] (List.getElem_mem hi)
    rw [List.drop_eq_getElem_cons hi, uintP_cons]
    have hrd := rd_at hi
    generalize l[i] = x at hx hrd
    have c1 : (i : Int) < (l.length : Int) := by omega
    have c2 : (0 : Int) ≤ (i : Int) := by omega
    have c7 : (0 : Int) ≤ wrap64 (7 * (i : Int)) := by rw [w64 (by omega) (by omega)]; omega
    refine ev_next ?_
    by_cases h9 : i = 9 ∧ x > 1
    · have c3 : (i : Int) = 9 := by omega
      have c4 : decide (x > 1) = true := decide_eq_true h9.2
      have c5 : (9 : Int) < (l.length : Int) := by omega
      have c6 : (0 : Int) ≤ 9 := by decide
      simp only [frame_Uint.l0, c1, c2, c3, c5, c6, ↓reduceIte]
      rw [if_pos h9]
      rw [← c3, hrd, c4]
      refine ev_next ?_
      simp only [frame_Uint.j1, ↓reduceIte]
      exact Ev.now _
    · rw [if_neg h9]
      have go : Ev (fun k => frame_Uint.j1 k n (i : Int) x l (l.length : Int) (i : Int) false) (if i > 0 ∧ x = 0 then (0, 0, 10) else if x < 128 then (n + x % 128 * 128 ^ i, (i : Int) + 1, 0) else uintP (l.drop (i + 1)) (i + 1) (n + x % 128 * 128 ^ i)) := by
        refine ev_next ?_
        by_cases h0 : i > 0 ∧ x = 0
        · have c3 : (i : Int) > 0 := by omega
          have c4 : (x == 0) = true := by rw [h0.2]; rfl
          simp only [frame_Uint.j1, c3, c4, Bool.false_eq_true, ↓reduceIte]
          rw [if_pos h0]
          refine ev_next ?_
          simp only [frame_Uint.j2, ↓reduceIte]
          exact Ev.now _
        · rw [if_neg h0]
          have go2 : Ev (fun k => frame_Uint.j2 k n (i : Int) x l (l.length : Int) (i : Int) false) (if x < 128 then (n + x % 128 * 128 ^ i, (i : Int) + 1, 0) else uintP (l.drop (i + 1)) (i + 1) (n + x % 128 * 128 ^ i)) := by
            have e := seven_or x i n h2 hx.1 hx.2 h9 h3 h4
            refine ev_next ?_
            have e2 : wrap64 ((i : Int) + 1) = ((i + 1 : Nat) : Int) := by rw [w64 (by omega) (by omega)]; omega
            by_cases h8 : x < 128
            · simp only [frame_Uint.j2, c7, h8, e.1, e2, Bool.false_eq_true, ↓reduceIte]
              exact Ev.now _
            · simp only [frame_Uint.j2, c7, h8, e.1, e2, Bool.false_eq_true, ↓reduceIte]
              have hb := next_lt x i n h3 h4
              exact ih (i + 1) _ (by omega) (not_nine x i h2 h9 h8) hb.1 hb.2
          by_cases c3 : (i : Int) > 0
          · have c4 : (x == 0) = false := by simp; omega
            simp only [frame_Uint.j1, c3, c4, Bool.false_eq_true, ↓reduceIte]
            exact go2
          · simp only [frame_Uint.j1, c3, Bool.false_eq_true, ↓reduceIte]
            exact go2
      by_cases c3 : (i : Int) = 9
      · have c4 : decide (x > 1) = false := decide_eq_false (by omega)
        have c5 : (9 : Int) < (l.length : Int) := by omega
        have c6 : (0 : Int) ≤ 9 := by decide
        simp only [frame_Uint.l0, c3, c5, c6, ↓reduceIte]
        rw [← c3, hrd, c4]
        exact go
      · simp only [frame_Uint.l0, c1, c2, c3, hrd, ↓reduceIte]
        exact go
theorem frameUint_ev (l : List Int) (hl : l.length ≤ 9000000000000000000) (hw : ∀ x ∈ l, 0 ≤ x ∧ x ≤ 255) : Ev (fun k => frame_Uint.f k l) (uintP l 0 0) := frameUint_from l hl hw l.length 0 0 (by omega) (by decide) (by decide) (by decide)

end Go.Proofs.YtdlfhpkkkhfhdaaDoor.Hand
