/- The sum of bytes of which some within 32 neighbouring bits are turned is another one. -/
import Derived.Test.YtdlfhpkkkhfhdaaDoorHOpenPure
namespace Go.Proofs.YtdlfhpkkkhfhdaaDoor.Hand
open Go.RowKit Go.Proofs.YtdlfhpkkkhfhdaaDoorW.PrintWords Go.Proofs.YtdlfhpkkkhfhdaaDoorW.PrintLast Go.Proofs.YtdlfhpkkkhfhdaaDoorW.PrintMore Go.Proofs.YtdlfhpkkkhfhdaaDoor.Q
set_option linter.unusedVariables false
set_option linter.unusedSimpArgs false

theorem bitStep_over2 (a c : Nat) : bitStep (a ^^^ (2 * c)) = bitStep a ^^^ c := by
  rw [bitStep_over a (2 * c) (by omega), show 2 * c / 2 = c by omega]
  by_cases h : a % 2 = 1
  · rw [if_pos h, bitStep_odd h, Nat.xor_comm c, Nat.xor_assoc]
  · rw [if_neg h, bitStep_even (by omega), Nat.xor_zero]
theorem mul_xor (n a b : Nat) : 2 ^ n * (a ^^^ b) = 2 ^ n * a ^^^ 2 ^ n * b := by
  apply Nat.eq_of_testBit_eq
  intro i
  rw [Nat.testBit_xor, Nat.testBit_two_pow_mul, Nat.testBit_two_pow_mul, Nat.testBit_two_pow_mul, Nat.testBit_xor]
  cases decide (n ≤ i) <;> simp
theorem steps_over (n : Nat) : ∀ a c : Nat, steps n (a ^^^ 2 ^ n * c) = steps n a ^^^ c := by
  induction n with
  | zero => intro a c; simp [steps]
  | succ n ih =>
    intro a c
    show steps n (bitStep (a ^^^ 2 ^ (n + 1) * c)) = steps n (bitStep a) ^^^ c
    rw [show 2 ^ (n + 1) * c = 2 * (2 ^ n * c) by rw [Nat.pow_succ, Nat.mul_comm (2 ^ n) 2, Nat.mul_assoc], bitStep_over2, ih]
theorem steps_add (n m : Nat) : ∀ r : Nat, steps (n + m) r = steps m (steps n r) := by
  induction n with
  | zero => intro r; simp [steps]
  | succ n ih =>
    intro r
    rw [Nat.succ_add]
    exact ih (bitStep r)
theorem bitStep_xor (a b : Nat) : bitStep (a ^^^ b) = bitStep a ^^^ bitStep b := by
  have hb : b = b % 2 ^^^ (2 * (b / 2)) := by
    have h1 : (2 * (b / 2)) ^^^ (b % 2) = 2 * (b / 2) + b % 2 := by
      have := Nat.two_pow_add_eq_or_of_lt (i := 1) (b := b % 2) (by omega) (b / 2)
      have h2 : 2 ^ 1 * (b / 2) ||| b % 2 = 2 ^ 1 * (b / 2) + b % 2 := this.symm
      have h3 : 2 ^ 1 * (b / 2) ^^^ b % 2 = 2 ^ 1 * (b / 2) ||| b % 2 := by
        apply Nat.eq_of_testBit_eq
        intro i
        rw [Nat.testBit_xor, Nat.testBit_or, Nat.testBit_two_pow_mul]
        by_cases hi : i = 0
        · subst hi; simp
        · have : (b % 2).testBit i = false := Nat.testBit_lt_two_pow (Nat.lt_of_lt_of_le (show b % 2 < 2 ^ 1 by omega) (Nat.pow_le_pow_right (by decide) (by omega)))
          rw [this]; simp
      rw [show (2 : Nat) * (b / 2) = 2 ^ 1 * (b / 2) by omega, h3, h2]
    rw [Nat.xor_comm, h1]; omega
  have hr : bitStep b = bitStep (b % 2) ^^^ (b / 2) := by
    conv => lhs; rw [hb]
    exact bitStep_over2 _ _
  have hl : bitStep (a ^^^ b) = bitStep (a ^^^ b % 2) ^^^ (b / 2) := by
    conv => lhs; rw [hb]
    rw [← Nat.xor_assoc]
    exact bitStep_over2 _ _
  rw [hl, hr, ← Nat.xor_assoc]
  congr 1
  rcases Nat.mod_two_eq_zero_or_one b with h | h
  · rw [h, Nat.xor_zero]
    show bitStep a = bitStep a ^^^ bitStep 0
    rw [show bitStep 0 = 0 from rfl, Nat.xor_zero]
  · rw [h, show bitStep 1 = 3988292384 from rfl]
    have h1 : (a ^^^ 1) / 2 = a / 2 := by rw [xor_half]; simp
    have h2 : (a ^^^ 1) % 2 = 1 - a % 2 := by
      have := Nat.xor_mod_two_pow (a := a) (b := 1) (n := 1)
      simp only [Nat.pow_one] at this
      rw [this]
      rcases Nat.mod_two_eq_zero_or_one a with h | h <;> rw [h] <;> rfl
    by_cases ha : a % 2 = 1
    · rw [bitStep_even (r := a ^^^ 1) (by omega), bitStep_odd ha, h1, Nat.xor_assoc, Nat.xor_self, Nat.xor_zero]
    · rw [bitStep_odd (r := a ^^^ 1) (by omega), bitStep_even (r := a) (by omega), h1]
theorem steps_xor (n : Nat) : ∀ a b : Nat, steps n (a ^^^ b) = steps n a ^^^ steps n b := by
  induction n with
  | zero => intro a b; rfl
  | succ n ih => intro a b; show steps n (bitStep (a ^^^ b)) = _; rw [bitStep_xor, ih]; rfl
theorem bitStep_pos (r : Nat) (h : r < 4294967296) (h0 : r ≠ 0) : bitStep r ≠ 0 := by
  by_cases hb : r % 2 = 1
  · rw [bitStep_odd hb]
    intro e
    have h2 : r / 2 = 3988292384 := by
      have h3 := congrArg (fun z => z ^^^ 3988292384) e
      simp only [Nat.xor_assoc, Nat.xor_self, Nat.xor_zero, Nat.zero_xor] at h3
      exact h3
    omega
  · rw [bitStep_even (by omega)]
    omega
theorem steps_pos (n : Nat) : ∀ r : Nat, r < 4294967296 → r ≠ 0 → steps n r ≠ 0 := by
  induction n with
  | zero => intro r _ h; exact h
  | succ n ih => intro r h h0; exact ih (bitStep r) (bitStep_lt r h) (bitStep_pos r h h0)

/-- Bytes as one number, the lowest first. -/
def numB (l : List Int) : Nat := l.foldr (fun x n => x.toNat + 256 * n) 0
theorem numB_cons (x : Int) (l : List Int) : numB (x :: l) = x.toNat + 256 * numB l := rfl
theorem add_xor (x n : Nat) (h : x < 256) : x + 256 * n = x ^^^ 2 ^ 8 * n := by
  have h1 : 2 ^ 8 * n + x = 2 ^ 8 * n ||| x := Nat.two_pow_add_eq_or_of_lt h n
  have h3 : 2 ^ 8 * n ^^^ x = 2 ^ 8 * n ||| x := by
    apply Nat.eq_of_testBit_eq
    intro i
    rw [Nat.testBit_xor, Nat.testBit_or, Nat.testBit_two_pow_mul]
    by_cases hi : i < 8
    · have h8 : decide (8 ≤ i) = false := decide_eq_false (by omega)
      rw [h8]; simp
    · have : x.testBit i = false := Nat.testBit_lt_two_pow (Nat.lt_of_lt_of_le (show x < 2 ^ 8 by omega) (Nat.pow_le_pow_right (by decide) (by omega)))
      rw [this]; simp
  rw [Nat.xor_comm, h3, ← h1]
  omega
theorem crcFold_num (l : List Int) : ∀ r : Nat, r < 4294967296 → Bytes l → crcFold (r : Int) l = ((steps (8 * l.length) (r ^^^ numB l) : Nat) : Int) := by
  induction l with
  | nil => intro r _ _; simp [crcFold, steps, numB]
  | cons x l ih =>
    intro r hr hw
    have hx := hw x (by simp)
    obtain ⟨b, rfl⟩ := Int.eq_ofNat_of_zero_le hx.1
    have hrx : r ^^^ b < 4294967296 := Nat.xor_lt_two_pow (n := 32) (by omega) (by omega)
    have e2 := u32_xor_nat r b hr (by omega)
    have hs : steps 8 (r ^^^ b) < 4294967296 := by
      have h3 := nib_range (nib ((r ^^^ b : Nat) : Int))
      rw [← steps_eight _ hrx] at h3
      omega
    show crcFold (crcStep (r : Int) (b : Int)) l = _
    unfold crcStep
    rw [show ((b : Int) % 4294967296) = (b : Int) from by omega, e2, ← steps_eight _ hrx, ih _ hs (fun y hy => hw y (by simp [hy]))]
    congr 1
    rw [List.length_cons, show 8 * (l.length + 1) = 8 + 8 * l.length by omega, steps_add, numB_cons, Int.toNat_natCast, add_xor b _ (by omega), ← Nat.xor_assoc, steps_over]
/-- A burst of 32 bits at most is told. -/
theorem crc_burst (l l2 : List Int) (c : Int) (p E : Nat) (hw : Bytes l) (hw2 : Bytes l2) (hl : l2.length = l.length) (hE : E ≠ 0) (hE2 : E < 4294967296) (hp : p ≤ 8 * l.length) (hn : numB l2 = numB l ^^^ 2 ^ p * E) : crcRun c l2 ≠ crcRun c l := by
  intro h
  have hr := xor_range 4294967295 c
  obtain ⟨r, hre⟩ := Int.eq_ofNat_of_zero_le hr.1
  have h1 := crcFold_range (Go.bits .xor .u32 4294967295 c) l hr.1 hr.2
  have h2 := crcFold_range (Go.bits .xor .u32 4294967295 c) l2 hr.1 hr.2
  unfold crcRun at h
  have h3 := congrArg (Go.bits .xor .u32 4294967295) h
  rw [xor_twice _ h1.1 h1.2, xor_twice _ h2.1 h2.2, hre, crcFold_num l r (by omega) hw, crcFold_num l2 r (by omega) hw2, hl, hn, ← Nat.xor_assoc, steps_xor] at h3
  have h4 : steps (8 * l.length) (r ^^^ numB l) ^^^ steps (8 * l.length) (2 ^ p * E) = steps (8 * l.length) (r ^^^ numB l) := by exact_mod_cast h3
  have h5 : steps (8 * l.length) (2 ^ p * E) = 0 := by
    have h6 := congrArg (fun z => steps (8 * l.length) (r ^^^ numB l) ^^^ z) h4
    simp only [← Nat.xor_assoc, Nat.xor_self, Nat.zero_xor] at h6
    exact h6
  have h7 : steps (8 * l.length) (2 ^ p * E) = steps (8 * l.length - p) E := by
    have h8 : 8 * l.length = p + (8 * l.length - p) := by omega
    conv => lhs; rw [h8]
    rw [steps_add]
    have h9 := steps_over p 0 E
    rw [Nat.zero_xor] at h9
    have h0 : ∀ n, steps n 0 = 0 := fun n => by induction n with
      | zero => rfl
      | succ n ih => exact ih
    rw [h9, h0, Nat.zero_xor]
  rw [h7] at h5
  exact steps_pos _ E hE2 hE h5
end Go.Proofs.YtdlfhpkkkhfhdaaDoor.Hand
