/- The sum, in plain numbers: half bytes by the table are four steps bit by bit; bytes one behind the other. -/
import Derived.Test.YtdlfhpkkkhfhdaaDoorHCrc
namespace Go.Proofs.YtdlfhpkkkhfhdaaDoor.Hand
open Go.RowKit Go.Proofs.YtdlfhpkkkhfhdaaDoorW.PrintWords

/-- One step, bit by bit. -/
def bitStep (r : Nat) : Nat := if r % 2 = 1 then (r / 2) ^^^ 3988292384 else r / 2
theorem xor_half (a b : Nat) : (a ^^^ b) / 2 = a / 2 ^^^ b / 2 := by
  apply Nat.eq_of_testBit_eq
  intro i
  simp [← Nat.testBit_succ]
theorem xor_odd (a b : Nat) (h : b % 2 = 0) : (a ^^^ b) % 2 = a % 2 := by
  have := Nat.xor_mod_two_pow (a := a) (b := b) (n := 1)
  simp only [Nat.pow_one] at this
  rw [this, h]
  simp
theorem bitStep_odd {r : Nat} (h : r % 2 = 1) : bitStep r = r / 2 ^^^ 3988292384 := if_pos h
theorem bitStep_even {r : Nat} (h : r % 2 = 0) : bitStep r = r / 2 := if_neg (by omega)
/-- A step over a number and what has come in so far, of which the lowest bit is 0. -/
theorem bitStep_over (q c : Nat) (hc : c % 2 = 0) : bitStep (q ^^^ c) = (q / 2) ^^^ ((c / 2) ^^^ (if q % 2 = 1 then 3988292384 else 0)) := by
  by_cases h : q % 2 = 1
  · rw [bitStep_odd (by rw [xor_odd _ _ hc]; exact h), xor_half, if_pos h, Nat.xor_assoc]
  · rw [bitStep_even (by rw [xor_odd _ _ hc]; omega), xor_half, if_neg h, Nat.xor_zero]
def tabN (j : Nat) : Nat := [0, 498536548, 997073096, 651767980, 1994146192, 1802195444, 1303535960, 1342533948, 3988292384, 4027552580, 3604390888, 3412177804, 2607071920, 2262029012, 2685067896, 3183342108].getD j 0
theorem four_steps (r : Nat) : bitStep (bitStep (bitStep (bitStep r))) = tabN (r % 16) ^^^ (r / 16) := by
  have h0 := bitStep_over r 0 rfl
  rw [Nat.xor_zero] at h0
  have e1 : r / 2 / 2 = r / 4 := by omega
  have e2 : r / 4 / 2 = r / 8 := by omega
  have e3 : r / 8 / 2 = r / 16 := by omega
  have m : r % 16 = r % 2 + 2 * (r / 2 % 2) + 4 * (r / 4 % 2) + 8 * (r / 8 % 2) := by omega
  rw [h0]
  rcases Nat.mod_two_eq_zero_or_one r with b0 | b0 <;> rcases Nat.mod_two_eq_zero_or_one (r / 2) with b1 | b1 <;> rcases Nat.mod_two_eq_zero_or_one (r / 4) with b2 | b2 <;> rcases Nat.mod_two_eq_zero_or_one (r / 8) with b3 | b3
  all_goals
    rw [m]
    simp only [b0, b1, b2, b3]
    rw [bitStep_over (r / 2) _ (by decide), e1, bitStep_over (r / 4) _ (by simp only [b1]; decide), e2, bitStep_over (r / 8) _ (by simp only [b1, b2]; decide), e3, Nat.xor_comm (tabN _)]
    simp only [b1, b2, b3]
    congr 1

theorem tabN_lt (j : Nat) (h : j < 16) : tabN j < 4294967296 := by
  have : ∀ j, j < 16 → tabN j < 4294967296 := by decide
  exact this j h
theorem half_nat (j : Nat) (h : j < 16) : half (j : Int) = (tabN j : Nat) := by
  have : ∀ j : Nat, j < 16 → half (j : Int) = (tabN j : Nat) := by decide
  exact this j h
theorem and15_nat (r : Nat) (h : r < 4294967296) : Go.bits .and .u32 (r : Int) 15 = ((r % 16 : Nat) : Int) := by
  have := u32_and_nat r 15 h (by decide)
  rw [Nat.and_two_pow_sub_one_eq_mod r 4] at this
  exact this
theorem nib_nat (r : Nat) (h : r < 4294967296) : nib (r : Int) = ((tabN (r % 16) ^^^ (r / 16) : Nat) : Int) := by
  unfold nib
  have hm : r % 16 < 16 := Nat.mod_lt _ (by decide)
  rw [and15_nat r h, half_nat _ hm, show ((r : Int) / 16) = ((r / 16 : Nat) : Int) from by omega]
  exact u32_xor_nat _ _ (tabN_lt _ hm) (by omega)
theorem nib_lt (r : Nat) (h : r < 4294967296) : tabN (r % 16) ^^^ (r / 16) < 4294967296 :=
  Nat.xor_lt_two_pow (n := 32) (tabN_lt _ (Nat.mod_lt _ (by decide))) (by omega)
theorem nib_steps (r : Nat) (h : r < 4294967296) : nib (nib (r : Int)) = ((bitStep (bitStep (bitStep (bitStep (bitStep (bitStep (bitStep (bitStep r))))))) : Nat) : Int) := by
  rw [nib_nat r h, nib_nat _ (nib_lt r h), four_steps, four_steps r]

/-- Whatever is exclusive-ored lies in 32 bits. -/
theorem xor_range (a b : Int) : 0 ≤ Go.bits .xor .u32 a b ∧ Go.bits .xor .u32 a b < 4294967296 := by
  unfold Go.bits
  simp only [IntKind.wrap_u32']
  omega
theorem xor_twice (a : Int) (h0 : 0 ≤ a) (h1 : a < 4294967296) : Go.bits .xor .u32 4294967295 (Go.bits .xor .u32 4294967295 a) = a := by
  obtain ⟨n, rfl⟩ := Int.eq_ofNat_of_zero_le h0
  have hn : n < 4294967296 := by omega
  have h2 : 4294967295 ^^^ n < 4294967296 := Nat.xor_lt_two_pow (n := 32) (by decide) (by omega)
  have e1 := u32_xor_nat 4294967295 n (by decide) hn
  have e2 := u32_xor_nat 4294967295 (4294967295 ^^^ n) (by decide) h2
  rw [← Nat.xor_assoc, Nat.xor_self, Nat.zero_xor] at e2
  rw [show (4294967295 : Int) = ((4294967295 : Nat) : Int) from rfl, e1, e2]
theorem nib_range (r : Int) : 0 ≤ nib r ∧ nib r < 4294967296 := xor_range _ _
theorem crcFold_range (r : Int) (l : List Int) (h0 : 0 ≤ r) (h1 : r < 4294967296) : 0 ≤ crcFold r l ∧ crcFold r l < 4294967296 := by
  induction l generalizing r with
  | nil => exact ⟨h0, h1⟩
  | cons x l ih => exact ih (crcStep r x) (nib_range _).1 (nib_range _).2
theorem crcFold_append (r : Int) (a b : List Int) : crcFold r (a ++ b) = crcFold (crcFold r a) b := List.foldl_append
theorem crcRun_range (c : Int) (l : List Int) : 0 ≤ crcRun c l ∧ crcRun c l < 4294967296 := xor_range _ _
/-- The sum of two pieces, one behind the other. -/
theorem crcRun_append (c : Int) (a b : List Int) : crcRun (crcRun c a) b = crcRun c (a ++ b) := by
  unfold crcRun
  have h := crcFold_range (Go.bits .xor .u32 4294967295 c) a (xor_range _ _).1 (xor_range _ _).2
  rw [xor_twice _ h.1 h.2, crcFold_append]
end Go.Proofs.YtdlfhpkkkhfhdaaDoor.Hand
