/- FrameBack: numbers and texts come back: the plain law. -/
import Derived.Test.YtdlfhpkkkhfhdaaDoorHTextF
import Derived.Test.YtdlfhpkkkhfhdaaDoorHTornM
namespace Go.Proofs.YtdlfhpkkkhfhdaaDoor.Hand
open Go.RowKit Go.Proofs.YtdlfhpkkkhfhdaaDoorW.PrintWords Go.Proofs.YtdlfhpkkkhfhdaaDoorW.PrintLast Go.Proofs.YtdlfhpkkkhfhdaaDoorW.PrintMore Go.Proofs.YtdlfhpkkkhfhdaaDoor.Q
set_option linter.unusedVariables false
set_option linter.unusedSimpArgs false

theorem split_value (acc m p q : Int) (h : q = p * 128) : acc + m % 128 * p + m / 128 * q = acc + m * p := by
  have e : m = m % 128 + 128 * (m / 128) := by omega
  conv => rhs; rw [e]
  rw [h, Int.add_mul, Int.mul_assoc 128 (m / 128) p, ← Int.mul_assoc (m / 128) p 128, Int.mul_comm (m / 128 * p) 128, Int.add_assoc]
theorem nine_small (m : Int) (h : m * 128 ^ 9 < 18446744073709551616) : m ≤ 1 := by
  have h2 : (128 : Int) ^ 9 = 9223372036854775808 := by decide
  rw [h2] at h
  omega
theorem div_bound (m p q : Int) (h : q = p * 128) (hp : 0 < p) (h0 : 0 ≤ m) (hm : m * p < 18446744073709551616) : m / 128 * q < 18446744073709551616 := by
  have h1 : m / 128 * q = 128 * (m / 128) * p := by rw [h, ← Int.mul_assoc, Int.mul_comm (m / 128 * p) 128, ← Int.mul_assoc]
  have h2 : 128 * (m / 128) ≤ m := by omega
  have h3 := Int.mul_le_mul_of_nonneg_right h2 (Int.le_of_lt hp)
  rw [h1]
  exact Int.lt_of_le_of_lt h3 hm
theorem uint_uv (rest : List Int) (d : Nat) : ∀ (i : Nat) (m acc : Int), i + d = 9 → 0 ≤ m → (0 < i → 1 ≤ m) → m * 128 ^ i < 18446744073709551616 → uintP (uvI m ++ rest) i acc = (acc + m * 128 ^ i, ((i + (uvI m).length : Nat) : Int), 0) := by
  induction d with
  | zero =>
    intro i m acc hi h0 h1 hm
    obtain rfl : i = 9 := by omega
    have hm1 := nine_small m hm
    have hmm := h1 (by decide)
    clear hm
    obtain rfl : m = 1 := by omega
    rw [uvI_small (by decide)]
    show uintP (1 % 256 :: rest) 9 acc = _
    rw [uintP_cons, if_neg (by decide), if_neg (by decide), if_pos (by decide)]
    rfl
  | succ d ih =>
    intro i m acc hi h0 h1 hm
    by_cases hb : m > 127
    · rw [uvI_big hb, group_or m h0]
      have hp : (0 : Int) < 128 ^ i := Int.pow_pos (by decide)
      have hq : (128 : Int) ^ (i + 1) = 128 ^ i * 128 := Int.pow_succ _ _
      have h2 := div_bound m _ _ hq hp h0 hm
      have h := ih (i + 1) (m / 128) (acc + (128 + m % 128) % 128 * 128 ^ i) (by omega) (by clear hm h2; omega) (fun _ => by clear hm h2; omega) h2
      rw [List.cons_append, uintP_cons, if_neg (by clear hm h2 h; omega), if_neg (by clear hm h2 h; omega), if_neg (by clear hm h2 h; omega), h]
      have e : (128 + m % 128) % 128 = m % 128 := by clear hm h2 h; omega
      rw [e, split_value acc m _ _ hq]
      refine Prod.ext rfl (Prod.ext ?_ rfl)
      show ((i + 1 + (uvI (m / 128)).length : Nat) : Int) = ((i + ((128 + m % 128) :: uvI (m / 128)).length : Nat) : Int)
      rw [List.length_cons]
      congr 1
      clear hm h2 h
      omega
    · have e : m % 256 = m := by clear hm; omega
      rw [uvI_small hb, e]
      show uintP (m :: rest) i acc = _
      have e2 : m % 128 = m := by clear hm; omega
      rw [uintP_cons, if_neg (by clear hm; omega), if_neg (fun hh => by have := h1 hh.1; clear hm; omega), if_pos (by clear hm; omega), e2]
      rfl
theorem uint_back_put (n : Int) (rest : List Int) (h0 : 0 ≤ n) (h1 : n < 18446744073709551616) : uintP (uvI n ++ rest) 0 0 = (n, ((uvI n).length : Int), 0) := by
  have h := uint_uv rest 9 0 n 0 rfl h0 (fun h => absurd h (by decide)) (by simpa using h1)
  rw [h]
  refine Prod.ext (by simp) (Prod.ext (by simp) rfl)
theorem strOfNums_bytesOf (s : ByteArray) : strOfNums (bytesOf s) = s := by
  unfold strOfNums bytesOf
  cases s with
  | mk d =>
    congr 1
    apply Array.ext'
    simp only [List.map_map]
    have : ((fun n : Int => UInt8.ofNat n.toNat) ∘ fun b : UInt8 => (b.toNat : Int)) = id := by
      funext b
      simp
    rw [this, List.map_id]
theorem text_put (s : ByteArray) (rest : List Int) (hs : s.size ≤ 100000000) : textP (uvI s.size ++ bytesOf s ++ rest) s.size = (s, ((uvI s.size).length : Int) + s.size, 0) := by
  have h := uint_back_put (s.size : Int) (bytesOf s ++ rest) (by omega) (by omega)
  rw [← List.append_assoc] at h
  have hb := bytesOf_length s
  unfold textP
  rw [if_neg (by omega), h]
  simp only [↓reduceIte]
  rw [if_neg (by omega), if_neg (by simp only [List.length_append]; omega)]
  have e1 : (((uvI s.size).length : Int) + (s.size : Int)).toNat = (uvI s.size ++ bytesOf s).length := by rw [List.length_append, hb]; omega
  have e2 : (((uvI s.size).length : Int)).toNat = (uvI s.size).length := by omega
  rw [e1, e2, List.take_left, List.drop_left, strOfNums_bytesOf]
end Go.Proofs.YtdlfhpkkkhfhdaaDoor.Hand
