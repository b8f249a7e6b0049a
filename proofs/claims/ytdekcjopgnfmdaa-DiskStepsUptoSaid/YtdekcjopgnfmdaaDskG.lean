/- Texts held against one another: '>' as the printed functions say it. -/
import Derived.Test.YtdekcjopgnfmdaaProg
import Derived.WalkKit
import Derived.Sort.Walk0
namespace Go.Proofs.Ytdekcjopgnfmdaa.Hand
theorem bytesLess_gt (a b : List UInt8) : (!(Op.bytesLess a b || a == b)) = Op.bytesLess b a := by
  rw [bytesLess_eq, bytesLess_eq]; by_cases h1 : a < b
  · have h2 : ¬ b < a := fun h => List.lt_irrefl a (List.lt_trans h1 h); simp [h1, h2]
  · by_cases h2 : a = b
    · subst h2; simp [List.lt_irrefl]
    · have h3 : b < a := by
        rcases Decidable.em (b < a) with h | h
        · exact h
        · exact absurd (List.le_antisymm (List.not_lt.1 h) (List.not_lt.1 h1)) h2
      simp [h1, h2, h3]
theorem binOp_gtrD (t : TypeId) (a b : ByteArray) : binOp .gtr t (.string a) (.string b) = pure (.bool (Op.bytesLess b.toList a.toList)) := by
  rw [← bytesLess_gt]; simp [binOp, Op.stringOp]
/-- n Bools, by the bits of k. -/
def bm (n k : Nat) : Array Bool := ((List.range n).map (Nat.testBit k)).toArray
theorem s_a {α : Type} (l : List α) (i : Nat) (a : α) : l.toArray.setIfInBounds i a = (l.set i a).toArray := List.setIfInBounds_toArray ..
theorem s_b {α : Type} (x y : α) (l : List α) : (x :: l).set 0 y = y :: l := rfl
theorem s_c {α : Type} (x y : α) (l : List α) (n : Nat) : (x :: l).set (n + 1) y = x :: l.set n y := rfl
end Go.Proofs.Ytdekcjopgnfmdaa.Hand
