/- FrameTurned: a frame of which bits are turned is told. -/
import Derived.Test.YtdlfhpkkkhfhdaaDoorHBurst
namespace Go.Proofs.YtdlfhpkkkhfhdaaDoor.Hand
open Go.RowKit Go.Proofs.YtdlfhpkkkhfhdaaDoorW.PrintWords Go.Proofs.YtdlfhpkkkhfhdaaDoorW.PrintLast Go.Proofs.YtdlfhpkkkhfhdaaDoorW.PrintMore Go.Proofs.YtdlfhpkkkhfhdaaDoor.Q
set_option linter.unusedVariables false
set_option linter.unusedSimpArgs false

theorem xor_div (n a b : Nat) : (a ^^^ b) / 2 ^ n = a / 2 ^ n ^^^ b / 2 ^ n := by
  apply Nat.eq_of_testBit_eq
  intro i
  simp [Nat.testBit_div_two_pow]
theorem numB_inj (l : List Int) : ∀ l2 : List Int, Bytes l → Bytes l2 → l2.length = l.length → numB l2 = numB l → l2 = l := by
  induction l with
  | nil => intro l2 _ _ h _; exact List.eq_nil_of_length_eq_zero h
  | cons x l ih =>
    intro l2 h1 h2 hl hn
    cases l2 with
    | nil => simp at hl
    | cons y m =>
      have hx := h1 x (by simp)
      have hy := h2 y (by simp)
      rw [numB_cons, numB_cons] at hn
      have e1 : y = x := by omega
      have e2 : numB m = numB l := by omega
      rw [e1, ih m (fun z hz => h1 z (by simp [hz])) (fun z hz => h2 z (by simp [hz])) (by simpa using hl) e2]
theorem numB_set (l : List Int) : ∀ (q s : Nat) (hq : q < l.length), s < 8 → Bytes l → Bytes (l.set q (((l.getD q 0).toNat ^^^ 2 ^ s : Nat) : Int)) ∧ numB (l.set q (((l.getD q 0).toNat ^^^ 2 ^ s : Nat) : Int)) = numB l ^^^ 2 ^ (8 * q + s) := by
  induction l with
  | nil => intro q s hq; simp at hq
  | cons x l ih =>
    intro q s hq hs hw
    have hx := hw x (by simp)
    have h2s : 2 ^ s < 256 := Nat.pow_lt_pow_right (a := 2) (by decide) (show s < 8 by omega)
    cases q with
    | zero =>
      have hlt : x.toNat ^^^ 2 ^ s < 256 := Nat.xor_lt_two_pow (n := 8) (by omega) h2s
      refine ⟨fun y hy => ?_, ?_⟩
      · simp only [List.set_cons_zero, List.mem_cons] at hy
        rcases hy with rfl | hy
        · show 0 ≤ ((x.toNat ^^^ 2 ^ s : Nat) : Int) ∧ ((x.toNat ^^^ 2 ^ s : Nat) : Int) ≤ 255
          omega
        · exact hw y (by simp [hy])
      · show numB ((((x.toNat ^^^ 2 ^ s : Nat) : Int)) :: l) = numB (x :: l) ^^^ 2 ^ (8 * 0 + s)
        rw [numB_cons, numB_cons, Int.toNat_natCast, add_xor _ _ hlt, add_xor _ _ (by omega), Nat.mul_zero, Nat.zero_add, Nat.xor_assoc, Nat.xor_assoc, Nat.xor_comm (2 ^ s)]
    | succ q =>
      have hq' : q < l.length := by simpa using hq
      obtain ⟨i1, i2⟩ := ih q s hq' hs (fun y hy => hw y (by simp [hy]))
      have hg : (x :: l).getD (q + 1) 0 = l.getD q 0 := by simp [List.getD_eq_getElem?_getD]
      rw [hg, List.set_cons_succ]
      refine ⟨fun y hy => ?_, ?_⟩
      · rcases List.mem_cons.1 hy with rfl | hy
        · exact hx
        · exact i1 y hy
      · rw [numB_cons, numB_cons, i2, add_xor _ _ (by omega), add_xor _ _ (by omega), mul_xor, Nat.xor_assoc]
        congr 2
        rw [← Nat.pow_add]
        congr 1
        omega
theorem numB_app (a b : List Int) : numB (a ++ b) = numB a + 256 ^ a.length * numB b := by
  induction a with
  | nil => simp [numB]
  | cons x a ih =>
    rw [List.cons_append, numB_cons, numB_cons, ih, List.length_cons, Nat.pow_succ, Nat.mul_add, Nat.add_assoc, ← Nat.mul_assoc, Nat.mul_comm 256 (256 ^ a.length)]
theorem numB_four (a b c d : Int) (r : List Int) (ha : 0 ≤ a ∧ a ≤ 255) (hb : 0 ≤ b ∧ b ≤ 255) (hc : 0 ≤ c ∧ c ≤ 255) (hd : 0 ≤ d ∧ d ≤ 255) : numB (a :: b :: c :: d :: r) = (w4 a b c d).toNat + 4294967296 * numB r := by
  rw [numB_cons, numB_cons, numB_cons, numB_cons]
  unfold w4
  omega
theorem sealOf_nine (kind : Int) (l : List Int) : ∃ a b c d e f g h, sealOf kind l = a :: b :: c :: d :: e :: f :: g :: h :: kind :: l ∧ fourI l.length = [a, b, c, d] ∧ fourI (sumOf kind l) = [e, f, g, h] := ⟨_, _, _, _, _, _, _, _, rfl, rfl, rfl⟩
theorem sumOf_run (kind : Int) (l : List Int) : sumOf kind l = crcRun (crcRun 0 (fourI l.length)) (kind :: l) := by
  unfold sumOf
  rw [crcRun_append (crcRun 0 (fourI l.length)) [kind] l]
  rfl
theorem w4_of {n : Int} {a b c d : Int} (h : fourI n = [a, b, c, d]) (h0 : 0 ≤ n) (h1 : n < 4294967296) : w4 a b c d = n := by
  unfold fourI at h
  injection h with e1 h
  injection h with e2 h
  injection h with e3 h
  injection h with e4 _
  rw [← e1, ← e2, ← e3, ← e4]
  exact w4_fourI n h0 h1

/-- What Open tells of a frame with bits turned: the sum's (s = 32 + A) or kind's and load's (s = 64 + A). -/
theorem turned_open (kind : Int) (l x : List Int) (A E : Nat) (os : Bool) (hk : 0 < kind ∧ kind ≤ 255) (hw : Bytes l) (hl : l.length ≤ 2097152) (hx : Bytes x) (hxl : x.length = l.length + 9)
    (hA : os = true → 2 ^ A * E < 4294967296) (hA2 : os = false → A ≤ 8 * (l.length + 1)) (hE : E < 4294967296) (hn : numB x = numB (sealOf kind l) ^^^ 2 ^ ((if os = true then 32 else 64) + A) * E) :
    (E = 0 → (openP x).2.2.2 = 0 ∧ (openP x).2.2.1 = l.length + 9) ∧ (E ≠ 0 → openP x = (0, [], 0, 12)) := by
  rcases nine_or x with ⟨a, b, c, d, e, f, g, h, kd, r, rfl⟩ | ⟨hs, _⟩
  · have ha := hx a (by simp)
    have hb := hx b (by simp)
    have hc := hx c (by simp)
    have hd := hx d (by simp)
    have hee := hx e (by simp)
    have hf := hx f (by simp)
    have hg := hx g (by simp)
    have hh := hx h (by simp)
    have hkr : Bytes (kd :: r) := fun y hy => hx y (List.mem_of_mem_drop (i := 8) (l := a :: b :: c :: d :: e :: f :: g :: h :: kd :: r) hy)
    have hkl : Bytes (kind :: l) := fun y hy => by
      rcases List.mem_cons.1 hy with rfl | hy
      · omega
      · exact hw y hy
    obtain ⟨a', b', c', d', e', f', g', h', hse, h4, h5⟩ := sealOf_nine kind l
    have hsr := crcRun_range (crcRun (crcRun 0 (fourI l.length)) [kind]) l
    have hw1 := w4_of h4 (by omega) (by omega)
    have hw2 := w4_of h5 hsr.1 hsr.2
    have hb4 := fourI_bytes (l.length : Int)
    have hb5 := fourI_bytes (sumOf kind l)
    rw [h4] at hb4
    rw [h5] at hb5
    have hrl : r.length = l.length := by simp at hxl; omega
    rw [hse, numB_four a' b' c' d' _ (hb4 a' (by simp)) (hb4 b' (by simp)) (hb4 c' (by simp)) (hb4 d' (by simp)), numB_four e' f' g' h' _ (hb5 e' (by simp)) (hb5 f' (by simp)) (hb5 g' (by simp)) (hb5 h' (by simp)), hw1, hw2,
      numB_four a b c d _ ha hb hc hd, numB_four e f g h _ hee hf hg hh] at hn
    have hn0 := w4_range a b c d ha hb hc hd
    have hn1 := w4_range e f g h hee hf hg hh
    have hsr' : 0 ≤ sumOf kind l ∧ sumOf kind l < 4294967296 := hsr
    obtain ⟨V0, hV0⟩ := Int.eq_ofNat_of_zero_le hn0.1
    obtain ⟨V1, hV1⟩ := Int.eq_ofNat_of_zero_le hn1.1
    obtain ⟨S, hS⟩ := Int.eq_ofNat_of_zero_le hsr'.1
    rw [hV0, hV1, hS] at hn
    simp only [Int.toNat_natCast] at hn
    have p32 : (2 : Nat) ^ 32 = 4294967296 := by decide
    -- the length's four bytes stay
    obtain ⟨s, hs⟩ : ∃ s, (if os = true then 32 else 64) + A = 32 + s := ⟨(if os = true then 0 else 32) + A, by cases os <;> simp <;> omega⟩
    rw [hs, Nat.pow_add, p32, Nat.mul_assoc] at hn
    have m0 := congrArg (fun z => z % 2 ^ 32) hn
    have d0 := congrArg (fun z => z / 2 ^ 32) hn
    try dsimp only at m0
    try dsimp only at d0
    rw [Nat.xor_mod_two_pow] at m0
    rw [xor_div] at d0
    rw [p32, Nat.mul_mod_right, Nat.xor_zero] at m0
    rw [p32, Nat.mul_div_cancel_left _ (show 0 < 4294967296 by decide)] at d0
    have hV0l : V0 = l.length := by omega
    have e1 : (V0 + 4294967296 * (V1 + 4294967296 * numB (kd :: r))) / 4294967296 = V1 + 4294967296 * numB (kd :: r) := by omega
    have e2 : ((l.length : Int).toNat + 4294967296 * (S + 4294967296 * numB (kind :: l))) / 4294967296 = S + 4294967296 * numB (kind :: l) := by omega
    rw [Int.toNat_natCast] at e2
    rw [e1, e2] at d0
    have m1 := congrArg (fun z => z % 2 ^ 32) d0
    have d1 := congrArg (fun z => z / 2 ^ 32) d0
    try dsimp only at m1
    try dsimp only at d1
    rw [Nat.xor_mod_two_pow, p32] at m1
    rw [xor_div, p32] at d1
    have e3 : (V1 + 4294967296 * numB (kd :: r)) % 4294967296 = V1 := by omega
    have e4 : (S + 4294967296 * numB (kind :: l)) % 4294967296 = S := by omega
    have e5 : (V1 + 4294967296 * numB (kd :: r)) / 4294967296 = numB (kd :: r) := by omega
    have e6 : (S + 4294967296 * numB (kind :: l)) / 4294967296 = numB (kind :: l) := by omega
    rw [e3, e4] at m1
    rw [e5, e6] at d1
    rw [openP_nine, hV0, if_neg (by omega), if_neg (by omega), Int.toNat_natCast, hV0l, ← hrl, List.take_length, hrl]
    have same : numB (kd :: r) = numB (kind :: l) → kd = kind ∧ r = l := fun h => by
      have h2 := numB_inj (kind :: l) (kd :: r) hkl hkr (by simp [hrl]) h
      injection h2 with h3 h4
      exact ⟨h3, h4⟩
    have ok : V1 = S → numB (kd :: r) = numB (kind :: l) → (if w4 e f g h ≠ sumOf kd r then ((0 : Int), ([] : List Int), (0 : Int), (12 : Int)) else if kd = 0 then (0, [], 0, 13) else (kd, r, 9 + ((l.length : Nat) : Int), 0)).2.2.2 = 0 ∧ (if w4 e f g h ≠ sumOf kd r then ((0 : Int), ([] : List Int), (0 : Int), (12 : Int)) else if kd = 0 then (0, [], 0, 13) else (kd, r, 9 + ((l.length : Nat) : Int), 0)).2.2.1 = l.length + 9 := fun h1 h2 => by
      obtain ⟨rfl, rfl⟩ := same h2
      rw [hV1, hS, h1, if_neg (fun hne => hne rfl), if_neg (by omega)]
      exact ⟨rfl, by show 9 + _ = _; omega⟩
    cases os with
    | true =>
      have hsA : s = A := by simp at hs; omega
      subst hsA
      have hlt := hA rfl
      have z1 : 2 ^ s * E % 4294967296 = 2 ^ s * E := Nat.mod_eq_of_lt hlt
      have z2 : 2 ^ s * E / 4294967296 = 0 := Nat.div_eq_of_lt hlt
      rw [z1] at m1
      rw [z2, Nat.xor_zero] at d1
      refine ⟨fun h0 => ok (by rw [m1, h0]; simp) d1, fun h0 => ?_⟩
      obtain ⟨rfl, rfl⟩ := same d1
      rw [if_pos]
      rw [hV1, hS]
      intro h1
      have h2 : V1 = S := by exact_mod_cast h1
      rw [m1] at h2
      have h3 := congrArg (fun z => S ^^^ z) h2
      simp only [← Nat.xor_assoc, Nat.xor_self, Nat.zero_xor] at h3
      have h4 : 2 ^ s * E ≠ 0 := Nat.mul_ne_zero (Nat.ne_of_gt (Nat.pow_pos (by decide))) h0
      exact h4 h3
    | false =>
      have hsA : s = 32 + A := by simp at hs; omega
      subst hsA
      rw [Nat.pow_add, p32, Nat.mul_assoc] at m1 d1
      rw [Nat.mul_mod_right, Nat.xor_zero] at m1
      rw [Nat.mul_div_cancel_left _ (show 0 < 4294967296 by decide)] at d1
      refine ⟨fun h0 => ok m1 (by rw [d1, h0]; simp), fun h0 => ?_⟩
      rw [if_pos]
      rw [hV1, m1, ← hS, sumOf_run kind l, sumOf_run kd r, hrl]
      intro h1
      exact crc_burst (kind :: l) (kd :: r) _ A E hkl hkr (by simp [hrl]) h0 hE (by simpa using hA2 rfl) d1 h1.symm
  · omega
end Go.Proofs.YtdlfhpkkkhfhdaaDoor.Hand
