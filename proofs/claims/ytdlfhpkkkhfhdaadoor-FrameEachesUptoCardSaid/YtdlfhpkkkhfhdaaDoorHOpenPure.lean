/- What Open reads: the program's and the document's are one. -/
import Derived.Test.YtdlfhpkkkhfhdaaDoorHSealPure
import Derived.Laws.BitsAllLaws
namespace Go.Proofs.YtdlfhpkkkhfhdaaDoor.Hand
open Go.RowKit Go.Proofs.YtdlfhpkkkhfhdaaDoorW.PrintWords Go.Proofs.YtdlfhpkkkhfhdaaDoorW.PrintLast Go.Proofs.YtdlfhpkkkhfhdaaDoorW.PrintMore Go.Proofs.YtdlfhpkkkhfhdaaDoor.Q
set_option linter.unusedVariables false
set_option linter.unusedSimpArgs false

def w4 (a b c d : Int) : Int := a + b * 256 + c * 65536 + d * 16777216
theorem fourI_w4 (a b c d : Int) (ha : 0 ≤ a ∧ a ≤ 255) (hb : 0 ≤ b ∧ b ≤ 255) (hc : 0 ≤ c ∧ c ≤ 255) (hd : 0 ≤ d ∧ d ≤ 255) : fourI (w4 a b c d) = [a, b, c, d] := by
  unfold fourI w4
  have e1 : (a + b * 256 + c * 65536 + d * 16777216) % 256 = a := by omega
  have e2 : (a + b * 256 + c * 65536 + d * 16777216) / 256 % 256 = b := by omega
  have e3 : (a + b * 256 + c * 65536 + d * 16777216) / 65536 % 256 = c := by omega
  have e4 : (a + b * 256 + c * 65536 + d * 16777216) / 16777216 % 256 = d := by omega
  rw [e1, e2, e3, e4]
theorem w4_fourI (n : Int) (h0 : 0 ≤ n) (h1 : n < 4294967296) : w4 (n % 256) (n / 256 % 256) (n / 65536 % 256) (n / 16777216 % 256) = n := by
  unfold w4
  omega
theorem or_four (a b c d : Int) (ha : 0 ≤ a ∧ a ≤ 255) (hb : 0 ≤ b ∧ b ≤ 255) (hc : 0 ≤ c ∧ c ≤ 255) (hd : 0 ≤ d ∧ d ≤ 255) :
    Go.bits .or .u32 (Go.bits .or .u32 (Go.bits .or .u32 (a % 4294967296) (b % 4294967296 * 256 % 4294967296)) (c % 4294967296 * 65536 % 4294967296)) (d % 4294967296 * 16777216 % 4294967296) = w4 a b c d := by
  obtain ⟨a, rfl⟩ := Int.eq_ofNat_of_zero_le ha.1
  obtain ⟨b, rfl⟩ := Int.eq_ofNat_of_zero_le hb.1
  obtain ⟨c, rfl⟩ := Int.eq_ofNat_of_zero_le hc.1
  obtain ⟨d, rfl⟩ := Int.eq_ofNat_of_zero_le hd.1
  have e1 : (a : Int) % 4294967296 = (a : Nat) := by omega
  have e2 : (b : Int) % 4294967296 * 256 % 4294967296 = ((b * 256 : Nat) : Int) := by omega
  have e3 : (c : Int) % 4294967296 * 65536 % 4294967296 = ((c * 65536 : Nat) : Int) := by omega
  have e4 : (d : Int) % 4294967296 * 16777216 % 4294967296 = ((d * 16777216 : Nat) : Int) := by omega
  have j1 : a ||| b * 256 = b * 256 + a := by rw [Nat.or_comm]; exact nat_join 8 _ _ (by omega) (by omega)
  have j2 : (b * 256 + a) ||| c * 65536 = c * 65536 + (b * 256 + a) := by rw [Nat.or_comm]; exact nat_join 16 _ _ (by omega) (by omega)
  have j3 : (c * 65536 + (b * 256 + a)) ||| d * 16777216 = d * 16777216 + (c * 65536 + (b * 256 + a)) := by rw [Nat.or_comm]; exact nat_join 24 _ _ (by omega) (by omega)
  rw [e1, e2, e3, e4, u32_or_nat a (b * 256) (by omega) (by omega), j1, u32_or_nat (b * 256 + a) (c * 65536) (by omega) (by omega), j2, u32_or_nat _ (d * 16777216) (by omega) (by omega), j3]
  unfold w4
  omega
theorem word_f (a b c d : Int) (r : List Int) (ha : 0 ≤ a ∧ a ≤ 255) (hb : 0 ≤ b ∧ b ≤ 255) (hc : 0 ≤ c ∧ c ≤ 255) (hd : 0 ≤ d ∧ d ≤ 255) : frame_word.f (a :: b :: c :: d :: r) = some (w4 a b c d) := by
  unfold frame_word.f
  have e0 : rd (a :: b :: c :: d :: r) 0 = a := rfl
  have e1 : rd (a :: b :: c :: d :: r) 1 = b := rfl
  have e2 : rd (a :: b :: c :: d :: r) 2 = c := rfl
  have e3 : rd (a :: b :: c :: d :: r) 3 = d := rfl
  have hl : ((a :: b :: c :: d :: r).length : Int) = r.length + 4 := by simp; omega
  rw [hl, if_pos (by omega), if_pos (by omega), if_pos (by omega), if_pos (by omega), e0, e1, e2, e3, or_four a b c d ha hb hc hd]
theorem refNumber_ev (a b c d : Int) (r : List Int) (ha : 0 ≤ a ∧ a ≤ 255) (hb : 0 ≤ b ∧ b ≤ 255) (hc : 0 ≤ c ∧ c ≤ 255) (hd : 0 ≤ d ∧ d ≤ 255) : Ev (fun k => wicketref01_number.f k (a :: b :: c :: d :: r)) (w4 a b c d) := by
  have e0 : rd (a :: b :: c :: d :: r) 0 = a := rfl
  have e1 : rd (a :: b :: c :: d :: r) 1 = b := rfl
  have e2 : rd (a :: b :: c :: d :: r) 2 = c := rfl
  have e3 : rd (a :: b :: c :: d :: r) 3 = d := rfl
  obtain ⟨L, hL⟩ : ∃ L, L = a :: b :: c :: d :: r := ⟨_, rfl⟩
  have hl : (L.length : Int) = r.length + 4 := by rw [hL]; simp; omega
  rw [← hL] at e0 e1 e2 e3 ⊢
  have l0 : (0 : Int) < (L.length : Int) := by omega
  have l1 : (1 : Int) < (L.length : Int) := by omega
  have l2 : (2 : Int) < (L.length : Int) := by omega
  have l3 : (3 : Int) < (L.length : Int) := by omega
  have s3 : wrap64 (3 - 1) = 2 := by rw [w64 (by omega) (by omega)]; rfl
  have s2 : wrap64 (2 - 1) = 1 := by rw [w64 (by omega) (by omega)]; rfl
  have s1 : wrap64 (1 - 1) = 0 := by rw [w64 (by omega) (by omega)]; rfl
  have s0 : wrap64 (0 - 1) = -1 := by rw [w64 (by omega) (by omega)]; rfl
  have g3 : (3 : Int) ≥ 0 := by decide
  have g2 : (2 : Int) ≥ 0 := by decide
  have g1 : (1 : Int) ≥ 0 := by decide
  have g0 : (0 : Int) ≥ 0 := by decide
  have gm : ¬ (-1 : Int) ≥ 0 := by decide
  have g3' : (0 : Int) ≤ 3 := by decide
  have g2' : (0 : Int) ≤ 2 := by decide
  have g1' : (0 : Int) ≤ 1 := by decide
  have g0' : (0 : Int) ≤ 0 := by decide
  unfold wicketref01_number.f
  refine ev_next ?_
  simp only [wicketref01_number.l0, g3, g3', l3, e3, s3, ↓reduceIte]
  refine ev_next ?_
  simp only [wicketref01_number.l0, g2, g2', l2, e2, s2, ↓reduceIte]
  refine ev_next ?_
  simp only [wicketref01_number.l0, g1, g1', l1, e1, s1, ↓reduceIte]
  refine ev_next ?_
  simp only [wicketref01_number.l0, g0, g0', l0, e0, s0, ↓reduceIte]
  refine ev_next ?_
  simp only [wicketref01_number.l0, gm, ↓reduceIte]
  have e : (((((0 * 256 % 4294967296 + d % 4294967296) % 4294967296) * 256 % 4294967296 + c % 4294967296) % 4294967296 * 256 % 4294967296 + b % 4294967296) % 4294967296 * 256 % 4294967296 + a % 4294967296) % 4294967296 = w4 a b c d := by
    unfold w4
    omega
  rw [e]
  exact Ev.now _

/-- Nine bytes and what stands behind. -/
def openP : List Int → Int × List Int × Int × Int
  | a :: b :: c :: d :: e :: f :: g :: h :: kd :: r =>
    if w4 a b c d > 2097152 then (0, [], 0, 1) else if (r.length : Int) < w4 a b c d then (0, [], 0, 3)
    else if w4 e f g h ≠ sumOf kd (r.take (w4 a b c d).toNat) then (0, [], 0, 12) else if kd = 0 then (0, [], 0, 13) else (kd, r.take (w4 a b c d).toNat, 9 + w4 a b c d, 0)
  | _ => (0, [], 0, 3)
theorem openP_nine (a b c d e f g h kd : Int) (r : List Int) : openP (a :: b :: c :: d :: e :: f :: g :: h :: kd :: r) = if w4 a b c d > 2097152 then (0, [], 0, 1) else if (r.length : Int) < w4 a b c d then (0, [], 0, 3)
    else if w4 e f g h ≠ sumOf kd (r.take (w4 a b c d).toNat) then (0, [], 0, 12) else if kd = 0 then (0, [], 0, 13) else (kd, r.take (w4 a b c d).toNat, 9 + w4 a b c d, 0) := rfl
theorem nine_or (l : List Int) : (∃ a b c d e f g h kd r, l = a :: b :: c :: d :: e :: f :: g :: h :: kd :: r) ∨ (l.length < 9 ∧ openP l = (0, [], 0, 3)) := by
  match l with
  | [] => exact .inr ⟨by decide, rfl⟩
  | [_] => exact .inr ⟨by simp, rfl⟩
  | [_, _] => exact .inr ⟨by simp, rfl⟩
  | [_, _, _] => exact .inr ⟨by simp, rfl⟩
  | [_, _, _, _] => exact .inr ⟨by simp, rfl⟩
  | [_, _, _, _, _] => exact .inr ⟨by simp, rfl⟩
  | [_, _, _, _, _, _] => exact .inr ⟨by simp, rfl⟩
  | [_, _, _, _, _, _, _] => exact .inr ⟨by simp, rfl⟩
  | [_, _, _, _, _, _, _, _] => exact .inr ⟨by simp, rfl⟩
  | a :: b :: c :: d :: e :: f :: g :: h :: kd :: r => exact .inl ⟨a, b, c, d, e, f, g, h, kd, r, rfl⟩

theorem w4_range (a b c d : Int) (ha : 0 ≤ a ∧ a ≤ 255) (hb : 0 ≤ b ∧ b ≤ 255) (hc : 0 ≤ c ∧ c ≤ 255) (hd : 0 ≤ d ∧ d ≤ 255) : 0 ≤ w4 a b c d ∧ w4 a b c d < 4294967296 := by unfold w4; omega
theorem take_nine (a b c d e f g h kd : Int) (r : List Int) (N : Nat) : (a :: b :: c :: d :: e :: f :: g :: h :: kd :: r).take (N + 9) = a :: b :: c :: d :: e :: f :: g :: h :: kd :: r.take N := rfl
theorem sum_kind (a b c d kd : Int) (l : List Int) (ha : 0 ≤ a ∧ a ≤ 255) (hb : 0 ≤ b ∧ b ≤ 255) (hc : 0 ≤ c ∧ c ≤ 255) (hd : 0 ≤ d ∧ d ≤ 255) (hl : (l.length : Int) = w4 a b c d) : crcRun (crcRun 0 [a, b, c, d]) (kd :: l) = sumOf kd l := by
  unfold sumOf
  rw [hl, fourI_w4 a b c d ha hb hc hd, crcRun_append (crcRun 0 [a, b, c, d]) [kd] l]
  rfl
theorem frameOpen_f (l : List Int) (hl : l.length ≤ 100000000) (hw : Bytes l) : frame_Open.f l = some (openP l) := by
  rcases nine_or l with ⟨a, b, c, d, e, f, g, h, kd, r, rfl⟩ | ⟨hs, he⟩
  · have ha := hw a (by simp)
    have hb := hw b (by simp)
    have hc := hw c (by simp)
    have hd := hw d (by simp)
    have hee := hw e (by simp)
    have hf := hw f (by simp)
    have hg := hw g (by simp)
    have hh := hw h (by simp)
    have hn := w4_range a b c d ha hb hc hd
    have hlen : ((a :: b :: c :: d :: e :: f :: g :: h :: kd :: r).length : Int) = r.length + 9 := by simp; omega
    have hrl : (r.length : Int) ≤ 100000000 := by omega
    have hrd : rd (a :: b :: c :: d :: e :: f :: g :: h :: kd :: r) 8 = kd := rfl
    unfold frame_Open.f frame_size.f
    rw [hlen, if_neg (by omega), word_f a b c d _ ha hb hc hd]
    simp only [Option.bind_some]
    rw [openP_nine]
    by_cases h1 : w4 a b c d > 2097152
    · rw [if_pos h1, if_pos h1]; rfl
    · rw [if_neg h1, if_neg h1, w64 (x := w4 a b c d) (by omega) (by omega), w64 (by omega) (by omega)]
      by_cases h2 : (r.length : Int) < w4 a b c d
      · rw [if_pos (by omega), if_pos h2]; rfl
      · rw [if_neg (by omega), if_neg h2, if_pos (by omega)]
        obtain ⟨N, hN⟩ := Int.eq_ofNat_of_zero_le hn.1
        have eN : (9 + w4 a b c d).toNat = N + 9 := by omega
        have eN2 : (w4 a b c d).toNat = N := by omega
        have htl : (r.take N).length = N := by rw [List.length_take]; omega
        rw [show (a :: b :: c :: d :: e :: f :: g :: h :: kd :: r).drop 4 = e :: f :: g :: h :: kd :: r from rfl, word_f e f g h _ hee hf hg hh]
        simp only [Option.bind_some]
        rw [if_pos (by omega), if_pos (by omega), eN, eN2, take_nine]
        rw [show (a :: b :: c :: d :: e :: f :: g :: h :: kd :: r.take N).drop 8 = kd :: r.take N from rfl, show (a :: b :: c :: d :: e :: f :: g :: h :: kd :: r).take 4 = [a, b, c, d] from rfl, sum_f, sum_kind a b c d kd _ ha hb hc hd (by rw [htl]; omega)]
        simp only [Option.bind_some]
        by_cases h3 : w4 e f g h = sumOf kd (r.take N)
        · rw [if_pos h3, if_pos (show (8 : Int) < (r.length : Int) + 9 by omega), hrd, if_neg (show ¬ (w4 e f g h ≠ sumOf kd (r.take N)) from fun hne => hne h3)]
          by_cases h4 : kd = 0
          · rw [if_pos h4, if_pos h4]; rfl
          · rw [if_neg h4, if_neg h4]
            simp only [Option.bind_some, ↓reduceIte]
            rw [if_pos (by omega), if_pos (by omega), eN, take_nine, show (a :: b :: c :: d :: e :: f :: g :: h :: kd :: r.take N).drop 9 = r.take N from rfl, if_pos (by omega), if_pos (by rw [Int.toNat_natCast, htl]; omega), if_pos (by omega)]
            simp only [Option.bind_some, Int.toNat_natCast, List.length_replicate, Nat.min_self, List.take_length]
            rw [List.drop_of_length_le (by rw [List.length_replicate]; omega), List.append_nil]
        · rw [if_neg h3, if_pos h3]; rfl
  · rw [he]
    unfold frame_Open.f frame_size.f
    rw [if_pos (by omega)]
    rfl
/-- The document's: where it begins, too (nought). -/
theorem refOpen_ev (l : List Int) (hl : l.length ≤ 100000000) (hw : Bytes l) : Ev (fun k => wicketref01_Open.f k l) ((openP l).1, (openP l).2.1, 0, (openP l).2.2.1, (openP l).2.2.2) := by
  rcases nine_or l with ⟨a, b, c, d, e, f, g, h, kd, r, rfl⟩ | ⟨hs, he⟩
  · have ha := hw a (by simp)
    have hb := hw b (by simp)
    have hc := hw c (by simp)
    have hd := hw d (by simp)
    have hee := hw e (by simp)
    have hf := hw f (by simp)
    have hg := hw g (by simp)
    have hh := hw h (by simp)
    have hkd := hw kd (by simp)
    have hwr : Bytes r := fun x hx => hw x (by simp [hx])
    have hn := w4_range a b c d ha hb hc hd
    have hlen : ((a :: b :: c :: d :: e :: f :: g :: h :: kd :: r).length : Int) = r.length + 9 := by simp; omega
    have hrl : (r.length : Int) ≤ 100000000 := by omega
    have hrd : rd (a :: b :: c :: d :: e :: f :: g :: h :: kd :: r) 8 = kd := rfl
    have n0 : ¬ (r.length : Int) + 9 < 9 := by omega
    unfold wicketref01_Open.f
    simp only [hlen, n0, ↓reduceIte]
    refine (refNumber_ev a b c d _ ha hb hc hd).bind ?_
    rw [openP_nine]
    by_cases h1 : w4 a b c d > 2097152
    · simp only [h1, ↓reduceIte]
      exact Ev.now _
    · have s1 : wrap64 (w4 a b c d) = w4 a b c d := w64 (by omega) (by omega)
      have s2 : wrap64 (9 + w4 a b c d) = 9 + w4 a b c d := w64 (by omega) (by omega)
      simp only [h1, s1, s2, ↓reduceIte]
      by_cases h2 : (r.length : Int) < w4 a b c d
      · have h2' : (r.length : Int) + 9 < 9 + w4 a b c d := by omega
        simp only [h2, h2', ↓reduceIte]
        exact Ev.now _
      · have h2' : ¬ (r.length : Int) + 9 < 9 + w4 a b c d := by omega
        obtain ⟨N, hN⟩ := Int.eq_ofNat_of_zero_le hn.1
        have eN : (9 + w4 a b c d).toNat = N + 9 := by omega
        have eN2 : (w4 a b c d).toNat = N := by omega
        have htl : (r.take N).length = N := by rw [List.length_take]; omega
        have g1 : (9 : Int) ≤ 9 + w4 a b c d := by omega
        have g2 : 9 + w4 a b c d ≤ (r.length : Int) + 9 := by omega
        have g3 : (4 : Int) ≤ (r.length : Int) + 9 := by omega
        have g4 : (8 : Int) < (r.length : Int) + 9 := by omega
        have hj := joined_f [] (r.take N) (by rw [htl]; simp; omega)
        rw [List.nil_append] at hj
        have d9 : (a :: b :: c :: d :: e :: f :: g :: h :: kd :: r.take N).drop 9 = r.take N := rfl
        have d4 : (a :: b :: c :: d :: e :: f :: g :: h :: kd :: r).drop 4 = e :: f :: g :: h :: kd :: r := rfl
        simp only [h2, h2', g1, g2, g3, g4, eN, eN2, take_nine, d9, d4, hj, hrd, Option.bind_some, ↓reduceIte]
        refine (refNumber_ev e f g h _ hee hf hg hh).bind ?_
        refine (refSum_ev kd (r.take N) hkd (by rw [htl]; omega) (fun x hx => hwr x (List.mem_of_mem_take hx))).bind ?_
        by_cases h3 : w4 e f g h = sumOf kd (r.take N)
        · by_cases h4 : kd = 0
          · simp only [h3, h4, ne_eq, not_true, ↓reduceIte]
            exact Ev.now _
          · simp only [h3, h4, ne_eq, not_true, ↓reduceIte]
            exact Ev.now _
        · simp only [h3, ne_eq, not_false_eq_true, ↓reduceIte]
          exact Ev.now _
  · rw [he]
    unfold wicketref01_Open.f
    have n0 : (l.length : Int) < 9 := by omega
    simp only [n0, ↓reduceIte]
    exact Ev.now _
theorem openP_length (l : List Int) (n : Nat) (hl : l.length ≤ n) : (openP l).2.1.length ≤ n := by
  rcases nine_or l with ⟨a, b, c, d, e, f, g, h, kd, r, rfl⟩ | ⟨hs, he⟩
  · rw [openP_nine]
    simp only [List.length_cons] at hl
    split
    · simp
    · split
      · simp
      · split
        · simp
        · split
          · simp
          · simp only [List.length_take]; omega
  · rw [he]; simp
end Go.Proofs.YtdlfhpkkkhfhdaaDoor.Hand
