/- FrameTexts: the plain law; joined with the walk. -/
import Derived.Test.YtdlfhpkkkhfhdaaHNumPure
import Derived.Test.YtdlfhpkkkhfhdaaHNumbersM
import Derived.Test.YtdlfhpkkkhfhdaaHTextsW
import Derived.Test.YtdlfhpkkkhfhdaaHOpens
import Derived.OpenShut
namespace Go.Proofs.Ytdlfhpkkkhfhdaa.Hand
set_option linter.unusedVariables false
set_option linter.unusedSimpArgs false
open Go.RowKit Go.Proofs.YtdlfhpkkkhfhdaaW.PrintWords Go.Proofs.YtdlfhpkkkhfhdaaW.PrintLast Go.Proofs.YtdlfhpkkkhfhdaaW.PrintMore Go.Proofs.Ytdlfhpkkkhfhdaa.Q

/-- What was read is where it may be. -/
theorem uintP_range (l : List Int) : ∀ (i : Nat) (n : Int), (∀ x ∈ l, 0 ≤ x ∧ x ≤ 255) → i ≤ 9 → 0 ≤ n → n < 128 ^ i → (uintP l i n).2.2 = 0 → 0 ≤ (uintP l i n).1 ∧ (uintP l i n).1 < 18446744073709551616 ∧ (i : Int) + 1 ≤ (uintP l i n).2.1 ∧ (uintP l i n).2.1 ≤ i + l.length := by
  induction l with
  | nil => intro i n _ _ _ _ h; simp [uintP] at h
  | cons x r ih =>
    intro i n hw hi h0 h1 h
    have hx := hw x (by simp)
    rw [uintP_cons] at h ⊢
    by_cases h9 : i = 9 ∧ x > 1
    · rw [if_pos h9] at h; simp at h
    · rw [if_neg h9] at h ⊢
      by_cases hz : i > 0 ∧ x = 0
      · rw [if_pos hz] at h; simp at h
      · rw [if_neg hz] at h ⊢
        have e := seven_or x i n hi hx.1 hx.2 h9 h0 h1
        have hb := next_lt x i n h0 h1
        by_cases h8 : x < 128
        · rw [if_pos h8] at h ⊢
          refine ⟨hb.1, e.2, ?_, ?_⟩
          · show (i : Int) + 1 ≤ (i : Int) + 1
            exact Int.le_refl _
          · show (i : Int) + 1 ≤ (i : Int) + ((r.length + 1 : Nat) : Int)
            omega
        · rw [if_neg h8] at h ⊢
          have := ih (i + 1) _ (fun y hy => hw y (by simp [hy])) (not_nine x i hi h9 h8) hb.1 hb.2 h
          refine ⟨this.1, this.2.1, ?_, ?_⟩
          · have := this.2.2.1; push_cast at this; omega
          · have := this.2.2.2
            rw [List.length_cons]
            push_cast at this ⊢
            omega

/-- The reading of a text, by definition. -/
def textP (l : List Int) (most : Int) : ByteArray × Int × Int :=
  if most < 0 then (⟨#[]⟩, 0, 2) else if (uintP l 0 0).2.2 = 0 then (if (uintP l 0 0).1 > most then (⟨#[]⟩, 0, 1) else if (uintP l 0 0).1 > (l.length : Int) - (uintP l 0 0).2.1 then (⟨#[]⟩, 0, 3)
    else (strOfNums ((l.take ((uintP l 0 0).2.1 + (uintP l 0 0).1).toNat).drop (uintP l 0 0).2.1.toNat), (uintP l 0 0).2.1 + (uintP l 0 0).1, 0)) else (⟨#[]⟩, 0, (uintP l 0 0).2.2)
theorem text_tail (l : List Int) (most : Int) (hl : l.length ≤ 100000000) (hw : ∀ x ∈ l, 0 ≤ x ∧ x ≤ 255) (hm : most ≤ 9223372036854775807) (h0 : ¬ most < 0) :
    (if (uintP l 0 0).2.2 = 0 then (if (uintP l 0 0).1 > (IntKind.u64.wrap most) then (some ((⟨#[]⟩ : ByteArray), (0 : Int), (1 : Int))) else (if (uintP l 0 0).1 > (IntKind.u64.wrap (wrap64 ((l.length : Int) - (uintP l 0 0).2.1))) then (some ((⟨#[]⟩ : ByteArray), 0, 3)) else (if 0 ≤ (uintP l 0 0).2.1 then (if (uintP l 0 0).2.1 ≤ (wrap64 ((uintP l 0 0).2.1 + (wrap64 ((uintP l 0 0).1)))) then (if (wrap64 ((uintP l 0 0).2.1 + (wrap64 ((uintP l 0 0).1)))) ≤ (l.length : Int) then (some (strOfNums ((l.take ((wrap64 ((uintP l 0 0).2.1 + (wrap64 ((uintP l 0 0).1)))) : Int).toNat).drop ((uintP l 0 0).2.1 : Int).toNat), wrap64 ((uintP l 0 0).2.1 + (wrap64 ((uintP l 0 0).1))), 0)) else (none)) else (none)) else (none)))) else (some ((⟨#[]⟩ : ByteArray), 0, (uintP l 0 0).2.2))) = some (textP l most) := by
  unfold textP
  rw [if_neg h0]
  by_cases hz : (uintP l 0 0).2.2 = 0
  · rw [if_pos hz, if_pos hz]
    have hr := uintP_range l 0 0 hw (by decide) (by decide) (by decide) hz
    generalize uintP l 0 0 = u at hr hz
    obtain ⟨n, k, e⟩ := u
    simp only at hr hz ⊢
    have e1 : IntKind.u64.wrap most = most := by rw [IntKind.wrap_u64]; omega
    have e2 : wrap64 ((l.length : Int) - k) = (l.length : Int) - k := w64 (by omega) (by omega)
    have e3 : IntKind.u64.wrap ((l.length : Int) - k) = (l.length : Int) - k := by rw [IntKind.wrap_u64]; omega
    rw [e1, e2, e3]
    by_cases h1 : n > most
    · rw [if_pos h1, if_pos h1]
    · rw [if_neg h1, if_neg h1]
      by_cases h2 : n > (l.length : Int) - k
      · rw [if_pos h2, if_pos h2]
      · rw [if_neg h2, if_neg h2]
        have e4 : wrap64 n = n := w64 (by omega) (by omega)
        have e5 : wrap64 (k + n) = k + n := w64 (by omega) (by omega)
        rw [e4, e5, if_pos (by omega), if_pos (by omega), if_pos (by omega)]
  · rw [if_neg hz, if_neg hz]
theorem frameText_ev (l : List Int) (most : Int) (hl : l.length ≤ 100000000) (hw : ∀ x ∈ l, 0 ≤ x ∧ x ≤ 255) (hm : most ≤ 9223372036854775807) : Ev (fun k => frame_Text.f k l most) (textP l most) := by
  unfold frame_Text.f
  by_cases h0 : most < 0
  · simp only [h0, ↓reduceIte]
    have e : textP l most = (⟨#[]⟩, 0, 2) := by unfold textP; rw [if_pos h0]
    rw [e]
    exact Ev.now _
  · simp only [h0, ↓reduceIte]
    refine (frameUint_ev l (by omega) hw).bind ?_
    have h := text_tail l most hl hw hm h0
    exact ⟨0, fun _ _ => h⟩
theorem refText_ev (l : List Int) (most : Int) (hl : l.length ≤ 100000000) (hw : ∀ x ∈ l, 0 ≤ x ∧ x ≤ 255) (hm : most ≤ 9223372036854775807) : Ev (fun k => wicketref01_Text.f k l most) (textP l most) := by
  unfold wicketref01_Text.f
  by_cases h0 : most < 0
  · simp only [h0, ↓reduceIte]
    have e : textP l most = (⟨#[]⟩, 0, 2) := by unfold textP; rw [if_pos h0]
    rw [e]
    exact Ev.now _
  · simp only [h0, ↓reduceIte]
    refine (refUint_ev l (by omega) hw).bind ?_
    have h := text_tail l most hl hw hm h0
    exact ⟨0, fun _ _ => h⟩
theorem framePutText_f (l : List Int) (s : ByteArray) (hl : l.length ≤ 100000000) (hs : s.size ≤ 100000000) : frame_PutText.f l s = some (l ++ uvI s.size ++ bytesOf s) := by
  have e : IntKind.u64.wrap (s.size : Int) = s.size := by rw [IntKind.wrap_u64]; omega
  have hu := uvI_len 9 (s.size : Int) (by omega)
  unfold frame_PutText.f
  rw [e, framePutUint_f l _ hl (by omega)]
  simp only [Option.bind_some]
  rw [if_pos (by rw [List.length_append]; omega)]
theorem frameTexts_machine (W : World) (A0 : Option Addr) (c0 : Nat) (l0 : List Int) (hr0 : (Kd.int .u8).C W A0 l0.length l0) (hc0 : l0.length ≤ c0) (hw0 : ∀ x ∈ l0, (Lit.int .u8 x).wf = true) (hb0 : (l0.map fun _ => 1).sum + 1 ≤ 1048576) (s1 : ByteArray) (b1 : s1.size ≤ 1048576) (a2 : Int) (w2 : (Lit.int .i64 a2).wf = true) :
    Calls Try.prog 4 #[.slice A0 l0.length c0, .string s1, .int .i64 a2] W fun e w' => e = .returned (.bool true) ∧ Below W.heap.size W w' := by
  rw [sum_ones] at hb0
  have hk := bounds_i64 w2
  have hw := bytesN_wf hw0
  obtain ⟨K1, h1⟩ := lent_ev l0 (by omega)
  obtain ⟨K2, h2⟩ := kept_ev l0 (by omega)
  obtain ⟨K3, h3⟩ := refPutUint_ev l0 (s1.size : Int) (by omega) (by omega) (by omega)
  obtain ⟨K5, h5⟩ := frameText_ev l0 a2 (by omega) hw (by omega)
  obtain ⟨K6, h6⟩ := refText_ev l0 a2 (by omega) hw (by omega)
  have n1 := uvI_len 9 (s1.size : Int) (by omega)
  have n2 := bytesOf_length s1
  exact wicketlaw01_FrameTexts.walk (K1 + K2 + K3 + K5 + K6) A0 c0 l0 (l0 ++ marks) (l0 ++ uvI s1.size ++ bytesOf s1) (l0 ++ uvI s1.size) s1 (textP l0 a2).1 a2 (textP l0 a2).2.1 (textP l0 a2).2.2 W hr0 hc0 (by omega) (h1 _ (by omega)) (List.take_left) (by rw [List.length_append, marks_length]; omega)
    (framePutText_f l0 s1 (by omega) (by omega)) (h3 _ (by omega)) (joinedN_f _ _ (by rw [List.length_append]; omega)) (same_ev _) (h2 _ (by omega)) (h5 _ (by omega)) (h6 _ (by omega)) rfl (by rw [List.length_append, List.length_append]; omega)
end Go.Proofs.Ytdlfhpkkkhfhdaa.Hand
