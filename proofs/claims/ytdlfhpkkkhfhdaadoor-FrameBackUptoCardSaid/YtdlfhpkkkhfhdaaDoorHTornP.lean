/- FrameTorn, FrameBack: a file of frames, gone over: the plain law. -/
import Derived.Test.YtdlfhpkkkhfhdaaDoorHMadeW
import Derived.Test.YtdlfhpkkkhfhdaaDoorHOpenPure
import Derived.Test.YtdlfhpkkkhfhdaaDoorHSumsM
namespace Go.Proofs.YtdlfhpkkkhfhdaaDoor.Hand
open Go.RowKit Go.Proofs.YtdlfhpkkkhfhdaaDoorW.PrintWords Go.Proofs.YtdlfhpkkkhfhdaaDoorW.PrintLast Go.Proofs.YtdlfhpkkkhfhdaaDoorW.PrintMore Go.Proofs.YtdlfhpkkkhfhdaaDoor.Q
set_option linter.unusedVariables false
set_option linter.unusedSimpArgs false

theorem w4_of' {n : Int} {a b c d : Int} (h : fourI n = [a, b, c, d]) (h0 : 0 ≤ n) (h1 : n < 4294967296) : w4 a b c d = n := by
  unfold fourI at h
  simp only [List.cons.injEq, and_true] at h
  obtain ⟨rfl, rfl, rfl, rfl⟩ := h
  exact w4_fourI n h0 h1
theorem sealOf_nine' (kind : Int) (l : List Int) : ∃ a b c d e f g h, sealOf kind l = a :: b :: c :: d :: e :: f :: g :: h :: kind :: l ∧ fourI l.length = [a, b, c, d] ∧ fourI (sumOf kind l) = [e, f, g, h] := ⟨_, _, _, _, _, _, _, _, rfl, rfl, rfl⟩
theorem openP_seal (kd : Int) (l rest : List Int) (hk : kd ≠ 0) (hl : l.length ≤ 2097152) (hs : 0 ≤ sumOf kd l ∧ sumOf kd l < 4294967296) : openP (sealOf kd l ++ rest) = (kd, l, (l.length : Int) + 9, 0) := by
  obtain ⟨a, b, c, d, e, f, g, h, hX, h1, h2⟩ := sealOf_nine' kd l
  rw [hX]
  have e1 := w4_of' h1 (by omega) (by omega)
  have e2 := w4_of' h2 hs.1 hs.2
  show openP (a :: b :: c :: d :: e :: f :: g :: h :: kd :: (l ++ rest)) = _
  rw [openP_nine, e1, e2, if_neg (by omega), if_neg (by rw [List.length_append]; omega)]
  have e3 : (l ++ rest).take ((l.length : Int)).toNat = l := by rw [Int.toNat_natCast]; exact List.take_left
  rw [e3, if_neg (by simp), if_neg hk]
  exact Prod.ext rfl (Prod.ext rfl (Prod.ext (Int.add_comm _ _) rfl))
theorem openP_torn (kd : Int) (l : List Int) (C : Nat) (hl : l.length ≤ 2097152) (h2 : C < l.length + 9) : (openP ((sealOf kd l).take C)).2.2.2 = 3 := by
  obtain ⟨a, b, c, d, e, f, g, h, hX, h1, _⟩ := sealOf_nine' kd l
  have e1 := w4_of' h1 (by omega) (by omega)
  by_cases h9 : C < 9
  · rcases nine_or ((sealOf kd l).take C) with ⟨a', b', c', d', e', f', g', hh', kd', r', hr⟩ | ⟨_, he⟩
    · have := congrArg List.length hr
      rw [List.length_take] at this
      simp only [List.length_cons] at this
      omega
    · rw [he]
  · obtain ⟨N, rfl⟩ : ∃ N, C = N + 9 := ⟨C - 9, by omega⟩
    rw [hX, take_nine, openP_nine, e1, if_neg (by omega), if_pos (by rw [List.length_take]; omega)]
/-- What is left of the file. -/
def tailN (KL : List Int) (TL : List ByteArray) : Nat → Nat → List Int
  | _, 0 => []
  | i, d + 1 => (if kdN KL i = 0 ∨ (txN TL i).size > 2097152 then [] else sealOf (kdN KL i) (bytesOf (txN TL i))) ++ tailN KL TL (i + 1) d
theorem fileN_add (KL : List Int) (TL : List ByteArray) (d : Nat) : ∀ i, fileN KL TL (i + d) = fileN KL TL i ++ tailN KL TL i d := by
  induction d with
  | zero => intro i; simp [tailN]
  | succ d ih =>
    intro i
    have h := ih (i + 1)
    rw [show i + 1 + d = i + (d + 1) by omega] at h
    rw [h, tailN]
    by_cases hs : kdN KL i = 0 ∨ (txN TL i).size > 2097152
    · rw [if_pos hs, (fileN_skip hs).1, List.nil_append]
    · rw [if_neg hs, (fileN_next hs).1, List.append_assoc]
/-- The frames of the first places. -/
def framesN (KL : List Int) (TL : List ByteArray) : Nat → List S40
  | 0 => []
  | i + 1 => if kdN KL i = 0 ∨ (txN TL i).size > 2097152 then framesN KL TL i else framesN KL TL i ++ [⟨kdN KL i, bytesOf (txN TL i)⟩]
theorem framesN_length (KL : List Int) (TL : List ByteArray) : ∀ i, (framesN KL TL i).length = cntN KL TL i
  | 0 => rfl
  | i + 1 => by
    have := framesN_length KL TL i
    rw [framesN, cntN]
    split
    · exact this
    · rw [List.length_append, this]; rfl
theorem sumOf_range (kd : Int) (l : List Int) : 0 ≤ sumOf kd l ∧ sumOf kd l < 4294967296 := crcRun_range _ _
theorem scan_file (KL : List Int) (TL : List ByteArray) (rest : List Int) (E : Int) (M : Nat) (hM : M ≤ 100000000) (hlen : (fileN KL TL M).length + rest.length ≤ 100000000) (hw : Bytes (fileN KL TL M ++ rest))
    (hrest : (rest = [] ∧ E = 0) ∨ (rest ≠ [] ∧ (openP rest).2.2.2 = E ∧ E ≠ 0)) (d : Nat) : ∀ i, i + d = M →
    Ev (fun k => frame_Scan.l0 k (fileN KL TL M ++ rest) (framesN KL TL i) ((fileN KL TL i).length : Int)) (framesN KL TL M, ((fileN KL TL M).length : Int), E) := by
  induction d with
  | zero =>
    intro i hi
    obtain rfl : i = M := by omega
    refine ev_next ?_
    rcases hrest with ⟨rfl, rfl⟩ | ⟨hne, hE, hE0⟩
    · have c1 : ¬ ((fileN KL TL i).length : Int) < ((fileN KL TL i ++ []).length : Int) := by simp
      simp only [frame_Scan.l0, c1, ↓reduceIte]
      exact Ev.now _
    · have hpos : 0 < rest.length := by cases rest with | nil => exact absurd rfl hne | cons => simp
      have c1 : ((fileN KL TL i).length : Int) < ((fileN KL TL i ++ rest).length : Int) := by rw [List.length_append]; omega
      have c2 : (0 : Int) ≤ ((fileN KL TL i).length : Int) := by omega
      have c3 : ((fileN KL TL i).length : Int) ≤ ((fileN KL TL i ++ rest).length : Int) := by omega
      have hd : (fileN KL TL i ++ rest).drop (((fileN KL TL i).length : Int)).toNat = rest := by rw [Int.toNat_natCast]; exact List.drop_left
      have ho := frameOpen_f rest (by omega) (fun x hx => hw x (List.mem_append.2 (.inr hx)))
      have c4 : ¬ E = 0 := hE0
      refine Ev.step (f := fun _ => some (framesN KL TL i, ((fileN KL TL i).length : Int), E)) (fun k => ?_) (Ev.now _)
      rw [frame_Scan.l0, if_pos c1, if_pos c2, if_pos c3, hd, ho, Option.bind_some, hE, if_neg c4]
  | succ d ih =>
    intro i hi
    by_cases hs : kdN KL i = 0 ∨ (txN TL i).size > 2097152
    · have h := ih (i + 1) (by omega)
      rw [(fileN_skip hs).1] at h
      rw [framesN, if_pos hs] at h
      exact h
    · have h := ih (i + 1) (by omega)
      rw [(fileN_next hs).1] at h
      rw [framesN, if_neg hs] at h
      have hsz : (bytesOf (txN TL i)).length ≤ 2097152 := by rw [bytesOf_length]; omega
      have hfull := fileN_add KL TL (d + 1) i
      rw [hi, tailN, if_neg hs] at hfull
      have hlf := congrArg List.length hfull
      rw [List.length_append, List.length_append, sealOf_length] at hlf
      have c1 : ((fileN KL TL i).length : Int) < ((fileN KL TL M ++ rest).length : Int) := by rw [List.length_append]; omega
      have c2 : (0 : Int) ≤ ((fileN KL TL i).length : Int) := by omega
      have c3 : ((fileN KL TL i).length : Int) ≤ ((fileN KL TL M ++ rest).length : Int) := by omega
      have hd : (fileN KL TL M ++ rest).drop (((fileN KL TL i).length : Int)).toNat = sealOf (kdN KL i) (bytesOf (txN TL i)) ++ (tailN KL TL (i + 1) d ++ rest) := by
        rw [Int.toNat_natCast, hfull, List.append_assoc, List.drop_left, List.append_assoc]
      have ho := frameOpen_f (sealOf (kdN KL i) (bytesOf (txN TL i)) ++ (tailN KL TL (i + 1) d ++ rest)) (by rw [← hd, List.length_drop, List.length_append]; omega) (fun x hx => hw x (by rw [← hd] at hx; exact List.mem_of_mem_drop hx))
      rw [openP_seal _ _ _ (fun e => hs (.inl e)) hsz (sumOf_range _ _)] at ho
      have hcl := framesN_length KL TL i
      have hcn := cntN_le KL TL i
      have c5 : (framesN KL TL i).length < 4398046511104 := by omega
      have hw64 : wrap64 (((fileN KL TL i).length : Int) + (((bytesOf (txN TL i)).length : Int) + 9)) = ((fileN KL TL i ++ sealOf (kdN KL i) (bytesOf (txN TL i))).length : Int) := by
        rw [w64 (by omega) (by omega), List.length_append, sealOf_length]; omega
      refine Ev.step (fun k => ?_) h
      rw [frame_Scan.l0, if_pos c1, if_pos c2, if_pos c3, hd, ho, Option.bind_some, if_pos rfl, if_pos c5, hw64]
end Go.Proofs.YtdlfhpkkkhfhdaaDoor.Hand
