/- FrameScans: the plain law; joined with the walk. -/
import Derived.Test.YtdlfhpkkkhfhdaaDoorHOpenPure
import Derived.Test.YtdlfhpkkkhfhdaaDoorHScansW
import Derived.Test.YtdlfhpkkkhfhdaaDoorHSumsM
namespace Go.Proofs.YtdlfhpkkkhfhdaaDoor.Hand
set_option linter.unusedVariables false
set_option linter.unusedSimpArgs false
open Go.RowKit Go.Proofs.YtdlfhpkkkhfhdaaDoorW.PrintWords Go.Proofs.YtdlfhpkkkhfhdaaDoorW.PrintLast Go.Proofs.YtdlfhpkkkhfhdaaDoorW.PrintMore Go.Proofs.YtdlfhpkkkhfhdaaDoor.Q

theorem openP_ok (l : List Int) (hw : Bytes l) (h : (openP l).2.2.2 = 0) : 9 ≤ (openP l).2.2.1 ∧ (openP l).2.2.1 ≤ l.length := by
  rcases nine_or l with ⟨a, b, c, d, e, f, g, hh, kd, r, rfl⟩ | ⟨hs, he⟩
  · have hn := w4_range a b c d (hw a (by simp)) (hw b (by simp)) (hw c (by simp)) (hw d (by simp))
    rw [openP_nine] at h ⊢
    by_cases h1 : w4 a b c d > 2097152
    · rw [if_pos h1] at h; simp at h
    · rw [if_neg h1] at h ⊢
      by_cases h2 : (r.length : Int) < w4 a b c d
      · rw [if_pos h2] at h; simp at h
      · rw [if_neg h2] at h ⊢
        by_cases h3 : w4 e f g hh ≠ sumOf kd (r.take (w4 a b c d).toNat)
        · rw [if_pos h3] at h; simp at h
        · rw [if_neg h3] at h ⊢
          by_cases h4 : kd = 0
          · rw [if_pos h4] at h; simp at h
          · rw [if_neg h4]
            refine ⟨?_, ?_⟩
            · show 9 ≤ 9 + w4 a b c d
              omega
            · show 9 + w4 a b c d ≤ _
              simp only [List.length_cons]
              omega
  · rw [he] at h; simp at h

/-- The program's frames and the document's. -/
structure Alike (X : List S40) (Y : List S44) : Prop where
  len : X.length = Y.length
  f0 : ∀ j, (X.getD j z40).f0 = (Y.getD j z44).f0
  f1 : ∀ j, (X.getD j z40).f1 = (Y.getD j z44).f1
  short : ∀ j, (X.getD j z40).f1.length ≤ 100000000
theorem snoc40 (X : List S40) (x : S40) (j : Nat) : (X ++ [x]).getD j z40 = if j < X.length then X.getD j z40 else if j = X.length then x else z40 := by
  rw [List.getD_eq_getElem?_getD, List.getD_eq_getElem?_getD]
  split
  · rw [List.getElem?_append_left (by assumption)]
  · rw [List.getElem?_append_right (by omega)]
    split
    · rename_i h1 h2
      rw [h2, Nat.sub_self]; rfl
    · rename_i h1 h2
      rw [List.getElem?_eq_none (by simp; omega)]; rfl
theorem snoc44 (X : List S44) (x : S44) (j : Nat) : (X ++ [x]).getD j z44 = if j < X.length then X.getD j z44 else if j = X.length then x else z44 := by
  rw [List.getD_eq_getElem?_getD, List.getD_eq_getElem?_getD]
  split
  · rw [List.getElem?_append_left (by assumption)]
  · rw [List.getElem?_append_right (by omega)]
    split
    · rename_i h1 h2
      rw [h2, Nat.sub_self]; rfl
    · rename_i h1 h2
      rw [List.getElem?_eq_none (by simp; omega)]; rfl
theorem Alike.snoc {X : List S40} {Y : List S44} (h : Alike X Y) (a : Int) (l : List Int) (t : Int) (hl : l.length ≤ 100000000) : Alike (X ++ [⟨a, l⟩]) (Y ++ [⟨a, l, t⟩]) := by
  refine ⟨by simp [h.len], fun j => ?_, fun j => ?_, fun j => ?_⟩
  · rw [snoc40, snoc44, ← h.len]
    split
    · exact h.f0 j
    · split <;> rfl
  · rw [snoc40, snoc44, ← h.len]
    split
    · exact h.f1 j
    · split <;> rfl
  · rw [snoc40]
    split
    · exact h.short j
    · split
      · exact hl
      · exact Nat.zero_le _
theorem Alike.nil : Alike [] [] := ⟨rfl, fun _ => rfl, fun _ => rfl, fun _ => Nat.zero_le _⟩

theorem scans_from (l : List Int) (hl : l.length ≤ 100000000) (hw : Bytes l) (d : Nat) : ∀ (p : Nat) (X : List S40) (Y : List S44), l.length - p ≤ d → p ≤ l.length → Alike X Y → X.length ≤ p →
    ∃ X' Y' n e, Ev (fun k => frame_Scan.l0 k l X (p : Int)) (X', n, e) ∧ Ev (fun k => wicketref01_Scan.l0 k l Y (p : Int)) (Y', n, e) ∧ Alike X' Y' ∧ X'.length ≤ l.length := by
  induction d with
  | zero =>
    intro p X Y h1 h2 h3 h4
    have c1 : ¬ (p : Int) < (l.length : Int) := by omega
    refine ⟨X, Y, p, 0, ev_next ?_, ev_next ?_, h3, by omega⟩
    · simp only [frame_Scan.l0, c1, ↓reduceIte]; exact Ev.now _
    · simp only [wicketref01_Scan.l0, c1, ↓reduceIte]; exact Ev.now _
  | succ d ih =>
    intro p X Y h1 h2 h3 h4
    by_cases c1 : (p : Int) < (l.length : Int)
    · have c2 : (0 : Int) ≤ (p : Int) := by omega
      have c3 : (p : Int) ≤ (l.length : Int) := by omega
      have hd : (l.drop p).length ≤ 100000000 := by rw [List.length_drop]; omega
      have hwd : Bytes (l.drop p) := fun x hx => hw x (List.mem_of_mem_drop hx)
      have ho := frameOpen_f (l.drop p) hd hwd
      have hr := refOpen_ev (l.drop p) hd hwd
      have hlen := openP_length (l.drop p) 100000000 hd
      have hok := openP_ok (l.drop p) hwd
      rw [List.length_drop] at hok
      generalize openP (l.drop p) = u at ho hr hlen hok
      obtain ⟨kd, lo, n, e⟩ := u
      simp only at hr hlen hok
      have c4 : X.length < 4398046511104 := by omega
      have c5 : Y.length < 3518437208883 := by have := h3.len; omega
      by_cases he : e = 0
      · obtain ⟨hn1, hn2⟩ := hok he
        obtain ⟨N, hN⟩ := Int.eq_ofNat_of_zero_le (show 0 ≤ n by omega)
        have hs : wrap64 ((p : Int) + n) = ((p + N : Nat) : Int) := by rw [w64 (by omega) (by omega)]; omega
        obtain ⟨X', Y', n', e', e1, e2, e3⟩ := ih (p + N) (X ++ [⟨kd, lo⟩]) (Y ++ [⟨kd, lo, (p : Int)⟩]) (by omega) (by omega) (h3.snoc kd lo p hlen) (by simp; omega)
        refine ⟨X', Y', n', e', ev_next ?_, ev_next ?_, e3⟩
        · simp only [frame_Scan.l0, c1, c2, c3, Int.toNat_natCast, ho, he, c4, hs, Option.bind_some, ↓reduceIte]
          exact e1
        · simp only [wicketref01_Scan.l0, c1, c2, c3, Int.toNat_natCast, ↓reduceIte]
          refine hr.bind ?_
          simp only [he, c5, hs, ↓reduceIte]
          exact e2
      · refine ⟨X, Y, p, e, ev_next ?_, ev_next ?_, h3, by omega⟩
        · simp only [frame_Scan.l0, c1, c2, c3, Int.toNat_natCast, ho, he, Option.bind_some, ↓reduceIte]
          exact Ev.now _
        · simp only [wicketref01_Scan.l0, c1, c2, c3, Int.toNat_natCast, ↓reduceIte]
          refine hr.bind ?_
          simp only [he, ↓reduceIte]
          exact Ev.now _
    · refine ⟨X, Y, p, 0, ev_next ?_, ev_next ?_, h3, by omega⟩
      · simp only [frame_Scan.l0, c1, ↓reduceIte]; exact Ev.now _
      · simp only [wicketref01_Scan.l0, c1, ↓reduceIte]; exact Ev.now _

theorem frames_from (X : List S40) (Y : List S44) (h : Alike X Y) (hl : X.length ≤ 100000000) (d : Nat) : ∀ i : Nat, i + d = X.length → Ev (fun k => wicketlaw01_frames.l0 k X Y (i : Int)) true := by
  induction d with
  | zero =>
    intro i h1
    have c1 : ¬ (i : Int) < (X.length : Int) := by omega
    refine ev_next ?_
    simp only [wicketlaw01_frames.l0, c1, ↓reduceIte]
    exact Ev.now _
  | succ d ih =>
    intro i h1
    have c1 : (i : Int) < (X.length : Int) := by omega
    have c2 : (0 : Int) ≤ (i : Int) := by omega
    have c3 : (i : Int) < (Y.length : Int) := by have := h.len; omega
    have e0 : (rd_T40 X (i : Int)).f0 = (rd_T44 Y (i : Int)).f0 := by
      unfold rd_T40 rd_T44
      rw [Int.toNat_natCast]
      exact h.f0 i
    have e1 : (rd_T40 X (i : Int)).f1 = (rd_T44 Y (i : Int)).f1 := by
      unfold rd_T40 rd_T44
      rw [Int.toNat_natCast]
      exact h.f1 i
    have e2 : wrap64 ((i : Int) + 1) = ((i + 1 : Nat) : Int) := by rw [w64 (by omega) (by omega)]; omega
    refine ev_next ?_
    simp only [wicketlaw01_frames.l0, c1, c2, c3, e0, e1, e2, same_ev, Option.bind_some, ↓reduceIte]
    exact ih (i + 1) (by omega)
theorem frames_ev (X : List S40) (Y : List S44) (h : Alike X Y) (hl : X.length ≤ 100000000) : Ev (fun k => wicketlaw01_frames.f k X Y) true := by
  unfold wicketlaw01_frames.f
  have c : (X.length : Int) = (Y.length : Int) := by have := h.len; omega
  simp only [c, ↓reduceIte]
  exact frames_from X Y h hl X.length 0 (by omega)
theorem frameScans_machine (W : World) (hT : Tb W) (A0 : Option Addr) (c0 : Nat) (l0 : List Int) (hr0 : (Kd.int .u8).C W A0 l0.length l0) (hc0 : l0.length ≤ c0) (hw0 : ∀ x ∈ l0, (Lit.int .u8 x).wf = true) (hb0 : (l0.map fun _ => 1).sum + 1 ≤ 1048576) :
    Calls Tryd.prog 8 #[.slice A0 l0.length c0] W fun e w' => e = .returned (.bool true) ∧ Below W.heap.size W w' := by
  rw [sum_ones] at hb0
  obtain ⟨K1, h1⟩ := lent_ev l0 (by omega)
  obtain ⟨K2, h2⟩ := kept_ev l0 (by omega)
  obtain ⟨X, Y, n, e, ⟨K3, h3⟩, ⟨K4, h4⟩, hA, hX⟩ := scans_from l0 (by omega) (bytes_wf hw0) l0.length 0 [] [] (by omega) (by omega) Alike.nil (by simp)
  obtain ⟨K5, h5⟩ := frames_ev X Y hA (by omega)
  exact wicketlaw01_FrameScans.walk (K1 + K2 + K3 + K4 + K5) A0 c0 l0 (l0 ++ marks) X Y n e W hT hr0 hc0 (h1 _ (by omega)) (List.take_left) (by rw [List.length_append, marks_length]; omega) (h3 _ (by omega)) (h4 _ (by omega)) (h5 _ (by omega)) rfl (h2 _ (by omega)) (fun j _ => by have := hA.short j; omega) hA.len rfl
end Go.Proofs.YtdlfhpkkkhfhdaaDoor.Hand
