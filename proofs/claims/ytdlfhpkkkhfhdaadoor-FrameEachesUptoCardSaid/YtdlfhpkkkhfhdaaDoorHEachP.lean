/- The frames of bytes from a place on, as frame.Each and the document's Scan tell them. Plain. -/
import Derived.Test.YtdlfhpkkkhfhdaaDoorHScansM
namespace Go.Proofs.YtdlfhpkkkhfhdaaDoor.Hand
set_option linter.unusedVariables false
set_option linter.unusedSimpArgs false
open Go.RowKit Go.Proofs.YtdlfhpkkkhfhdaaDoorW.PrintWords Go.Proofs.YtdlfhpkkkhfhdaaDoorW.PrintLast Go.Proofs.YtdlfhpkkkhfhdaaDoorW.PrintMore Go.Proofs.YtdlfhpkkkhfhdaaDoor.Q
/-- The frames from place p on (at most d of them). -/
def eachP (l : List Int) : Nat → Nat → List S44
  | 0, _ => []
  | d + 1, p => if p < l.length ∧ (openP (l.drop p)).2.2.2 = 0 then ⟨(openP (l.drop p)).1, (openP (l.drop p)).2.1, (p : Int)⟩ :: eachP l d (p + (openP (l.drop p)).2.2.1.toNat) else []
theorem eachP_end {l : List Int} {p : Nat} (h : ¬ p < l.length) (d : Nat) : eachP l d p = [] := by
  cases d with
  | zero => rfl
  | succ d => unfold eachP; rw [if_neg (fun hh => h hh.1)]
theorem eachP_bad {l : List Int} {p : Nat} (h : (openP (l.drop p)).2.2.2 ≠ 0) (d : Nat) : eachP l d p = [] := by
  cases d with
  | zero => rfl
  | succ d => unfold eachP; rw [if_neg (fun hh => h hh.2)]
theorem eachP_step {l : List Int} {p d : Nat} (h : p < l.length) (he : (openP (l.drop p)).2.2.2 = 0) (hd : l.length - p ≤ d) : ∃ d', d = d' + 1 ∧ eachP l d p = ⟨(openP (l.drop p)).1, (openP (l.drop p)).2.1, (p : Int)⟩ :: eachP l d' (p + (openP (l.drop p)).2.2.1.toNat) := by
  cases d with
  | zero => omega
  | succ d =>
    refine ⟨d, rfl, ?_⟩
    rw [eachP, if_pos ⟨h, he⟩]
theorem each_from (l : List Int) (hl : l.length ≤ 100000000) (hw : Bytes l) (d : Nat) : ∀ (p : Nat) (Y : List S44), l.length - p ≤ d → p ≤ l.length → Y.length ≤ p → ∃ n e, Ev (fun k => wicketref01_Scan.l0 k l Y (p : Int)) (Y ++ eachP l d p, n, e) := by
  induction d with
  | zero =>
    intro p Y h1 h2 h4
    have c1 : ¬ (p : Int) < (l.length : Int) := by omega
    refine ⟨p, 0, ev_next ?_⟩
    rw [eachP, List.append_nil]
    simp only [wicketref01_Scan.l0, c1, ↓reduceIte]; exact Ev.now _
  | succ d ih =>
    intro p Y h1 h2 h4
    by_cases c1 : (p : Int) < (l.length : Int)
    · have c2 : (0 : Int) ≤ (p : Int) := by omega
      have c3 : (p : Int) ≤ (l.length : Int) := by omega
      have hd : (l.drop p).length ≤ 100000000 := by rw [List.length_drop]; omega
      have hwd : Bytes (l.drop p) := fun x hx => hw x (List.mem_of_mem_drop hx)
      have hr := refOpen_ev (l.drop p) hd hwd
      have hok := openP_ok (l.drop p) hwd
      rw [List.length_drop] at hok
      have c5 : Y.length < 3518437208883 := by omega
      by_cases he : (openP (l.drop p)).2.2.2 = 0
      · obtain ⟨hn1, hn2⟩ := hok he
        obtain ⟨N, hN⟩ := Int.eq_ofNat_of_zero_le (show 0 ≤ (openP (l.drop p)).2.2.1 by omega)
        have hs : wrap64 ((p : Int) + (openP (l.drop p)).2.2.1) = ((p + N : Nat) : Int) := by rw [w64 (by omega) (by omega)]; omega
        obtain ⟨n', e', e2⟩ := ih (p + N) (Y ++ [⟨(openP (l.drop p)).1, (openP (l.drop p)).2.1, (p : Int)⟩]) (by omega) (by omega) (by simp; omega)
        refine ⟨n', e', ev_next ?_⟩
        rw [eachP, if_pos ⟨by omega, he⟩, show (openP (l.drop p)).2.2.1.toNat = N by omega]
        simp only [wicketref01_Scan.l0, c1, c2, c3, Int.toNat_natCast, ↓reduceIte]
        refine hr.bind ?_
        simp only [he, c5, hs, ↓reduceIte]
        rw [List.append_assoc] at e2
        exact e2
      · refine ⟨p, (openP (l.drop p)).2.2.2, ev_next ?_⟩
        rw [eachP_bad he, List.append_nil]
        simp only [wicketref01_Scan.l0, c1, c2, c3, Int.toNat_natCast, ↓reduceIte]
        refine hr.bind ?_
        simp only [he, ↓reduceIte]
        exact Ev.now _
    · refine ⟨p, 0, ev_next ?_⟩
      rw [eachP_end (by omega), List.append_nil]
      simp only [wicketref01_Scan.l0, c1, ↓reduceIte]; exact Ev.now _
theorem each_scan (l : List Int) (hl : l.length ≤ 100000000) (hw : Bytes l) : ∃ n e, Ev (fun k => wicketref01_Scan.f k l) (eachP l l.length 0, n, e) := each_from l hl hw l.length 0 [] (by omega) (by omega) (by simp)
theorem eachP_short (l : List Int) (d : Nat) : ∀ p, ∀ x ∈ eachP l d p, x.f1.length ≤ l.length := by
  induction d with
  | zero => intro p x hx; cases hx
  | succ d ih =>
    intro p x hx
    unfold eachP at hx
    split at hx
    · rcases List.mem_cons.1 hx with rfl | hx
      · have h := openP_length (l.drop p) l.length (by rw [List.length_drop]; omega)
        exact h
      · exact ih _ x hx
    · cases hx
theorem eachP_len (l : List Int) (hw : Bytes l) (d : Nat) : ∀ p, p ≤ l.length → (eachP l d p).length ≤ l.length - p := by
  induction d with
  | zero => intro p _; exact Nat.zero_le _
  | succ d ih =>
    intro p hp
    unfold eachP
    split
    · rename_i h
      obtain ⟨h1, h2⟩ := h
      have hok := openP_ok (l.drop p) (fun x hx => hw x (List.mem_of_mem_drop hx)) h2
      rw [List.length_drop] at hok
      have := ih (p + (openP (l.drop p)).2.2.1.toNat) (by omega)
      rw [List.length_cons]
      omega
    · exact Nat.zero_le _
end Go.Proofs.YtdlfhpkkkhfhdaaDoor.Hand
