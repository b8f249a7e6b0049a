/- What Seal lays down: the program's and the document's are one. -/
import Derived.Test.YtdlfhpkkkhfhdaaDoorHSums
namespace Go.Proofs.YtdlfhpkkkhfhdaaDoor.Hand
open Go.RowKit Go.Proofs.YtdlfhpkkkhfhdaaDoorW.PrintWords Go.Proofs.YtdlfhpkkkhfhdaaDoorW.PrintLast Go.Proofs.YtdlfhpkkkhfhdaaDoorW.PrintMore Go.Proofs.YtdlfhpkkkhfhdaaDoor.Q
set_option linter.unusedVariables false
set_option linter.unusedSimpArgs false

/-- Four bytes, the lowest first. -/
def fourI (n : Int) : List Int := [n % 256, n / 256 % 256, n / 65536 % 256, n / 16777216 % 256]
theorem fourI_length (n : Int) : (fourI n).length = 4 := rfl
theorem fourI_bytes (n : Int) : Bytes (fourI n) := by
  intro x hx
  simp only [fourI, List.mem_cons, List.not_mem_nil, or_false] at hx
  omega
theorem putWord_f (l : List Int) (n : Int) (h : l.length + 4 < 140737488355328) : frame_putWord.f l n = some (l ++ fourI n) := by
  unfold frame_putWord.f
  simp only [Option.bind_some, List.length_cons, List.length_nil]
  rw [if_pos (by omega)]
  rfl
theorem refFour_ev (n : Int) (h0 : 0 ≤ n) (h1 : n < 4294967296) : Ev (fun k => wicketref01_four.f k n) (fourI n) := by
  have d : ∀ x : Int, 0 ≤ x → x < 4294967296 → Int.tdiv x 256 % 4294967296 = x / 256 := fun x a b => by rw [Int.tdiv_eq_ediv_of_nonneg a]; omega
  have m : ∀ x : Int, 0 ≤ x → Int.tmod x 256 % 256 = x % 256 := fun x a => by rw [Int.tmod_eq_emod_of_nonneg a]; omega
  have w0 : wrap64 (0 + 1) = 1 := by rw [w64 (by omega) (by omega)]; rfl
  have w1 : wrap64 (1 + 1) = 2 := by rw [w64 (by omega) (by omega)]; rfl
  have w2 : wrap64 (2 + 1) = 3 := by rw [w64 (by omega) (by omega)]; rfl
  have w3 : wrap64 (3 + 1) = 4 := by rw [w64 (by omega) (by omega)]; rfl
  have d0 := d n h0 h1
  have d1 := d (n / 256) (by omega) (by omega)
  have d2 := d (n / 256 / 256) (by omega) (by omega)
  have d3 := d (n / 256 / 256 / 256) (by omega) (by omega)
  have m0 := m n h0
  have m1 := m (n / 256) (by omega)
  have m2 := m (n / 256 / 256) (by omega)
  have m3 := m (n / 256 / 256 / 256) (by omega)
  unfold wicketref01_four.f
  refine ev_next ?_
  simp only [wicketref01_four.l0, Int.reduceLT, ↓reduceIte, List.length_append, List.length_cons, List.length_nil, Nat.reduceAdd, Nat.reduceLT, d0, m0, w0]
  refine ev_next ?_
  simp only [wicketref01_four.l0, Int.reduceLT, ↓reduceIte, List.length_append, List.length_cons, List.length_nil, Nat.reduceAdd, Nat.reduceLT, d1, m1, w1]
  refine ev_next ?_
  simp only [wicketref01_four.l0, Int.reduceLT, ↓reduceIte, List.length_append, List.length_cons, List.length_nil, Nat.reduceAdd, Nat.reduceLT, d2, m2, w2]
  refine ev_next ?_
  simp only [wicketref01_four.l0, Int.reduceLT, ↓reduceIte, List.length_append, List.length_cons, List.length_nil, Nat.reduceAdd, Nat.reduceLT, d3, m3, w3]
  refine ev_next ?_
  simp only [wicketref01_four.l0, Int.reduceLT, ↓reduceIte]
  have e : ([] ++ [n % 256] ++ [n / 256 % 256] ++ [n / 256 / 256 % 256] ++ [n / 256 / 256 / 256 % 256] : List Int) = fourI n := by
    simp only [List.nil_append, List.cons_append, fourI]
    congr 3 <;> (try congr 1) <;> omega
  rw [e]
  exact Ev.now _

def sumOf (kind : Int) (l : List Int) : Int := crcRun (crcRun (crcRun 0 (fourI l.length)) [kind]) l
def sealOf (kind : Int) (l : List Int) : List Int := fourI l.length ++ fourI (sumOf kind l) ++ [kind] ++ l
def sealP (kind : Int) (l : List Int) : List Int × Int := if kind = 0 then ([], 13) else if (l.length : Int) > 2097152 then ([], 1) else (sealOf kind l, 0)
theorem sealOf_length (kind : Int) (l : List Int) : (sealOf kind l).length = l.length + 9 := by simp [sealOf, fourI_length]; omega
theorem sealOf_bytes {kind : Int} {l : List Int} (hk : 0 ≤ kind ∧ kind ≤ 255) (hl : Bytes l) : Bytes (sealOf kind l) :=
  bytes_append (bytes_append (bytes_append (fourI_bytes _) (fourI_bytes _)) (fun x hx => by rw [List.mem_singleton.1 hx]; exact hk)) hl
theorem sum_f (a b : List Int) : frame_sum.f a b = some (crcRun (crcRun 0 a) b) := rfl
theorem frameSeal_f (kind : Int) (l : List Int) : frame_Seal.f kind l = some (sealP kind l) := by
  unfold frame_Seal.f sealP
  split
  · rfl
  · split
    · rfl
    · rename_i h1 h2
      have e1 : wrap64 (9 + (l.length : Int)) = 9 + (l.length : Int) := w64 (by omega) (by omega)
      have e2 : (l.length : Int) % 4294967296 = l.length := by omega
      rw [e1, if_pos (by omega), if_pos (by omega), e2, putWord_f _ _ (by simp)]
      simp only [Option.bind_some, sum_f, frame_CrcOn.f, List.replicate_zero, List.nil_append]
      rw [putWord_f _ _ (by rw [fourI_length]; omega)]
      simp only [Option.bind_some]
      rw [if_pos (by simp [fourI_length]), if_pos (by simp [fourI_length]; omega)]
      rfl
theorem joined_f (a b : List Int) (h : a.length + b.length < 140737488355328) : wicketref01_joined.f a b = some (a ++ b) := by
  unfold wicketref01_joined.f
  simp only [Option.bind_some, List.nil_append, List.length_nil, Nat.zero_add]
  rw [if_pos (by omega), if_pos h]
theorem refSum_ev (kind : Int) (l : List Int) (hk : 0 ≤ kind ∧ kind ≤ 255) (hl : l.length ≤ 100000000) (hw : Bytes l) : Ev (fun k => wicketref01_sum.f k kind l) (sumOf kind l) := by
  unfold wicketref01_sum.f
  have e2 : (l.length : Int) % 4294967296 = l.length := by omega
  rw [e2]
  refine (refFour_ev _ (by omega) (by omega)).bind ?_
  refine (refCrc_ev _ (by rw [fourI_length]; omega) (fourI_bytes _)).bind ?_
  refine (refCrcOn_ev _ [kind] (by simp) (fun x hx => by rw [List.mem_singleton.1 hx]; exact hk)).bind ?_
  refine (refCrcOn_ev _ l (by omega) hw).bind ?_
  exact Ev.now _
theorem refSeal_ev (kind : Int) (l : List Int) (hk : 0 ≤ kind ∧ kind ≤ 255) (hl : l.length ≤ 100000000) (hw : Bytes l) : Ev (fun k => wicketref01_Seal.f k kind l) (sealP kind l) := by
  unfold wicketref01_Seal.f sealP
  split
  · exact Ev.now _
  · split
    · exact Ev.now _
    · rename_i h1 h2
      have e2 : (l.length : Int) % 4294967296 = l.length := by omega
      have hs := crcRun_range (crcRun (crcRun 0 (fourI l.length)) [kind]) l
      rw [e2]
      refine (refFour_ev _ (by omega) (by omega)).bind ?_
      refine (refSum_ev kind l hk hl hw).bind ?_
      refine (refFour_ev _ hs.1 hs.2).bind ?_
      rw [joined_f _ _ (by simp [fourI_length])]
      simp only [Option.bind_some]
      rw [if_pos (by simp [fourI_length]), joined_f _ _ (by simp [fourI_length]; omega)]
      exact Ev.now _
theorem sealP_length (kind : Int) (l : List Int) : (sealP kind l).1.length ≤ 2097161 := by
  unfold sealP
  split
  · simp
  · split
    · simp
    · rw [sealOf_length]; omega
end Go.Proofs.YtdlfhpkkkhfhdaaDoor.Hand
