/- FrameSums: that what it computes answers true. -/
import Derived.Test.YtdlfhpkkkhfhdaaDoorHFrameB
namespace Go.Proofs.YtdlfhpkkkhfhdaaDoor.Hand
open Go.RowKit Go.Proofs.YtdlfhpkkkhfhdaaDoorW.PrintWords Go.Proofs.YtdlfhpkkkhfhdaaDoorW.PrintLast Go.Proofs.YtdlfhpkkkhfhdaaDoorW.PrintMore Go.Proofs.YtdlfhpkkkhfhdaaDoor.Q

def Bytes (l : List Int) : Prop := ∀ x ∈ l, 0 ≤ x ∧ x ≤ 255
theorem bytes_append {a b : List Int} (ha : Bytes a) (hb : Bytes b) : Bytes (a ++ b) := fun x hx => (List.mem_append.1 hx).elim (ha x) (hb x)
theorem crc_printed (l : List Int) : frame_Crc.f l = some (crcRun 0 l) := rfl

theorem frameSums_ev (a b : List Int) (c : Int) (ha : a.length ≤ 1048576) (hb : b.length ≤ 1048576) (wa : Bytes a) (wb : Bytes b) : Ev (fun k => wicketlaw01_FrameSums.f k a b c) true := by
  have h1 : a.length < 140737488355328 := by omega
  have h2 : a.length + b.length < 140737488355328 := by omega
  have h3 : b.length < 140737488355328 := by omega
  have h4 : (0 : Int) ≤ ((a ++ b).length : Int) := by omega
  have h5 : ((a ++ b).length : Int) ≤ ((a ++ b ++ marks).length : Int) := by simp only [List.length_append]; omega
  have hab : (a ++ b).length ≤ 100000000 := by rw [List.length_append]; omega
  have wab := bytes_append wa wb
  have e1 : (a ++ b ++ marks).take (((a ++ b).length : Int)).toNat = a ++ b := by rw [Int.toNat_natCast, List.take_left]
  unfold wicketlaw01_FrameSums.f
  simp only [Option.bind_some, List.nil_append, List.length_nil, Nat.zero_add, h1, h2, ↓reduceIte]
  refine (lent_ev _ hab).bind ?_
  simp only [h4, h5, ↓reduceIte, e1, crc_printed, Option.bind_some]
  refine (refCrc_ev _ (by omega) wab).bind ?_
  simp only [↓reduceIte]
  refine (kept_ev _ hab).bind ?_
  refine ev_next ?_
  simp only [wicketlaw01_FrameSums.j0, Bool.not_true, Bool.false_eq_true, ↓reduceIte, Option.bind_some, List.nil_append, List.length_nil, Nat.zero_add, h3, frame_CrcOn.f]
  refine (refCrcOn_ev c b (by omega) wb).bind ?_
  simp only [↓reduceIte, crc_printed, Option.bind_some, crcRun_append]
  refine (refCrc_ev _ (by omega) wab).bind ?_
  simp only [beq_self_eq_true]
  exact Ev.now _
end Go.Proofs.YtdlfhpkkkhfhdaaDoor.Hand
