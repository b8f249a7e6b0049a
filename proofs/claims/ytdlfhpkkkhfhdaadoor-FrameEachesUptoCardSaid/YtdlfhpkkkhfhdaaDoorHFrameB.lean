/- The reference's sum, bit by bit, is the program's, by half bytes. -/
import Derived.Test.YtdlfhpkkkhfhdaaDoorHFrameA
import Derived.Test.YtdlfhpkkkhfhdaaDoorHCrcPure
namespace Go.Proofs.YtdlfhpkkkhfhdaaDoor.Hand
open Go.RowKit Go.Proofs.YtdlfhpkkkhfhdaaDoorW.PrintWords Go.Proofs.YtdlfhpkkkhfhdaaDoorW.PrintLast Go.Proofs.YtdlfhpkkkhfhdaaDoorW.PrintMore Go.Proofs.YtdlfhpkkkhfhdaaDoor.Q

def steps : Nat → Nat → Nat
  | 0, r => r
  | d + 1, r => steps d (bitStep r)
theorem bitStep_lt (r : Nat) (h : r < 4294967296) : bitStep r < 4294967296 := by
  unfold bitStep
  split
  · exact Nat.xor_lt_two_pow (n := 32) (by omega) (by decide)
  · omega
theorem refBits_ev (l : List Int) (x6 : Int) (res : Int) (d : Nat) : ∀ (j r : Nat), j + d = 8 → r < 4294967296 → Ev (fun k => wicketref01_CrcOn.l0 k l ((steps d r : Nat) : Int) (wrap64 (x6 + 1))) res → Ev (fun k => wicketref01_CrcOn.l1 k l (r : Int) x6 (j : Int)) res := by
  induction d with
  | zero =>
    intro j r h1 _ h
    refine Ev.step (fun k => ?_) h
    simp only [wicketref01_CrcOn.l1]
    rw [if_neg (by omega)]
    rfl
  | succ d ih =>
    intro j r h1 hr h
    refine Ev.step (fun k => ?_) (ih (j + 1) (bitStep r) (by omega) (bitStep_lt r hr) h)
    have e1 : Int.tmod (r : Int) 2 = ((r % 2 : Nat) : Int) := by rw [Int.tmod_eq_emod_of_nonneg (by omega)]; omega
    have e2 : Int.tdiv (r : Int) 2 % 4294967296 = ((r / 2 : Nat) : Int) := by rw [Int.tdiv_eq_ediv_of_nonneg (by omega)]; omega
    simp only [wicketref01_CrcOn.l1]
    rw [if_pos (by omega), e1, e2, w64 (by omega) (by omega), show ((j : Int) + 1) = ((j + 1 : Nat) : Int) from by omega]
    by_cases hb : r % 2 = 1
    · have e3 := u32_xor_nat (r / 2) 3988292384 (by omega) (by decide)
      rw [if_pos (by omega), bitStep_odd hb, show (3988292384 : Int) = ((3988292384 : Nat) : Int) from rfl, e3]
    · rw [if_neg (by omega), bitStep_even (by omega)]
theorem steps_eight (r : Nat) (h : r < 4294967296) : ((steps 8 r : Nat) : Int) = nib (nib (r : Int)) := (nib_steps r h).symm
theorem refCrc_from (l : List Int) (hl : l.length ≤ 9000000000000000000) (hw : ∀ x ∈ l, 0 ≤ x ∧ x ≤ 255) (d : Nat) : ∀ (i r : Nat), i + d = l.length → r < 4294967296 → Ev (fun k => wicketref01_CrcOn.l0 k l (r : Int) (i : Int)) (Go.bits .xor .u32 4294967295 (crcFold (r : Int) (l.drop i))) := by
  induction d with
  | zero =>
    intro i r h1 _
    refine Ev.step (fun k => ?_) (Ev.now _)
    simp only [wicketref01_CrcOn.l0]
    rw [if_neg (by omega), List.drop_of_length_le (by omega)]
    rfl
  | succ d ih =>
    intro i r h1 hr
    have hi : i < l.length := by omega
    have hx := hw l[i] (List.getElem_mem hi)
    obtain ⟨x, hxe⟩ := Int.eq_ofNat_of_zero_le hx.1
    have hxb : x < 4294967296 := by omega
    have hrx : r ^^^ x < 4294967296 := Nat.xor_lt_two_pow (n := 32) (by omega) (by omega)
    have e1 : rd l (i : Int) % 4294967296 = (x : Int) := by
      unfold rd
      rw [Int.toNat_natCast, List.getD_eq_getElem?_getD, List.getElem?_eq_getElem hi, Option.getD_some, hxe]
      omega
    have e2 := u32_xor_nat r x hr hxb
    have hs : steps 8 (r ^^^ x) < 4294967296 := by
      have h3 := nib_range (nib ((r ^^^ x : Nat) : Int))
      rw [← steps_eight _ hrx] at h3
      omega
    have h2 := ih (i + 1) (steps 8 (r ^^^ x)) (by omega) hs
    have e3 : crcFold (r : Int) (l.drop i) = crcFold ((steps 8 (r ^^^ x) : Nat) : Int) (l.drop (i + 1)) := by
      rw [List.drop_eq_getElem_cons hi]
      show crcFold (crcStep (r : Int) l[i]) (l.drop (i + 1)) = _
      unfold crcStep
      rw [hxe, show ((x : Int) % 4294967296) = (x : Int) from by omega, e2, steps_eight _ hrx]
    rw [e3]
    refine Ev.step (f := fun k => wicketref01_CrcOn.l1 k l ((r ^^^ x : Nat) : Int) (i : Int) ((0 : Nat) : Int)) (fun k => ?_) (refBits_ev l (i : Int) _ 8 0 (r ^^^ x) rfl hrx ?_)
    · simp only [wicketref01_CrcOn.l0]
      rw [if_pos (by omega), if_pos (by omega), e1, e2]
      rfl
    · rw [w64 (by omega) (by omega), show ((i : Int) + 1) = ((i + 1 : Nat) : Int) from by omega]
      exact h2
theorem refCrcOn_ev (c : Int) (l : List Int) (hl : l.length ≤ 9000000000000000000) (hw : ∀ x ∈ l, 0 ≤ x ∧ x ≤ 255) : Ev (fun k => wicketref01_CrcOn.f k c l) (crcRun c l) := by
  have h := xor_range 4294967295 c
  obtain ⟨r, hr⟩ := Int.eq_ofNat_of_zero_le h.1
  have h2 := refCrc_from l hl hw l.length 0 r (by omega) (by omega)
  rw [List.drop_zero] at h2
  unfold wicketref01_CrcOn.f crcRun
  rw [hr]
  exact h2
theorem refCrc_ev (l : List Int) (hl : l.length ≤ 9000000000000000000) (hw : ∀ x ∈ l, 0 ≤ x ∧ x ≤ 255) : Ev (fun k => wicketref01_Crc.f k l) (crcRun 0 l) :=
  (refCrcOn_ev 0 l hl hw).bind (Ev.now _)
end Go.Proofs.YtdlfhpkkkhfhdaaDoor.Hand
