/- What the laws' small helpers come to: lent, kept, same. -/
import Derived.Test.YtdlfhpkkkhfhdaaDoorQx
namespace Go.Proofs.YtdlfhpkkkhfhdaaDoor.Hand
open Go.RowKit Go.Proofs.YtdlfhpkkkhfhdaaDoorW.PrintWords Go.Proofs.YtdlfhpkkkhfhdaaDoorW.PrintLast Go.Proofs.YtdlfhpkkkhfhdaaDoorW.PrintMore Go.Proofs.YtdlfhpkkkhfhdaaDoor.Q

theorem w64 {x : Int} (h0 : -9223372036854775808 ≤ x) (h1 : x ≤ 9223372036854775807) : wrap64 x = x := by unfold wrap64; omega
theorem ev_next {α : Type} {g : Nat → Option α} {r : α} (h : Ev (fun k => g (k + 1)) r) : Ev g r := Ev.step (fun _ => rfl) h
/-- The mark at a place behind the bytes. -/
def markAt (i : Nat) : Int := 200 + ((i % 7 : Nat) : Int)
def marks : List Int := (List.range' 0 64).map markAt
theorem marks_length : marks.length = 64 := by simp [marks]
theorem mark_printed (i : Nat) (h : i < 64) : (wrap64 (200 + (Int.tmod (i : Int) 7))) % 256 = markAt i := by
  unfold markAt
  have e : Int.tmod (i : Int) 7 = ((i % 7 : Nat) : Int) := by rw [Int.tmod_eq_emod_of_nonneg (by omega)]; omega
  rw [e, w64 (by omega) (by omega)]
  omega
theorem marks_byte : ∀ x ∈ marks, 0 ≤ x ∧ x ≤ 255 := by
  intro x hx
  simp only [marks, List.mem_map] at hx
  obtain ⟨i, _, rfl⟩ := hx
  unfold markAt
  omega

theorem lent_from (d : Nat) : ∀ (i k : Nat) (x : List Int), i + d = 64 → x.length + d ≤ 140737488355328 → d < k → wicketlaw01_lent.l0 k x (i : Int) = some (x ++ (List.range' i d).map markAt) := by
  induction d with
  | zero =>
    intro i k x h1 h2 h3
    obtain ⟨k, rfl⟩ : ∃ m, k = m + 1 := ⟨k - 1, by omega⟩
    simp only [wicketlaw01_lent.l0]
    rw [if_neg (by omega)]
    simp
  | succ d ih =>
    intro i k x h1 h2 h3
    obtain ⟨k, rfl⟩ : ∃ m, k = m + 1 := ⟨k - 1, by omega⟩
    simp only [wicketlaw01_lent.l0]
    rw [if_pos (by omega), if_pos (by omega), mark_printed i (by omega), w64 (by omega) (by omega), show ((i : Int) + 1) = ((i + 1 : Nat) : Int) from by omega, ih (i + 1) k _ (by omega) (by simp; omega) (by omega)]
    simp [List.range'_succ]
theorem lent_ev (l : List Int) (h : l.length ≤ 100000000) : Ev (fun k => wicketlaw01_lent.f k l) (l ++ marks) := by
  refine ⟨65, fun k hk => ?_⟩
  unfold wicketlaw01_lent.f
  simp only [Option.bind_some, List.nil_append, List.length_nil]
  rw [if_pos (by omega)]
  exact lent_from 64 0 k l rfl (by omega) (by omega)

theorem same_ev (l : List Int) : wicketlaw01_same.f l l = some true := by simp [wicketlaw01_same.f]
theorem rd_app_right (a b : List Int) (i : Nat) : rd (a ++ b) ((a.length + i : Nat) : Int) = b.getD i 0 := by
  unfold rd
  rw [Int.toNat_natCast, List.getD_eq_getElem?_getD, List.getD_eq_getElem?_getD, List.getElem?_append_right (by omega)]
  simp
theorem marks_at (i : Nat) (h : i < 64) : marks.getD i 0 = markAt i := by
  have : ∀ i, i < 64 → marks.getD i 0 = markAt i := by decide
  exact this i h

theorem kept_from (b : List Int) (hb : b.length ≤ 100000000) (d : Nat) : ∀ (i k : Nat), i + d = 64 → d < k → wicketlaw01_kept.l0 k (b ++ marks) b (i : Int) = some true := by
  induction d with
  | zero =>
    intro i k h1 h3
    obtain ⟨k, rfl⟩ : ∃ m, k = m + 1 := ⟨k - 1, by omega⟩
    simp only [wicketlaw01_kept.l0]
    rw [if_neg (by omega), if_pos (by omega), if_pos (by rw [List.length_append]; omega), Int.toNat_natCast, List.take_left, same_ev]
    rfl
  | succ d ih =>
    intro i k h1 h3
    obtain ⟨k, rfl⟩ : ∃ m, k = m + 1 := ⟨k - 1, by omega⟩
    have e : wrap64 ((b.length : Int) + (i : Int)) = ((b.length + i : Nat) : Int) := by rw [w64 (by omega) (by omega)]; omega
    simp only [wicketlaw01_kept.l0, e]
    rw [if_pos (by omega), if_pos (by omega), if_pos (by rw [List.length_append, marks_length]; omega), rd_app_right, marks_at i (by omega), mark_printed i (by omega), if_pos rfl, w64 (by omega) (by omega), show ((i : Int) + 1) = ((i + 1 : Nat) : Int) from by omega]
    exact ih (i + 1) k (by omega) (by omega)
theorem kept_ev (b : List Int) (h : b.length ≤ 100000000) : Ev (fun k => wicketlaw01_kept.f k (b ++ marks) b) true :=
  ⟨65, fun k hk => kept_from b h 64 0 k rfl (by omega)⟩
end Go.Proofs.YtdlfhpkkkhfhdaaDoor.Hand
