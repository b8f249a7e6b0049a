/- Limits: a story that comes in. -/
import Derived.Test.YtgdjoochbgeokaaLimF
import Derived.Test.YtgdjoochbgeokaaHOpens
import Derived.OpenShut
import Derived.Laws.StructEq
namespace Go.Proofs.Ytgdjoochbgeokaa.Hand
open Go.RowKit Go.Maps Go.Proofs.YtgdjoochbgeokaaW.PrintWords Go.Proofs.YtgdjoochbgeokaaW.PrintLast Go.Proofs.YtgdjoochbgeokaaW.PrintMore Go.Proofs.Ytgdjoochbgeokaa.PLimitMost
set_option linter.unusedVariables false
set_option linter.unusedSimpArgs false
abbrev OpT := Int × ByteArray × Int
abbrev kOp : Kd OpT := Kd.iso (Kd.pair (Kd.int .i64) (Kd.pair Kd.string (Kd.int .u64))) (fun x => x)
theorem kOp_open {w : World} {x : OpT} {cs : List Value} (h : kOp.K w x cs) : cs = [.int .i64 x.1, .string x.2.1, .int .u64 x.2.2] := by
  obtain ⟨_, _, rfl, rfl, ⟨_, _, rfl, rfl, rfl⟩⟩ := h
  exact rfl
def opz : OpT := (0, ⟨#[]⟩, 0)
def opN (xs : List OpT) (i : Nat) : OpT := xs.getD i opz
theorem op_at {w : World} {A : Option Addr} {n : Nat} {xs : List OpT} (h : Kd.C kOp w A n xs) (i : Nat) (h1 : i < n) : ∃ ad, A = some ad ∧ w.cell? (ad.add (i * 3)) = some (.int .i64 (opN xs i).1) ∧ w.cell? ⟨(ad.add (i * 3)).block, (ad.add (i * 3)).off + 1, none⟩ = some (.string (opN xs i).2.1) ∧ w.cell? ⟨(ad.add (i * 3)).block, (ad.add (i * 3)).off + 2, none⟩ = some (.int .u64 (opN xs i).2.2) := by
  obtain ⟨ad, c, e, _, hK, hc0⟩ := Kd.C_get h opz (i : Int) (by omega) (by omega)
  rw [Int.toNat_natCast] at hK hc0
  have hc : ∀ j u, c[j]? = some u → w.cell? (ad.add (i * 3 + j)) = some u := hc0
  obtain rfl := kOp_open hK
  exact ⟨ad, e, hc 0 _ rfl, by rw [← add_field _ _ 1 (by omega)]; exact hc 1 _ rfl, by rw [← add_field _ _ 2 (by omega)]; exact hc 2 _ rfl⟩
theorem story_bad (tr sp mo : Int) (h : ¬ okNew tr sp mo) : wicketref08_New.f tr sp mo = some (0, 0, 0, 0, [], 2) := refNew_bad h

theorem str_ne {s t : ByteArray} (h : ¬ s = t) : (s.toList == t.toList) = false := by
  rw [← beq_toListBytes]
  cases e : (s == t) with
  | true => exact absurd ((MapKept.bytes_beq _ _).1 e) h
  | false => rfl
abbrev StoryT := Int × Int × Int × List OpT
abbrev kStory : Kd StoryT := Kd.iso (Kd.pair (Kd.int .i64) (Kd.pair (Kd.int .u64) (Kd.pair (Kd.int .i64) (Kd.slice 35 kOp)))) (fun x => x)
abbrev opWf (b : OpT) : Prop := (Lit.int .i64 b.1).wf = true ∧ b.2.1.size ≤ 9223372036854775807 ∧ (Lit.int .u64 b.2.2).wf = true
theorem op_opens : Opens Try.prog 35 kOp opWf (fun b : OpT => 1 + ((b.2.1.size + 1) + 1) + 1) :=
  Opens.struct (total := 3) (fun x => x) (fun x => x) (fun _ => rfl) Try.underlying35 (by kernel_rfl) (OpensFs.cons rfl (by kernel_rfl) (Opens.int .i64 Try.underlying3) (OpensFs.cons rfl (by kernel_rfl) (Opens.str Try.underlying9) (OpensFs.last rfl (by kernel_rfl) (by kernel_rfl) (Opens.int .u64 Try.underlying22))))
abbrev storyWf (b : StoryT) : Prop := (Lit.int .i64 b.1).wf = true ∧ (Lit.int .u64 b.2.1).wf = true ∧ (Lit.int .i64 b.2.2.1).wf = true ∧ ∀ x ∈ b.2.2.2, opWf x
theorem story_opens : Opens Try.prog 25 kStory storyWf (fun b : StoryT => 1 + (1 + (1 + ((b.2.2.2.map fun b : OpT => 1 + ((b.2.1.size + 1) + 1) + 1).sum + 1))) + 1) :=
  Opens.struct (total := 4) (fun x => x) (fun x => x) (fun _ => rfl) Try.underlying25 (by kernel_rfl) (OpensFs.cons rfl (by kernel_rfl) (Opens.int .i64 Try.underlying3) (OpensFs.cons rfl (by kernel_rfl) (Opens.int .u64 Try.underlying22) (OpensFs.cons rfl (by kernel_rfl) (Opens.int .i64 Try.underlying3)
    (OpensFs.last rfl (by kernel_rfl) (by kernel_rfl) (Opens.slice Try.underlying23 (by kernel_rfl) op_opens)))))
theorem bounds_u64L {x : Int} (h : (Lit.int .u64 x).wf = true) : 0 ≤ x ∧ x ≤ 18446744073709551615 := by
  simp only [Lit.wf, Bool.and_eq_true, decide_eq_true_eq, show IntKind.u64.min = 0 by decide, show IntKind.u64.max = 18446744073709551615 by decide] at h
  exact h
theorem opN_mem {xs : List OpT} {i : Nat} (h : i < xs.length) : opN xs i ∈ xs := by
  unfold opN
  rw [List.getD_eq_getElem?_getD, List.getElem?_eq_getElem h]
  exact List.getElem_mem h
end Go.Proofs.Ytgdjoochbgeokaa.Hand
