/- FrameTurned: what comes in, taken apart; the walk and the plain law, joined. -/
import Derived.Test.YtdlfhpkkkhfhdaaDoorHTurnedM
import Derived.Test.YtdlfhpkkkhfhdaaDoorHOpens
import Derived.OpenShut
namespace Go.Proofs.YtdlfhpkkkhfhdaaDoor.Hand
open Go.RowKit Go.Proofs.YtdlfhpkkkhfhdaaDoorW.PrintWords Go.Proofs.YtdlfhpkkkhfhdaaDoorW.PrintLast Go.Proofs.YtdlfhpkkkhfhdaaDoorW.PrintMore Go.Proofs.YtdlfhpkkkhfhdaaDoor.Q Go.Proofs.YtdlfhpkkkhfhdaaDoor.Z
set_option linter.unusedVariables false
abbrev TurnedT := Int × List Int × Int × Int × Bool
abbrev kTurned : Kd TurnedT := Kd.iso (Kd.pair (Kd.int .u8) (Kd.pair (Kd.slice 5 (Kd.int .u8)) (Kd.pair (Kd.int .i64) (Kd.pair (Kd.int .u32) Kd.bool)))) (fun x => x)
theorem turned_opens : Opens Tryd.prog 49 kTurned (fun b : TurnedT => (Lit.int .u8 b.1).wf = true ∧ (∀ x ∈ b.2.1, (Lit.int .u8 x).wf = true) ∧ (Lit.int .i64 b.2.2.1).wf = true ∧ (Lit.int .u32 b.2.2.2.1).wf = true ∧ True)
    (fun b : TurnedT => 1 + (((b.2.1.map fun _ => 1).sum + 1) + (1 + (1 + 1))) + 1) :=
  Opens.struct (total := 5) (fun x => x) (fun x => x) (fun _ => rfl) Tryd.underlying49 (by kernel_rfl) (OpensFs.cons rfl (by kernel_rfl) (Opens.int .u8 Tryd.underlying5) (OpensFs.cons rfl (by kernel_rfl) (Opens.slice Tryd.underlying22 (by kernel_rfl) (Opens.int .u8 Tryd.underlying5))
    (OpensFs.cons rfl (by kernel_rfl) (Opens.int .i64 Tryd.underlying3) (OpensFs.cons rfl (by kernel_rfl) (Opens.int .u32 Tryd.underlying23) (OpensFs.last rfl (by kernel_rfl) (by kernel_rfl) (Opens.bool Tryd.underlying4))))))
theorem frameTurned_machine (W : World) (hT : Tb W) (cs : Array Value) (x : TurnedT) (hk : kTurned.K W x cs.toList) (hw : (Lit.int .u8 x.1).wf = true ∧ (∀ y ∈ x.2.1, (Lit.int .u8 y).wf = true) ∧ (Lit.int .i64 x.2.2.1).wf = true ∧ (Lit.int .u32 x.2.2.2.1).wf = true ∧ True)
    (hb : 1 + (((x.2.1.map fun _ => 1).sum + 1) + (1 + (1 + 1))) + 1 ≤ 1048576) :
    Calls Tryd.prog 7 #[.agg cs] W fun e w' => e = .returned (.bool true) ∧ Below W.heap.size W w' := by
  obtain ⟨kind, l, at0, pat, os⟩ := x
  obtain ⟨q1, q2, e1, hk1, q3, q4, e2, ⟨A, c, hq3, hc, hC⟩, q5, q6, e3, hk5, q7, q8, e4, hk7, hk8⟩ := hk
  obtain ⟨w1, w2, w3, w4, _⟩ := hw
  simp only at w1 w2 w3 w4 hb hC hc hq3
  rw [sum_ones] at hb
  have b1 := bounds_u8 w1
  have b3 := bounds_i64 w3
  have b4 := bounds_u32 w4
  have hcs : cs = #[.int .u8 kind, .slice A l.length c, .int .i64 at0, .int .u32 pat, .bool os] := by
    apply Array.ext'
    rw [e1, e2, e3, e4, hk1, hq3, hk5, hk7, hk8]
    rfl
  subst hcs
  obtain ⟨k, h⟩ := (frameTurned_ev kind l at0 pat os (by omega) (bytes_wf w2) (by omega) (by omega) (by omega)).rounds
  exact wicketlaw01_FrameTurned.calls k kind A c l at0 pat os true W hT hC hc h
end Go.Proofs.YtdlfhpkkkhfhdaaDoor.Hand
