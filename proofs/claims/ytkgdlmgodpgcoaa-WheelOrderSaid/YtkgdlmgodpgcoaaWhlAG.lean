/- Wheel: orders that come in, taken apart; WheelOrder joined. -/
import Derived.Test.YtkgdlmgodpgcoaaWhlAF
namespace Go.Proofs.Ytkgdlmgodpgcoaa.Hand
open Go.RowKit Go.Maps Go.Proofs.YtkgdlmgodpgcoaaW.PrintWords Go.Proofs.YtkgdlmgodpgcoaaW.PrintLast Go.Proofs.YtkgdlmgodpgcoaaW.PrintMore
set_option linter.unusedVariables false
abbrev OrdersT := Int × List TimT × List Int × Int
abbrev kOrders : Kd OrdersT := Kd.iso (Kd.pair (Kd.int .u64) (Kd.pair (Kd.slice 56 kT) (Kd.pair (Kd.slice 22 (Kd.int .u64)) (Kd.int .u64)))) (fun x => x)
abbrev timWf (b : TimT) : Prop := (Lit.int .u64 b.1).wf = true ∧ (Lit.int .u64 b.2).wf = true
set_option maxRecDepth 100000 in
theorem tim_opens : Opens Try.prog 56 kT timWf (fun b : TimT => (1 + 1) + 1) :=
  Opens.struct (total := 2) (fun x => x) (fun x => x) (fun _ => rfl) Try.underlying56 (by kernel_rfl) (OpensFs.cons rfl (by kernel_rfl) (Opens.int .u64 Try.underlying22) (OpensFs.last rfl (by kernel_rfl) (by kernel_rfl) (Opens.int .u64 Try.underlying22)))
abbrev ordersWf (b : OrdersT) : Prop := (Lit.int .u64 b.1).wf = true ∧ (∀ x ∈ b.2.1, timWf x) ∧ (∀ x ∈ b.2.2.1, (Lit.int .u64 x).wf = true) ∧ (Lit.int .u64 b.2.2.2).wf = true
set_option maxRecDepth 100000 in
theorem orders_opens : Opens Try.prog 68 kOrders ordersWf (fun b : OrdersT => (1 + (((b.2.1.map fun b : TimT => (1 + 1) + 1).sum + 1) + (((b.2.2.1.map fun b : Int => 1).sum + 1) + 1))) + 1) :=
  Opens.struct (total := 4) (fun x => x) (fun x => x) (fun _ => rfl) Try.underlying68 (by kernel_rfl) (OpensFs.cons rfl (by kernel_rfl) (Opens.int .u64 Try.underlying22)
    (OpensFs.cons rfl (by kernel_rfl) (Opens.slice Try.underlying37 (by kernel_rfl) tim_opens)
    (OpensFs.cons rfl (by kernel_rfl) (Opens.slice Try.underlying42 (by kernel_rfl) (Opens.int .u64 Try.underlying22))
    (OpensFs.last rfl (by kernel_rfl) (by kernel_rfl) (Opens.int .u64 Try.underlying22)))))
theorem getD_mem {l : List Int} {i : Nat} (h : i < l.length) : l.getD i 0 ∈ l := by
  rw [List.getD_eq_getElem?_getD, List.getElem?_eq_getElem h]
  exact List.getElem_mem h
theorem wheelOrder_machine (W : World) (cs : Array Value) (x : OrdersT) (hk : kOrders.K W x cs.toList) (hw : ordersWf x) :
    Calls Try.prog 8 #[.agg cs] W fun e w' => e = .returned (.bool true) ∧ Below W.heap.size W w' := by
  obtain ⟨now, l, gone, to_⟩ := x
  obtain ⟨q1, q2, e1, hk1, ⟨q3, q4, e2, ⟨A, c, hq, hc, hC⟩, ⟨q5, q6, e3, ⟨Ag, cg, hqg, hcg, hCg⟩, hk4⟩⟩⟩ := hk
  obtain ⟨w1, w2, w3, w4⟩ := hw
  simp only at w1 w2 w3 w4 hC hc hq hCg hcg hqg
  have hcs : cs = #[.int .u64 now, .slice A l.length c, .slice Ag gone.length cg, .int .u64 to_] := by
    apply Array.ext'
    rw [e1, e2, e3, hk1, hk4, hq, hqg]
    rfl
  subst hcs
  exact wheelOrder.walk now A Ag l.length c gone.length cg l gone to_ W hC hCg (wf_U w1) (wf_U w4) (fun i hi => ⟨wf_U (w2 _ (timN_mem hi)).1, wf_U (w2 _ (timN_mem hi)).2⟩) (fun i hi => wf_U (w3 _ (getD_mem hi)))
end Go.Proofs.Ytkgdlmgodpgcoaa.Hand
