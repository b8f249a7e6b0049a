/- A region that draws its order, in a round of a loop over a function, at the wide fence: by what is shown of it outside of rounds. -/
import Derived.Test.YtdlfhpkkkhfhdaaDoorWMore
import Derived.Test.YtdlfhpkkkhfhdaaDoorWLast
import Derived.RangeFuncNested
import Derived.RangeFuncBound
import Derived.RangeFuncCalls
import Derived.RangeFuncLeaves
import Derived.OwnWalkIn
import Derived.TacticsInMore
namespace Go.Proofs.YtdlfhpkkkhfhdaaDoor.Hand
open Go.RowKit Go.Proofs.YtdlfhpkkkhfhdaaDoorW.PrintWords Go.Proofs.YtdlfhpkkkhfhdaaDoorW.PrintLast Go.Proofs.YtdlfhpkkkhfhdaaDoorW.PrintMore
set_option linter.unusedVariables false

/-- It goes on, in no other way. -/
def normOnly (Q : Exit → Act → World → Prop) : Exit → Act → World → Prop
  | .normal, a, w => Q .normal a w
  | .ret, _, _ => False
  | .exit _, _, _ => False
  | .goto _, _, _ => False
  | .panic _, _, _ => False
  | .outgrown, _, _ => False
theorem normOnly_lets (Q : Exit → Act → World → Prop) : ¬ LetsOut (normOnly Q) := by
  rintro ⟨_, _, h⟩
  exact h
/-- The wide fence, in a round or in none. -/
abbrev wideAt (ro : Option Nat) : Fence := { Fence.wide with round := ro }
theorem operIn_of {P : Program} {o : Oper} {a : Act} {w : World} {r : Option Nat} {n : Nat} {Q : Exit → Act → World → Prop} {K K' : Act → World → Prop} (hd : ∀ c, o.op ≠ .defer c) (h : o.wp P a w K (normOnly Q)) (hK : ∀ a w, K a w → K' a w) : o.wpIn (wideAt r) n P a w K' Q := by
  unfold Oper.wp at h
  unfold Oper.wpIn
  refine ⟨fun _ _ => trivial, ?_⟩
  rw [Oper.semAt_plain (wideAt r) _ _ hd]
  generalize (execOp a.eval o).run P w = res at h ⊢
  cases res with
  | ok x w' =>
    cases x with
    | value v => exact hK _ _ h
    | skip => exact hK _ _ h
    | defer d => exact hK _ _ h
    | enter f args =>
      refine ⟨fun h => by simp [wideAt, Fence.wide] at h, (show CallsIn Fence.wide (n - 1) P f args w' _ from (callsIn_wide.2 (show Calls P f args w' _ from h)).mono (fun e w'' he => ?_))⟩
      cases e with
      | returned v => exact hK _ _ he
      | panicked c => exact he.elim
      | outgrown => exact absurd he (normOnly_lets Q)
    | row row args =>
      refine ⟨fun h => by simp [wideAt, Fence.wide] at h, fun c cs _ => ?_⟩
      obtain ⟨v, w'', hr, hs⟩ := (show Rows P row args w' _ from h) c cs
      exact ⟨v, w'', hK _ _ hr, stepsIn_wide.2 hs⟩
    | _ => exact h.elim
  | halt x w' =>
    cases x <;> exact h.elim
theorem opsIn_of {P : Program} {ops : Array Oper} {r : Option Nat} {n : Nat} {Q : Exit → Act → World → Prop} (hd : ∀ (i : Nat) (o : Oper), ops[i]? = some o → ∀ c, o.op ≠ .defer c) : ∀ (is : List Nat) (a : Act) (w : World), wpOps P ops (normOnly Q) is a w → wpOpsIn (wideAt r) n P ops Q is a w
  | [], _, _, h => h
  | i :: rest, a, w, h => by
    unfold wpOps at h
    unfold wpOpsIn
    cases ho : ops[i]? with
    | none =>
      rw [ho] at h
      exact opsIn_of hd rest a w h
    | some o =>
      rw [ho] at h
      simp only at h ⊢
      by_cases hw : Region.wanted o (yielded ops a.tmps) = true
      · rw [if_pos hw] at h ⊢
        rcases h with h | h
        · exact operIn_of (hd i o ho) h (fun a w h => opsIn_of hd rest a w h)
        · exact absurd h.2 (normOnly_lets Q)
      · rw [if_neg hw] at h ⊢
        exact ⟨fun _ _ => trivial, opsIn_of hd rest _ w h⟩
def noDefer (ops : Array Oper) : Bool := ops.toList.all fun o => match o.op with | .defer _ => false | _ => true
theorem noDefer_spec {ops : Array Oper} (h : noDefer ops = true) (i : Nat) (o : Oper) (ho : ops[i]? = some o) (c : Call) : o.op ≠ .defer c := fun e => by
  unfold noDefer at h
  have hm : o ∈ ops.toList := by
    rw [← Array.getElem?_toList] at ho
    exact List.mem_of_getElem? ho
  have h2 := List.all_eq_true.1 h o hm
  rw [e] at h2
  cases h2
theorem startIn_ {P : Program} {ops : Array Oper} {Q : Exit → Act → World → Prop} {S : World → Prop} {ds : List Nat} {id n : Nat} {r m : Nat} {a : Act} {w : World} (l : Array Bool) (hm : P.follows .mixedOrders = true) (hn : ops.size = n) (hl : Array.replicate n false = l) (hS : S w.drew)
    (h : S w.drew → wpAnyLast P .any ops (normOnly Q) S ds n l a w.drew) (hd : noDefer ops = true := by kernel_rfl) : (Code.region id ops true).wpIn (Fence.wide.inRound r) m P Q a w := by
  subst hn
  subst hl
  refine wpIn_region_draw fun t => opsIn_of (r := some r) (noDefer_spec hd) _ _ _ ?_
  simp only [Region.schedule, hm, Bool.true_or, if_true]
  exact wpAny_sound ops.size t _ a _ (wpAny_of_last _ _ _ _ (h hS))
theorem startW_ {P : Program} {ops : Array Oper} {Q : Exit → Act → World → Prop} {S : World → Prop} {ds : List Nat} {id n : Nat} {m : Nat} {a : Act} {w : World} (l : Array Bool) (hm : P.follows .mixedOrders = true) (hn : ops.size = n) (hl : Array.replicate n false = l) (hS : S w.drew)
    (h : S w.drew → wpAnyLast P .any ops (normOnly Q) S ds n l a w.drew) (hd : noDefer ops = true := by kernel_rfl) : (Code.region id ops true).wpIn Fence.wide m P Q a w := by
  subst hn
  subst hl
  refine wpIn_region_draw fun t => opsIn_of (r := none) (noDefer_spec hd) _ _ _ ?_
  simp only [Region.schedule, hm, Bool.true_or, if_true]
  exact wpAny_sound ops.size t _ a _ (wpAny_of_last _ _ _ _ (h hS))
end Go.Proofs.YtdlfhpkkkhfhdaaDoor.Hand
