/-
  No cell of these rows narrows 'for every input' (looked for: loops, veiled, ifaces, maps, wideKeys, modest, calm, conditions, laid).
  DERIVED. THE GIVEN ROWS OF THIS SEAT. 9 by the template 'for every input the law returns true; each argument reads behind the call as it read before'; 0 by the template 'total and deterministic' (their statements: YtkgdlmgodpgcoaaTotals.lean).
  GIVEN WITH THE SEED: the statements are not yours to turn. If you find one false, say at which input.
  Laid BY PROGRAM, IN A SANDBOX (cutbox-rows.mjs): the forced cells as the released guide's own fill.sh prints them over the translation 6f817db4cc9d140c… (all of the seat's roots in one cut). By AI agents, Wed Nov 11 2026. No macro, syntax, notation, axiom, sorry.
-/
import Derived.Test.YtkgdlmgodpgcoaaChecked
import GoSem.Claim
import GoSem.ClaimJoined
import GoSem.ClaimMapViews
import Derived.JoinedTies
import Derived.KernelRfl
namespace Go.Proofs.Ytkgdlmgodpgcoaa
/- THE CELL 'sum', in the pinned program and in every row, IS THE sha256 OF THE DUMP (.gsa) THAT YtkgdlmgodpgcoaaProg.lean LOADS. Nothing in Lean hashes anything: it is a label: what it is worth is what the hold of that sum in a sandbox is worth. -/
noncomputable def Try.pinned : Pinned := { name := "ytkgdlmgodpgcoaa", sum := "6f817db4cc9d140ca800ede24d20bb1dcf1ac8cb9ded548fa5f9cc0bfe7a70c4", checked := Try.checked }
namespace Rows
def none {H : Type} : Left H := { results := [], args := [] }

/-- 'wicketlaw07.WheelLater': WHATEVER THE INPUT: true; the input reads as it did. -/
def wheelLaterSpec : ChangeSpec := { name := "wheelLater", fn := fun _ => fun
  | [d1, d2] => { results := [.lit (.bool true)], args := [d1, d2] }
  | _ => none }
def wheelLaterRow : OpenClaim := { program := "ytkgdlmgodpgcoaa", sum := "6f817db4cc9d140ca800ede24d20bb1dcf1ac8cb9ded548fa5f9cc0bfe7a70c4", func := "wicket/wicketlaw07.WheelLater", spec := "wheelLater", apart := false }
def WheelLaterSaid : Prop := wheelLaterRow.holds Try.pinned (OpenSpec.ofChange wheelLaterSpec)

/-- ITS FALSE NEIGHBOUR: 'it returns false'. Refute it at one input. -/
def wheelLaterWrong : ChangeSpec := { name := "wheelLater", fn := fun _ => fun
  | [d1, d2] => { results := [.lit (.bool false)], args := [d1, d2] }
  | _ => none }
def WheelLaterWrongFalsely : Prop := wheelLaterRow.holds Try.pinned (OpenSpec.ofChange wheelLaterWrong)

/-- 'wicketlaw07.WheelNames': WHATEVER THE INPUT: true; the input reads as it did. -/
def wheelNamesSpec : ChangeSpec := { name := "wheelNames", fn := fun _ => fun
  | [] => { results := [.lit (.bool true)], args := [] }
  | _ => none }
def wheelNamesRow : OpenClaim := { program := "ytkgdlmgodpgcoaa", sum := "6f817db4cc9d140ca800ede24d20bb1dcf1ac8cb9ded548fa5f9cc0bfe7a70c4", func := "wicket/wicketlaw07.WheelNames", spec := "wheelNames", unfollowed := true, recurses := true, apart := false }
def WheelNamesSaid : Prop := wheelNamesRow.holds Try.pinned (OpenSpec.ofChange wheelNamesSpec)

/-- ITS FALSE NEIGHBOUR: 'it returns false'. Refute it at one input. -/
def wheelNamesWrong : ChangeSpec := { name := "wheelNames", fn := fun _ => fun
  | [] => { results := [.lit (.bool false)], args := [] }
  | _ => none }
def WheelNamesWrongFalsely : Prop := wheelNamesRow.holds Try.pinned (OpenSpec.ofChange wheelNamesWrong)

/-- 'wicketlaw07.WheelFills': WHATEVER THE INPUT: true; the input reads as it did. -/
def wheelFillsSpec : ChangeSpec := { name := "wheelFills", fn := fun _ => fun
  | [d] => { results := [.lit (.bool true)], args := [d] }
  | _ => none }
def wheelFillsRow : OpenClaim := { program := "ytkgdlmgodpgcoaa", sum := "6f817db4cc9d140ca800ede24d20bb1dcf1ac8cb9ded548fa5f9cc0bfe7a70c4", func := "wicket/wicketlaw07.WheelFills", spec := "wheelFills", unfollowed := true, recurses := true, apart := false }
def WheelFillsSaid : Prop := wheelFillsRow.holds Try.pinned (OpenSpec.ofChange wheelFillsSpec)

/-- ITS FALSE NEIGHBOUR: 'it returns false'. Refute it at one input. -/
def wheelFillsWrong : ChangeSpec := { name := "wheelFills", fn := fun _ => fun
  | [d] => { results := [.lit (.bool false)], args := [d] }
  | _ => none }
def WheelFillsWrongFalsely : Prop := wheelFillsRow.holds Try.pinned (OpenSpec.ofChange wheelFillsWrong)

/-- 'wicketlaw07.WheelOnce': WHATEVER THE INPUT: true; the input reads as it did. -/
def wheelOnceSpec : ChangeSpec := { name := "wheelOnce", fn := fun _ => fun
  | [d] => { results := [.lit (.bool true)], args := [d] }
  | _ => none }
def wheelOnceRow : OpenClaim := { program := "ytkgdlmgodpgcoaa", sum := "6f817db4cc9d140ca800ede24d20bb1dcf1ac8cb9ded548fa5f9cc0bfe7a70c4", func := "wicket/wicketlaw07.WheelOnce", spec := "wheelOnce", unfollowed := true, recurses := true, apart := false }
def WheelOnceSaid : Prop := wheelOnceRow.holds Try.pinned (OpenSpec.ofChange wheelOnceSpec)

/-- ITS FALSE NEIGHBOUR: 'it returns false'. Refute it at one input. -/
def wheelOnceWrong : ChangeSpec := { name := "wheelOnce", fn := fun _ => fun
  | [d] => { results := [.lit (.bool false)], args := [d] }
  | _ => none }
def WheelOnceWrongFalsely : Prop := wheelOnceRow.holds Try.pinned (OpenSpec.ofChange wheelOnceWrong)

/-- 'wicketlaw07.WheelCuts': WHATEVER THE INPUT: true; the input reads as it did. -/
def wheelCutsSpec : ChangeSpec := { name := "wheelCuts", fn := fun _ => fun
  | [d1, d2, d3] => { results := [.lit (.bool true)], args := [d1, d2, d3] }
  | _ => none }
def wheelCutsRow : OpenClaim := { program := "ytkgdlmgodpgcoaa", sum := "6f817db4cc9d140ca800ede24d20bb1dcf1ac8cb9ded548fa5f9cc0bfe7a70c4", func := "wicket/wicketlaw07.WheelCuts", spec := "wheelCuts", unfollowed := true, recurses := true, apart := false }
def WheelCutsSaid : Prop := wheelCutsRow.holds Try.pinned (OpenSpec.ofChange wheelCutsSpec)

/-- ITS FALSE NEIGHBOUR: 'it returns false'. Refute it at one input. -/
def wheelCutsWrong : ChangeSpec := { name := "wheelCuts", fn := fun _ => fun
  | [d1, d2, d3] => { results := [.lit (.bool false)], args := [d1, d2, d3] }
  | _ => none }
def WheelCutsWrongFalsely : Prop := wheelCutsRow.holds Try.pinned (OpenSpec.ofChange wheelCutsWrong)

/-- 'wicketlaw07.WheelOrder': WHATEVER THE INPUT: true; the input reads as it did. -/
def wheelOrderSpec : ChangeSpec := { name := "wheelOrder", fn := fun _ => fun
  | [d] => { results := [.lit (.bool true)], args := [d] }
  | _ => none }
def wheelOrderRow : OpenClaim := { program := "ytkgdlmgodpgcoaa", sum := "6f817db4cc9d140ca800ede24d20bb1dcf1ac8cb9ded548fa5f9cc0bfe7a70c4", func := "wicket/wicketlaw07.WheelOrder", spec := "wheelOrder", unfollowed := true, recurses := true, apart := false }
def WheelOrderSaid : Prop := wheelOrderRow.holds Try.pinned (OpenSpec.ofChange wheelOrderSpec)

/-- ITS FALSE NEIGHBOUR: 'it returns false'. Refute it at one input. -/
def wheelOrderWrong : ChangeSpec := { name := "wheelOrder", fn := fun _ => fun
  | [d] => { results := [.lit (.bool false)], args := [d] }
  | _ => none }
def WheelOrderWrongFalsely : Prop := wheelOrderRow.holds Try.pinned (OpenSpec.ofChange wheelOrderWrong)

/-- 'wicketlaw07.WheelSteps': WHATEVER THE INPUT: true; the input reads as it did. -/
def wheelStepsSpec : ChangeSpec := { name := "wheelSteps", fn := fun _ => fun
  | [d] => { results := [.lit (.bool true)], args := [d] }
  | _ => none }
def wheelStepsRow : OpenClaim := { program := "ytkgdlmgodpgcoaa", sum := "6f817db4cc9d140ca800ede24d20bb1dcf1ac8cb9ded548fa5f9cc0bfe7a70c4", func := "wicket/wicketlaw07.WheelSteps", spec := "wheelSteps", unfollowed := true, recurses := true, apart := false }
def WheelStepsSaid : Prop := wheelStepsRow.holds Try.pinned (OpenSpec.ofChange wheelStepsSpec)

/-- ITS FALSE NEIGHBOUR: 'it returns false'. Refute it at one input. -/
def wheelStepsWrong : ChangeSpec := { name := "wheelSteps", fn := fun _ => fun
  | [d] => { results := [.lit (.bool false)], args := [d] }
  | _ => none }
def WheelStepsWrongFalsely : Prop := wheelStepsRow.holds Try.pinned (OpenSpec.ofChange wheelStepsWrong)

/-- 'wicketlaw07.WheelPlays': WHATEVER THE INPUT: true; the input reads as it did. -/
def wheelPlaysSpec : ChangeSpec := { name := "wheelPlays", fn := fun _ => fun
  | [d] => { results := [.lit (.bool true)], args := [d] }
  | _ => none }
def wheelPlaysRow : OpenClaim := { program := "ytkgdlmgodpgcoaa", sum := "6f817db4cc9d140ca800ede24d20bb1dcf1ac8cb9ded548fa5f9cc0bfe7a70c4", func := "wicket/wicketlaw07.WheelPlays", spec := "wheelPlays", unfollowed := true, recurses := true, apart := false }
def WheelPlaysSaid : Prop := wheelPlaysRow.holds Try.pinned (OpenSpec.ofChange wheelPlaysSpec)

/-- ITS FALSE NEIGHBOUR: 'it returns false'. Refute it at one input. -/
def wheelPlaysWrong : ChangeSpec := { name := "wheelPlays", fn := fun _ => fun
  | [d] => { results := [.lit (.bool false)], args := [d] }
  | _ => none }
def WheelPlaysWrongFalsely : Prop := wheelPlaysRow.holds Try.pinned (OpenSpec.ofChange wheelPlaysWrong)

/-- 'wicketlaw07.WheelNil': WHATEVER THE INPUT: true; the input reads as it did. -/
def wheelNilSpec : ChangeSpec := { name := "wheelNil", fn := fun _ => fun
  | [d1, d2] => { results := [.lit (.bool true)], args := [d1, d2] }
  | _ => none }
def wheelNilRow : OpenClaim := { program := "ytkgdlmgodpgcoaa", sum := "6f817db4cc9d140ca800ede24d20bb1dcf1ac8cb9ded548fa5f9cc0bfe7a70c4", func := "wicket/wicketlaw07.WheelNil", spec := "wheelNil", unfollowed := true, recurses := true, apart := false }
def WheelNilSaid : Prop := wheelNilRow.holds Try.pinned (OpenSpec.ofChange wheelNilSpec)

/-- ITS FALSE NEIGHBOUR: 'it returns false'. Refute it at one input. -/
def wheelNilWrong : ChangeSpec := { name := "wheelNil", fn := fun _ => fun
  | [d1, d2] => { results := [.lit (.bool false)], args := [d1, d2] }
  | _ => none }
def WheelNilWrongFalsely : Prop := wheelNilRow.holds Try.pinned (OpenSpec.ofChange wheelNilWrong)

/- THE SECOND FORM. 'bulk': how many values and letters a reading holds, each counted each time it is reached (what is shared counts as often as it is met; a slice's spare places count too). A statement '..UptoSaid' is the law's where the arguments, and the package variables that the reading takes, are together of bulk at most 1048576: NARROWER than '..Said'. Prove '..Said' where nothing that the law and all that it calls make is longer than what came in: it says more and counts as full. Else prove '..UptoSaid'. A law counts once. -/
mutual
def uptoBulk {H : Type} : DataW H → Nat
  | .lit (.string bytes) => bytes.length + 1
  | .lit _ => 1
  | .nil => 1
  | .ptr d => uptoBulk d + 1
  | .slice elems spare => uptoBulkAll elems + uptoBulkAll spare + 1
  | .agg parts => uptoBulkAll parts + 1
  | .iface _ d => uptoBulk d + 1
  | .map entries => uptoBulkEntries entries + 1
  | .held _ => 1
def uptoBulkAll {H : Type} : List (DataW H) → Nat
  | [] => 0
  | d :: r => uptoBulk d + uptoBulkAll r
def uptoBulkEntries {H : Type} : List (Lit × DataW H) → Nat
  | [] => 0
  | x :: r => uptoBulkEntry x + uptoBulkEntries r
def uptoBulkEntry {H : Type} : Lit × DataW H → Nat
  | (.string bytes, d) => bytes.length + uptoBulk d + 1
  | (_, d) => uptoBulk d + 1
 end
def uptoSmall : (H : Type) → List (DataW H) → Bool := fun _ ds => decide (uptoBulkAll ds ≤ 1048576)
def OpenSpec.upto (s : _root_.Go.ChangeSpec) : _root_.Go.OpenSpec := { _root_.Go.OpenSpec.ofChange s with cond := some uptoSmall }

/-- 'wicketlaw07.WheelLater', WHERE WHAT IT READS IS OF BULK AT MOST 1048576: true; the input reads as it did. -/
def wheelLaterUptoRow : OpenClaim := { program := "ytkgdlmgodpgcoaa", sum := "6f817db4cc9d140ca800ede24d20bb1dcf1ac8cb9ded548fa5f9cc0bfe7a70c4", func := "wicket/wicketlaw07.WheelLater", spec := "wheelLater", apart := false, narrowed := true }
def WheelLaterUptoSaid : Prop := wheelLaterUptoRow.holds Try.pinned (OpenSpec.upto wheelLaterSpec)

/-- 'wicketlaw07.WheelNames', WHERE WHAT IT READS IS OF BULK AT MOST 1048576: true; the input reads as it did. -/
def wheelNamesUptoRow : OpenClaim := { program := "ytkgdlmgodpgcoaa", sum := "6f817db4cc9d140ca800ede24d20bb1dcf1ac8cb9ded548fa5f9cc0bfe7a70c4", func := "wicket/wicketlaw07.WheelNames", spec := "wheelNames", unfollowed := true, recurses := true, apart := false, narrowed := true }
def WheelNamesUptoSaid : Prop := wheelNamesUptoRow.holds Try.pinned (OpenSpec.upto wheelNamesSpec)

/-- 'wicketlaw07.WheelFills', WHERE WHAT IT READS IS OF BULK AT MOST 1048576: true; the input reads as it did. -/
def wheelFillsUptoRow : OpenClaim := { program := "ytkgdlmgodpgcoaa", sum := "6f817db4cc9d140ca800ede24d20bb1dcf1ac8cb9ded548fa5f9cc0bfe7a70c4", func := "wicket/wicketlaw07.WheelFills", spec := "wheelFills", unfollowed := true, recurses := true, apart := false, narrowed := true }
def WheelFillsUptoSaid : Prop := wheelFillsUptoRow.holds Try.pinned (OpenSpec.upto wheelFillsSpec)

/-- 'wicketlaw07.WheelOnce', WHERE WHAT IT READS IS OF BULK AT MOST 1048576: true; the input reads as it did. -/
def wheelOnceUptoRow : OpenClaim := { program := "ytkgdlmgodpgcoaa", sum := "6f817db4cc9d140ca800ede24d20bb1dcf1ac8cb9ded548fa5f9cc0bfe7a70c4", func := "wicket/wicketlaw07.WheelOnce", spec := "wheelOnce", unfollowed := true, recurses := true, apart := false, narrowed := true }
def WheelOnceUptoSaid : Prop := wheelOnceUptoRow.holds Try.pinned (OpenSpec.upto wheelOnceSpec)

/-- 'wicketlaw07.WheelCuts', WHERE WHAT IT READS IS OF BULK AT MOST 1048576: true; the input reads as it did. -/
def wheelCutsUptoRow : OpenClaim := { program := "ytkgdlmgodpgcoaa", sum := "6f817db4cc9d140ca800ede24d20bb1dcf1ac8cb9ded548fa5f9cc0bfe7a70c4", func := "wicket/wicketlaw07.WheelCuts", spec := "wheelCuts", unfollowed := true, recurses := true, apart := false, narrowed := true }
def WheelCutsUptoSaid : Prop := wheelCutsUptoRow.holds Try.pinned (OpenSpec.upto wheelCutsSpec)

/-- 'wicketlaw07.WheelOrder', WHERE WHAT IT READS IS OF BULK AT MOST 1048576: true; the input reads as it did. -/
def wheelOrderUptoRow : OpenClaim := { program := "ytkgdlmgodpgcoaa", sum := "6f817db4cc9d140ca800ede24d20bb1dcf1ac8cb9ded548fa5f9cc0bfe7a70c4", func := "wicket/wicketlaw07.WheelOrder", spec := "wheelOrder", unfollowed := true, recurses := true, apart := false, narrowed := true }
def WheelOrderUptoSaid : Prop := wheelOrderUptoRow.holds Try.pinned (OpenSpec.upto wheelOrderSpec)

/-- 'wicketlaw07.WheelSteps', WHERE WHAT IT READS IS OF BULK AT MOST 1048576: true; the input reads as it did. -/
def wheelStepsUptoRow : OpenClaim := { program := "ytkgdlmgodpgcoaa", sum := "6f817db4cc9d140ca800ede24d20bb1dcf1ac8cb9ded548fa5f9cc0bfe7a70c4", func := "wicket/wicketlaw07.WheelSteps", spec := "wheelSteps", unfollowed := true, recurses := true, apart := false, narrowed := true }
def WheelStepsUptoSaid : Prop := wheelStepsUptoRow.holds Try.pinned (OpenSpec.upto wheelStepsSpec)

/-- 'wicketlaw07.WheelPlays', WHERE WHAT IT READS IS OF BULK AT MOST 1048576: true; the input reads as it did. -/
def wheelPlaysUptoRow : OpenClaim := { program := "ytkgdlmgodpgcoaa", sum := "6f817db4cc9d140ca800ede24d20bb1dcf1ac8cb9ded548fa5f9cc0bfe7a70c4", func := "wicket/wicketlaw07.WheelPlays", spec := "wheelPlays", unfollowed := true, recurses := true, apart := false, narrowed := true }
def WheelPlaysUptoSaid : Prop := wheelPlaysUptoRow.holds Try.pinned (OpenSpec.upto wheelPlaysSpec)

/-- 'wicketlaw07.WheelNil', WHERE WHAT IT READS IS OF BULK AT MOST 1048576: true; the input reads as it did. -/
def wheelNilUptoRow : OpenClaim := { program := "ytkgdlmgodpgcoaa", sum := "6f817db4cc9d140ca800ede24d20bb1dcf1ac8cb9ded548fa5f9cc0bfe7a70c4", func := "wicket/wicketlaw07.WheelNil", spec := "wheelNil", unfollowed := true, recurses := true, apart := false, narrowed := true }
def WheelNilUptoSaid : Prop := wheelNilUptoRow.holds Try.pinned (OpenSpec.upto wheelNilSpec)

end Rows
end Go.Proofs.Ytkgdlmgodpgcoaa
