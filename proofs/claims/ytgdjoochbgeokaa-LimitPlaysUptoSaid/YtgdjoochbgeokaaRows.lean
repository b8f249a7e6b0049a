/-
  No cell of these rows narrows 'for every input' (looked for: loops, veiled, ifaces, maps, wideKeys, modest, calm, conditions, laid).
  DERIVED. THE GIVEN ROWS OF THIS SEAT. 4 by the template 'for every input the law returns true; each argument reads behind the call as it read before'; 0 by the template 'total and deterministic' (their statements: YtgdjoochbgeokaaTotals.lean).
  GIVEN WITH THE SEED: the statements are not yours to turn. If you find one false, say at which input.
  Laid BY PROGRAM, IN A SANDBOX (cutbox-rows.mjs): the forced cells as the released guide's own fill.sh prints them over the translation c3cb203bd712a140… (all of the seat's roots in one cut). By AI agents, Wed Nov 11 2026. No macro, syntax, notation, axiom, sorry.
-/
import Derived.Test.YtgdjoochbgeokaaChecked
import GoSem.Claim
import GoSem.ClaimJoined
import GoSem.ClaimMapViews
import Derived.JoinedTies
import Derived.KernelRfl
namespace Go.Proofs.Ytgdjoochbgeokaa
/- THE CELL 'sum', in the pinned program and in every row, IS THE sha256 OF THE DUMP (.gsa) THAT YtgdjoochbgeokaaProg.lean LOADS. Nothing in Lean hashes anything: it is a label: what it is worth is what the hold of that sum in a sandbox is worth. -/
noncomputable def Try.pinned : Pinned := { name := "ytgdjoochbgeokaa", sum := "c3cb203bd712a140c1f0caa9a2f29e6ec452b5eb7a1ef8552b5f068289302293", checked := Try.checked }
namespace Rows
def none {H : Type} : Left H := { results := [], args := [] }

/-- 'wicketlaw08.LimitMost': WHATEVER THE INPUT: true; the input reads as it did. -/
def limitMostSpec : ChangeSpec := { name := "limitMost", fn := fun _ => fun
  | [d1, d2] => { results := [.lit (.bool true)], args := [d1, d2] }
  | _ => none }
def limitMostRow : OpenClaim := { program := "ytgdjoochbgeokaa", sum := "c3cb203bd712a140c1f0caa9a2f29e6ec452b5eb7a1ef8552b5f068289302293", func := "wicket/wicketlaw08.LimitMost", spec := "limitMost", apart := false }
def LimitMostSaid : Prop := limitMostRow.holds Try.pinned (OpenSpec.ofChange limitMostSpec)

/-- ITS FALSE NEIGHBOUR: 'it returns false'. Refute it at one input. -/
def limitMostWrong : ChangeSpec := { name := "limitMost", fn := fun _ => fun
  | [d1, d2] => { results := [.lit (.bool false)], args := [d1, d2] }
  | _ => none }
def LimitMostWrongFalsely : Prop := limitMostRow.holds Try.pinned (OpenSpec.ofChange limitMostWrong)

/-- 'wicketlaw08.LimitApart': WHATEVER THE INPUT: true; the input reads as it did. -/
def limitApartSpec : ChangeSpec := { name := "limitApart", fn := fun _ => fun
  | [d1, d2] => { results := [.lit (.bool true)], args := [d1, d2] }
  | _ => none }
def limitApartRow : OpenClaim := { program := "ytgdjoochbgeokaa", sum := "c3cb203bd712a140c1f0caa9a2f29e6ec452b5eb7a1ef8552b5f068289302293", func := "wicket/wicketlaw08.LimitApart", spec := "limitApart", apart := false }
def LimitApartSaid : Prop := limitApartRow.holds Try.pinned (OpenSpec.ofChange limitApartSpec)

/-- ITS FALSE NEIGHBOUR: 'it returns false'. Refute it at one input. -/
def limitApartWrong : ChangeSpec := { name := "limitApart", fn := fun _ => fun
  | [d1, d2] => { results := [.lit (.bool false)], args := [d1, d2] }
  | _ => none }
def LimitApartWrongFalsely : Prop := limitApartRow.holds Try.pinned (OpenSpec.ofChange limitApartWrong)

/-- 'wicketlaw08.LimitPlays': WHATEVER THE INPUT: true; the input reads as it did. -/
def limitPlaysSpec : ChangeSpec := { name := "limitPlays", fn := fun _ => fun
  | [d] => { results := [.lit (.bool true)], args := [d] }
  | _ => none }
def limitPlaysRow : OpenClaim := { program := "ytgdjoochbgeokaa", sum := "c3cb203bd712a140c1f0caa9a2f29e6ec452b5eb7a1ef8552b5f068289302293", func := "wicket/wicketlaw08.LimitPlays", spec := "limitPlays", recurses := true, apart := false }
def LimitPlaysSaid : Prop := limitPlaysRow.holds Try.pinned (OpenSpec.ofChange limitPlaysSpec)

/-- ITS FALSE NEIGHBOUR: 'it returns false'. Refute it at one input. -/
def limitPlaysWrong : ChangeSpec := { name := "limitPlays", fn := fun _ => fun
  | [d] => { results := [.lit (.bool false)], args := [d] }
  | _ => none }
def LimitPlaysWrongFalsely : Prop := limitPlaysRow.holds Try.pinned (OpenSpec.ofChange limitPlaysWrong)

/-- 'wicketlaw08.LimitNil': WHATEVER THE INPUT: true; the input reads as it did. -/
def limitNilSpec : ChangeSpec := { name := "limitNil", fn := fun _ => fun
  | [] => { results := [.lit (.bool true)], args := [] }
  | _ => none }
def limitNilRow : OpenClaim := { program := "ytgdjoochbgeokaa", sum := "c3cb203bd712a140c1f0caa9a2f29e6ec452b5eb7a1ef8552b5f068289302293", func := "wicket/wicketlaw08.LimitNil", spec := "limitNil", recurses := true, apart := false }
def LimitNilSaid : Prop := limitNilRow.holds Try.pinned (OpenSpec.ofChange limitNilSpec)

/-- ITS FALSE NEIGHBOUR: 'it returns false'. Refute it at one input. -/
def limitNilWrong : ChangeSpec := { name := "limitNil", fn := fun _ => fun
  | [] => { results := [.lit (.bool false)], args := [] }
  | _ => none }
def LimitNilWrongFalsely : Prop := limitNilRow.holds Try.pinned (OpenSpec.ofChange limitNilWrong)

/- THE SECOND FORM. 'bulk': how many values and letters a reading holds, each counted each time it is reached (what is shared counts as often as it is met; a slice's spare places count too). A statement '..UptoSaid' is the law's where the arguments, and the package variables that the reading takes, are together of bulk at most 1048576: NARROWER than '..Said'. Prove '..Said' where nothing that the law and all that it calls make is longer than what came in: it says more and counts as full. Else prove '..UptoSaid'. A law counts once. -/
mutual
def uptoBulk {H : Type} : DataW H → Nat
  | .lit (.string bytes) => bytes.length + 1
  | .lit _ => 1
  | .nil => 1
  | .ptr d => uptoBulk d + 1
  | .slice elems spare => uptoBulkAll elems + uptoBulkAll spare + 1
  | .agg parts => uptoBulkAll parts + 1
  | .iface _ d => uptoBulk d + 1
  | .map entries => uptoBulkEntries entries + 1
  | .held _ => 1
def uptoBulkAll {H : Type} : List (DataW H) → Nat
  | [] => 0
  | d :: r => uptoBulk d + uptoBulkAll r
def uptoBulkEntries {H : Type} : List (Lit × DataW H) → Nat
  | [] => 0
  | x :: r => uptoBulkEntry x + uptoBulkEntries r
def uptoBulkEntry {H : Type} : Lit × DataW H → Nat
  | (.string bytes, d) => bytes.length + uptoBulk d + 1
  | (_, d) => uptoBulk d + 1
 end
def uptoSmall : (H : Type) → List (DataW H) → Bool := fun _ ds => decide (uptoBulkAll ds ≤ 1048576)
def OpenSpec.upto (s : _root_.Go.ChangeSpec) : _root_.Go.OpenSpec := { _root_.Go.OpenSpec.ofChange s with cond := some uptoSmall }

/-- 'wicketlaw08.LimitMost', WHERE WHAT IT READS IS OF BULK AT MOST 1048576: true; the input reads as it did. -/
def limitMostUptoRow : OpenClaim := { program := "ytgdjoochbgeokaa", sum := "c3cb203bd712a140c1f0caa9a2f29e6ec452b5eb7a1ef8552b5f068289302293", func := "wicket/wicketlaw08.LimitMost", spec := "limitMost", apart := false, narrowed := true }
def LimitMostUptoSaid : Prop := limitMostUptoRow.holds Try.pinned (OpenSpec.upto limitMostSpec)

/-- 'wicketlaw08.LimitApart', WHERE WHAT IT READS IS OF BULK AT MOST 1048576: true; the input reads as it did. -/
def limitApartUptoRow : OpenClaim := { program := "ytgdjoochbgeokaa", sum := "c3cb203bd712a140c1f0caa9a2f29e6ec452b5eb7a1ef8552b5f068289302293", func := "wicket/wicketlaw08.LimitApart", spec := "limitApart", apart := false, narrowed := true }
def LimitApartUptoSaid : Prop := limitApartUptoRow.holds Try.pinned (OpenSpec.upto limitApartSpec)

/-- 'wicketlaw08.LimitPlays', WHERE WHAT IT READS IS OF BULK AT MOST 1048576: true; the input reads as it did. -/
def limitPlaysUptoRow : OpenClaim := { program := "ytgdjoochbgeokaa", sum := "c3cb203bd712a140c1f0caa9a2f29e6ec452b5eb7a1ef8552b5f068289302293", func := "wicket/wicketlaw08.LimitPlays", spec := "limitPlays", recurses := true, apart := false, narrowed := true }
def LimitPlaysUptoSaid : Prop := limitPlaysUptoRow.holds Try.pinned (OpenSpec.upto limitPlaysSpec)

/-- 'wicketlaw08.LimitNil', WHERE WHAT IT READS IS OF BULK AT MOST 1048576: true; the input reads as it did. -/
def limitNilUptoRow : OpenClaim := { program := "ytgdjoochbgeokaa", sum := "c3cb203bd712a140c1f0caa9a2f29e6ec452b5eb7a1ef8552b5f068289302293", func := "wicket/wicketlaw08.LimitNil", spec := "limitNil", recurses := true, apart := false, narrowed := true }
def LimitNilUptoSaid : Prop := limitNilUptoRow.holds Try.pinned (OpenSpec.upto limitNilSpec)

end Rows
end Go.Proofs.Ytgdjoochbgeokaa
