/-
  NARROWER THAN 'FOR EVERY INPUT', by the rows' own cells (each row's printed sentence says how): FrameSums: laid · FrameNames: laid · FrameSeals: laid · FrameOpens: laid · FrameTurned: laid · FrameScans: laid · FrameEaches: laid · FrameTorn: laid · FrameForms: laid · FrameBack: laid.
  DERIVED. THE GIVEN ROWS OF THIS SEAT. 10 by the template 'for every input the law returns true; each argument reads behind the call as it read before'; 0 by the template 'total and deterministic' (their statements: YtdlfhpkkkhfhdaaDoorTotals.lean).
  GIVEN WITH THE SEED: the statements are not yours to turn. If you find one false, say at which input.
  Laid BY PROGRAM, IN A SANDBOX (cutbox-rows.mjs): the forced cells as the released guide's own fill.sh prints them over the translation a8dc396631247c56… (all of the seat's roots in one cut). By AI agents, Wed Nov 11 2026. No macro, syntax, notation, axiom, sorry.
-/
import Derived.Test.YtdlfhpkkkhfhdaaDoorChecked
import GoSem.Claim
import GoSem.ClaimJoined
import GoSem.ClaimMapViews
import Derived.JoinedTies
import Derived.KernelRfl
namespace Go.Proofs.YtdlfhpkkkhfhdaaDoor
/- THE CELL 'sum', in the pinned program and in every row, IS THE sha256 OF THE DUMP (.gsa) THAT YtdlfhpkkkhfhdaaDoorProg.lean LOADS. Nothing in Lean hashes anything: it is a label: what it is worth is what the hold of that sum in a sandbox is worth. -/
noncomputable def Tryd.pinned : Pinned := { name := "ytdlfhpkkkhfhdaadoor", sum := "a8dc396631247c56359fa774abf5e967ca966c9448713ba57d6a8747bf729115", checked := Tryd.checked }
namespace Rows
def none {H : Type} : Left H := { results := [], args := [] }

/- WHAT THE LISTED PACKAGE-LEVEL VARIABLES READ AS WHEN THE CALL BEGINS. Each datum BY PROGRAM (the guide's laid-datum.mjs) off the statement by which the dump's own 'gosem.cut.vars' lays the variable. In a bare row this is a premise. The card (YtdlfhpkkkhfhdaaDoorCards.lean) ties it to the program's text. -/
def laid_wicket_frame_sums {H : Type} : DataW H := .agg [.lit (.int .u32 0), .lit (.int .u32 498536548), .lit (.int .u32 997073096), .lit (.int .u32 651767980), .lit (.int .u32 1994146192), .lit (.int .u32 1802195444), .lit (.int .u32 1303535960), .lit (.int .u32 1342533948), .lit (.int .u32 3988292384), .lit (.int .u32 4027552580), .lit (.int .u32 3604390888), .lit (.int .u32 3412177804), .lit (.int .u32 2607071920), .lit (.int .u32 2262029012), .lit (.int .u32 2685067896), .lit (.int .u32 3183342108)]

/-- 'wicketlaw01.FrameSums': WHATEVER THE INPUT: true; the input reads as it did. -/
def frameSumsSpec : ChangeSpec := { name := "frameSums", fn := fun _ => fun
  | [d1, d2, d3] => { results := [.lit (.bool true)], args := [d1, d2, d3] }
  | _ => none }
def frameSumsRow : OpenClaim := { program := "ytdlfhpkkkhfhdaadoor", sum := "a8dc396631247c56359fa774abf5e967ca966c9448713ba57d6a8747bf729115", func := "wicket/wicketlaw01.FrameSums", spec := "frameSums", named := ["wicket/frame.sums"], apart := false, laid := [("wicket/frame.sums", laid_wicket_frame_sums)] }
def FrameSumsSaid : Prop := frameSumsRow.holds Tryd.pinned (OpenSpec.ofChange frameSumsSpec)

/-- ITS FALSE NEIGHBOUR: 'it returns false'. Refute it at one input. -/
def frameSumsWrong : ChangeSpec := { name := "frameSums", fn := fun _ => fun
  | [d1, d2, d3] => { results := [.lit (.bool false)], args := [d1, d2, d3] }
  | _ => none }
def FrameSumsWrongFalsely : Prop := frameSumsRow.holds Tryd.pinned (OpenSpec.ofChange frameSumsWrong)

/-- 'wicketlaw01.FrameNames': WHATEVER THE INPUT: true; the input reads as it did. -/
def frameNamesSpec : ChangeSpec := { name := "frameNames", fn := fun _ => fun
  | [] => { results := [.lit (.bool true)], args := [] }
  | _ => none }
def frameNamesRow : OpenClaim := { program := "ytdlfhpkkkhfhdaadoor", sum := "a8dc396631247c56359fa774abf5e967ca966c9448713ba57d6a8747bf729115", func := "wicket/wicketlaw01.FrameNames", spec := "frameNames", named := ["wicket/frame.sums"], apart := false, laid := [("wicket/frame.sums", laid_wicket_frame_sums)] }
def FrameNamesSaid : Prop := frameNamesRow.holds Tryd.pinned (OpenSpec.ofChange frameNamesSpec)

/-- ITS FALSE NEIGHBOUR: 'it returns false'. Refute it at one input. -/
def frameNamesWrong : ChangeSpec := { name := "frameNames", fn := fun _ => fun
  | [] => { results := [.lit (.bool false)], args := [] }
  | _ => none }
def FrameNamesWrongFalsely : Prop := frameNamesRow.holds Tryd.pinned (OpenSpec.ofChange frameNamesWrong)

/-- 'wicketlaw01.FrameSeals': WHATEVER THE INPUT: true; the input reads as it did. -/
def frameSealsSpec : ChangeSpec := { name := "frameSeals", fn := fun _ => fun
  | [d1, d2] => { results := [.lit (.bool true)], args := [d1, d2] }
  | _ => none }
def frameSealsRow : OpenClaim := { program := "ytdlfhpkkkhfhdaadoor", sum := "a8dc396631247c56359fa774abf5e967ca966c9448713ba57d6a8747bf729115", func := "wicket/wicketlaw01.FrameSeals", spec := "frameSeals", named := ["wicket/frame.sums"], apart := false, laid := [("wicket/frame.sums", laid_wicket_frame_sums)] }
def FrameSealsSaid : Prop := frameSealsRow.holds Tryd.pinned (OpenSpec.ofChange frameSealsSpec)

/-- ITS FALSE NEIGHBOUR: 'it returns false'. Refute it at one input. -/
def frameSealsWrong : ChangeSpec := { name := "frameSeals", fn := fun _ => fun
  | [d1, d2] => { results := [.lit (.bool false)], args := [d1, d2] }
  | _ => none }
def FrameSealsWrongFalsely : Prop := frameSealsRow.holds Tryd.pinned (OpenSpec.ofChange frameSealsWrong)

/-- 'wicketlaw01.FrameOpens': WHATEVER THE INPUT: true; the input reads as it did. -/
def frameOpensSpec : ChangeSpec := { name := "frameOpens", fn := fun _ => fun
  | [d] => { results := [.lit (.bool true)], args := [d] }
  | _ => none }
def frameOpensRow : OpenClaim := { program := "ytdlfhpkkkhfhdaadoor", sum := "a8dc396631247c56359fa774abf5e967ca966c9448713ba57d6a8747bf729115", func := "wicket/wicketlaw01.FrameOpens", spec := "frameOpens", named := ["wicket/frame.sums"], apart := false, laid := [("wicket/frame.sums", laid_wicket_frame_sums)] }
def FrameOpensSaid : Prop := frameOpensRow.holds Tryd.pinned (OpenSpec.ofChange frameOpensSpec)

/-- ITS FALSE NEIGHBOUR: 'it returns false'. Refute it at one input. -/
def frameOpensWrong : ChangeSpec := { name := "frameOpens", fn := fun _ => fun
  | [d] => { results := [.lit (.bool false)], args := [d] }
  | _ => none }
def FrameOpensWrongFalsely : Prop := frameOpensRow.holds Tryd.pinned (OpenSpec.ofChange frameOpensWrong)

/-- 'wicketlaw01.FrameTurned': WHATEVER THE INPUT: true; the input reads as it did. -/
def frameTurnedSpec : ChangeSpec := { name := "frameTurned", fn := fun _ => fun
  | [d] => { results := [.lit (.bool true)], args := [d] }
  | _ => none }
def frameTurnedRow : OpenClaim := { program := "ytdlfhpkkkhfhdaadoor", sum := "a8dc396631247c56359fa774abf5e967ca966c9448713ba57d6a8747bf729115", func := "wicket/wicketlaw01.FrameTurned", spec := "frameTurned", named := ["wicket/frame.sums"], apart := false, laid := [("wicket/frame.sums", laid_wicket_frame_sums)] }
def FrameTurnedSaid : Prop := frameTurnedRow.holds Tryd.pinned (OpenSpec.ofChange frameTurnedSpec)

/-- ITS FALSE NEIGHBOUR: 'it returns false'. Refute it at one input. -/
def frameTurnedWrong : ChangeSpec := { name := "frameTurned", fn := fun _ => fun
  | [d] => { results := [.lit (.bool false)], args := [d] }
  | _ => none }
def FrameTurnedWrongFalsely : Prop := frameTurnedRow.holds Tryd.pinned (OpenSpec.ofChange frameTurnedWrong)

/-- 'wicketlaw01.FrameScans': WHATEVER THE INPUT: true; the input reads as it did. -/
def frameScansSpec : ChangeSpec := { name := "frameScans", fn := fun _ => fun
  | [d] => { results := [.lit (.bool true)], args := [d] }
  | _ => none }
def frameScansRow : OpenClaim := { program := "ytdlfhpkkkhfhdaadoor", sum := "a8dc396631247c56359fa774abf5e967ca966c9448713ba57d6a8747bf729115", func := "wicket/wicketlaw01.FrameScans", spec := "frameScans", named := ["wicket/frame.sums"], apart := false, laid := [("wicket/frame.sums", laid_wicket_frame_sums)] }
def FrameScansSaid : Prop := frameScansRow.holds Tryd.pinned (OpenSpec.ofChange frameScansSpec)

/-- ITS FALSE NEIGHBOUR: 'it returns false'. Refute it at one input. -/
def frameScansWrong : ChangeSpec := { name := "frameScans", fn := fun _ => fun
  | [d] => { results := [.lit (.bool false)], args := [d] }
  | _ => none }
def FrameScansWrongFalsely : Prop := frameScansRow.holds Tryd.pinned (OpenSpec.ofChange frameScansWrong)

/-- 'wicketlaw01.FrameEaches': WHATEVER THE INPUT: true; the input reads as it did. -/
def frameEachesSpec : ChangeSpec := { name := "frameEaches", fn := fun _ => fun
  | [d1, d2] => { results := [.lit (.bool true)], args := [d1, d2] }
  | _ => none }
def frameEachesRow : OpenClaim := { program := "ytdlfhpkkkhfhdaadoor", sum := "a8dc396631247c56359fa774abf5e967ca966c9448713ba57d6a8747bf729115", func := "wicket/wicketlaw01.FrameEaches", spec := "frameEaches", unfollowed := true, recurses := true, named := ["wicket/frame.sums"], apart := false, laid := [("wicket/frame.sums", laid_wicket_frame_sums)] }
def FrameEachesSaid : Prop := frameEachesRow.holds Tryd.pinned (OpenSpec.ofChange frameEachesSpec)

/-- ITS FALSE NEIGHBOUR: 'it returns false'. Refute it at one input. -/
def frameEachesWrong : ChangeSpec := { name := "frameEaches", fn := fun _ => fun
  | [d1, d2] => { results := [.lit (.bool false)], args := [d1, d2] }
  | _ => none }
def FrameEachesWrongFalsely : Prop := frameEachesRow.holds Tryd.pinned (OpenSpec.ofChange frameEachesWrong)

/-- 'wicketlaw01.FrameTorn': WHATEVER THE INPUT: true; the input reads as it did. -/
def frameTornSpec : ChangeSpec := { name := "frameTorn", fn := fun _ => fun
  | [d] => { results := [.lit (.bool true)], args := [d] }
  | _ => none }
def frameTornRow : OpenClaim := { program := "ytdlfhpkkkhfhdaadoor", sum := "a8dc396631247c56359fa774abf5e967ca966c9448713ba57d6a8747bf729115", func := "wicket/wicketlaw01.FrameTorn", spec := "frameTorn", named := ["wicket/frame.sums"], apart := false, laid := [("wicket/frame.sums", laid_wicket_frame_sums)] }
def FrameTornSaid : Prop := frameTornRow.holds Tryd.pinned (OpenSpec.ofChange frameTornSpec)

/-- ITS FALSE NEIGHBOUR: 'it returns false'. Refute it at one input. -/
def frameTornWrong : ChangeSpec := { name := "frameTorn", fn := fun _ => fun
  | [d] => { results := [.lit (.bool false)], args := [d] }
  | _ => none }
def FrameTornWrongFalsely : Prop := frameTornRow.holds Tryd.pinned (OpenSpec.ofChange frameTornWrong)

/-- 'wicketlaw01.FrameForms': WHATEVER THE INPUT: true; the input reads as it did. -/
def frameFormsSpec : ChangeSpec := { name := "frameForms", fn := fun _ => fun
  | [d1, d2] => { results := [.lit (.bool true)], args := [d1, d2] }
  | _ => none }
def frameFormsRow : OpenClaim := { program := "ytdlfhpkkkhfhdaadoor", sum := "a8dc396631247c56359fa774abf5e967ca966c9448713ba57d6a8747bf729115", func := "wicket/wicketlaw01.FrameForms", spec := "frameForms", named := ["wicket/frame.sums"], apart := false, laid := [("wicket/frame.sums", laid_wicket_frame_sums)] }
def FrameFormsSaid : Prop := frameFormsRow.holds Tryd.pinned (OpenSpec.ofChange frameFormsSpec)

/-- ITS FALSE NEIGHBOUR: 'it returns false'. Refute it at one input. -/
def frameFormsWrong : ChangeSpec := { name := "frameForms", fn := fun _ => fun
  | [d1, d2] => { results := [.lit (.bool false)], args := [d1, d2] }
  | _ => none }
def FrameFormsWrongFalsely : Prop := frameFormsRow.holds Tryd.pinned (OpenSpec.ofChange frameFormsWrong)

/-- 'wicketlaw01.FrameBack': WHATEVER THE INPUT: true; the input reads as it did. -/
def frameBackSpec : ChangeSpec := { name := "frameBack", fn := fun _ => fun
  | [d] => { results := [.lit (.bool true)], args := [d] }
  | _ => none }
def frameBackRow : OpenClaim := { program := "ytdlfhpkkkhfhdaadoor", sum := "a8dc396631247c56359fa774abf5e967ca966c9448713ba57d6a8747bf729115", func := "wicket/wicketlaw01.FrameBack", spec := "frameBack", named := ["wicket/frame.sums"], apart := false, laid := [("wicket/frame.sums", laid_wicket_frame_sums)] }
def FrameBackSaid : Prop := frameBackRow.holds Tryd.pinned (OpenSpec.ofChange frameBackSpec)

/-- ITS FALSE NEIGHBOUR: 'it returns false'. Refute it at one input. -/
def frameBackWrong : ChangeSpec := { name := "frameBack", fn := fun _ => fun
  | [d] => { results := [.lit (.bool false)], args := [d] }
  | _ => none }
def FrameBackWrongFalsely : Prop := frameBackRow.holds Tryd.pinned (OpenSpec.ofChange frameBackWrong)

/- THE SECOND FORM. 'bulk': how many values and letters a reading holds, each counted each time it is reached (what is shared counts as often as it is met; a slice's spare places count too). A statement '..UptoSaid' is the law's where the arguments, and the package variables that the reading takes, are together of bulk at most 1048576: NARROWER than '..Said'. Prove '..Said' where nothing that the law and all that it calls make is longer than what came in: it says more and counts as full. Else prove '..UptoSaid'. A law counts once. -/
mutual
def uptoBulk {H : Type} : DataW H → Nat
  | .lit (.string bytes) => bytes.length + 1
  | .lit _ => 1
  | .nil => 1
  | .ptr d => uptoBulk d + 1
  | .slice elems spare => uptoBulkAll elems + uptoBulkAll spare + 1
  | .agg parts => uptoBulkAll parts + 1
  | .iface _ d => uptoBulk d + 1
  | .map entries => uptoBulkEntries entries + 1
  | .held _ => 1
def uptoBulkAll {H : Type} : List (DataW H) → Nat
  | [] => 0
  | d :: r => uptoBulk d + uptoBulkAll r
def uptoBulkEntries {H : Type} : List (Lit × DataW H) → Nat
  | [] => 0
  | x :: r => uptoBulkEntry x + uptoBulkEntries r
def uptoBulkEntry {H : Type} : Lit × DataW H → Nat
  | (.string bytes, d) => bytes.length + uptoBulk d + 1
  | (_, d) => uptoBulk d + 1
 end
def uptoSmall : (H : Type) → List (DataW H) → Bool := fun _ ds => decide (uptoBulkAll ds ≤ 1048576)
def OpenSpec.upto (s : _root_.Go.ChangeSpec) : _root_.Go.OpenSpec := { _root_.Go.OpenSpec.ofChange s with cond := some uptoSmall }

/-- 'wicketlaw01.FrameSums', WHERE WHAT IT READS IS OF BULK AT MOST 1048576: true; the input reads as it did. -/
def frameSumsUptoRow : OpenClaim := { program := "ytdlfhpkkkhfhdaadoor", sum := "a8dc396631247c56359fa774abf5e967ca966c9448713ba57d6a8747bf729115", func := "wicket/wicketlaw01.FrameSums", spec := "frameSums", named := ["wicket/frame.sums"], apart := false, laid := [("wicket/frame.sums", laid_wicket_frame_sums)], narrowed := true }
def FrameSumsUptoSaid : Prop := frameSumsUptoRow.holds Tryd.pinned (OpenSpec.upto frameSumsSpec)

/-- 'wicketlaw01.FrameNames', WHERE WHAT IT READS IS OF BULK AT MOST 1048576: true; the input reads as it did. -/
def frameNamesUptoRow : OpenClaim := { program := "ytdlfhpkkkhfhdaadoor", sum := "a8dc396631247c56359fa774abf5e967ca966c9448713ba57d6a8747bf729115", func := "wicket/wicketlaw01.FrameNames", spec := "frameNames", named := ["wicket/frame.sums"], apart := false, laid := [("wicket/frame.sums", laid_wicket_frame_sums)], narrowed := true }
def FrameNamesUptoSaid : Prop := frameNamesUptoRow.holds Tryd.pinned (OpenSpec.upto frameNamesSpec)

/-- 'wicketlaw01.FrameSeals', WHERE WHAT IT READS IS OF BULK AT MOST 1048576: true; the input reads as it did. -/
def frameSealsUptoRow : OpenClaim := { program := "ytdlfhpkkkhfhdaadoor", sum := "a8dc396631247c56359fa774abf5e967ca966c9448713ba57d6a8747bf729115", func := "wicket/wicketlaw01.FrameSeals", spec := "frameSeals", named := ["wicket/frame.sums"], apart := false, laid := [("wicket/frame.sums", laid_wicket_frame_sums)], narrowed := true }
def FrameSealsUptoSaid : Prop := frameSealsUptoRow.holds Tryd.pinned (OpenSpec.upto frameSealsSpec)

/-- 'wicketlaw01.FrameOpens', WHERE WHAT IT READS IS OF BULK AT MOST 1048576: true; the input reads as it did. -/
def frameOpensUptoRow : OpenClaim := { program := "ytdlfhpkkkhfhdaadoor", sum := "a8dc396631247c56359fa774abf5e967ca966c9448713ba57d6a8747bf729115", func := "wicket/wicketlaw01.FrameOpens", spec := "frameOpens", named := ["wicket/frame.sums"], apart := false, laid := [("wicket/frame.sums", laid_wicket_frame_sums)], narrowed := true }
def FrameOpensUptoSaid : Prop := frameOpensUptoRow.holds Tryd.pinned (OpenSpec.upto frameOpensSpec)

/-- 'wicketlaw01.FrameTurned', WHERE WHAT IT READS IS OF BULK AT MOST 1048576: true; the input reads as it did. -/
def frameTurnedUptoRow : OpenClaim := { program := "ytdlfhpkkkhfhdaadoor", sum := "a8dc396631247c56359fa774abf5e967ca966c9448713ba57d6a8747bf729115", func := "wicket/wicketlaw01.FrameTurned", spec := "frameTurned", named := ["wicket/frame.sums"], apart := false, laid := [("wicket/frame.sums", laid_wicket_frame_sums)], narrowed := true }
def FrameTurnedUptoSaid : Prop := frameTurnedUptoRow.holds Tryd.pinned (OpenSpec.upto frameTurnedSpec)

/-- 'wicketlaw01.FrameScans', WHERE WHAT IT READS IS OF BULK AT MOST 1048576: true; the input reads as it did. -/
def frameScansUptoRow : OpenClaim := { program := "ytdlfhpkkkhfhdaadoor", sum := "a8dc396631247c56359fa774abf5e967ca966c9448713ba57d6a8747bf729115", func := "wicket/wicketlaw01.FrameScans", spec := "frameScans", named := ["wicket/frame.sums"], apart := false, laid := [("wicket/frame.sums", laid_wicket_frame_sums)], narrowed := true }
def FrameScansUptoSaid : Prop := frameScansUptoRow.holds Tryd.pinned (OpenSpec.upto frameScansSpec)

/-- 'wicketlaw01.FrameEaches', WHERE WHAT IT READS IS OF BULK AT MOST 1048576: true; the input reads as it did. -/
def frameEachesUptoRow : OpenClaim := { program := "ytdlfhpkkkhfhdaadoor", sum := "a8dc396631247c56359fa774abf5e967ca966c9448713ba57d6a8747bf729115", func := "wicket/wicketlaw01.FrameEaches", spec := "frameEaches", unfollowed := true, recurses := true, named := ["wicket/frame.sums"], apart := false, laid := [("wicket/frame.sums", laid_wicket_frame_sums)], narrowed := true }
def FrameEachesUptoSaid : Prop := frameEachesUptoRow.holds Tryd.pinned (OpenSpec.upto frameEachesSpec)

/-- 'wicketlaw01.FrameTorn', WHERE WHAT IT READS IS OF BULK AT MOST 1048576: true; the input reads as it did. -/
def frameTornUptoRow : OpenClaim := { program := "ytdlfhpkkkhfhdaadoor", sum := "a8dc396631247c56359fa774abf5e967ca966c9448713ba57d6a8747bf729115", func := "wicket/wicketlaw01.FrameTorn", spec := "frameTorn", named := ["wicket/frame.sums"], apart := false, laid := [("wicket/frame.sums", laid_wicket_frame_sums)], narrowed := true }
def FrameTornUptoSaid : Prop := frameTornUptoRow.holds Tryd.pinned (OpenSpec.upto frameTornSpec)

/-- 'wicketlaw01.FrameForms', WHERE WHAT IT READS IS OF BULK AT MOST 1048576: true; the input reads as it did. -/
def frameFormsUptoRow : OpenClaim := { program := "ytdlfhpkkkhfhdaadoor", sum := "a8dc396631247c56359fa774abf5e967ca966c9448713ba57d6a8747bf729115", func := "wicket/wicketlaw01.FrameForms", spec := "frameForms", named := ["wicket/frame.sums"], apart := false, laid := [("wicket/frame.sums", laid_wicket_frame_sums)], narrowed := true }
def FrameFormsUptoSaid : Prop := frameFormsUptoRow.holds Tryd.pinned (OpenSpec.upto frameFormsSpec)

/-- 'wicketlaw01.FrameBack', WHERE WHAT IT READS IS OF BULK AT MOST 1048576: true; the input reads as it did. -/
def frameBackUptoRow : OpenClaim := { program := "ytdlfhpkkkhfhdaadoor", sum := "a8dc396631247c56359fa774abf5e967ca966c9448713ba57d6a8747bf729115", func := "wicket/wicketlaw01.FrameBack", spec := "frameBack", named := ["wicket/frame.sums"], apart := false, laid := [("wicket/frame.sums", laid_wicket_frame_sums)], narrowed := true }
def FrameBackUptoSaid : Prop := frameBackUptoRow.holds Tryd.pinned (OpenSpec.upto frameBackSpec)

end Rows
end Go.Proofs.YtdlfhpkkkhfhdaaDoor
