/-
  No cell of these rows narrows 'for every input' (looked for: loops, veiled, ifaces, maps, wideKeys, modest, calm, conditions, laid).
  DERIVED. THE GIVEN ROWS OF THIS SEAT. 9 by the template 'for every input the law returns true; each argument reads behind the call as it read before'; 0 by the template 'total and deterministic' (their statements: YtlchmkaaogokiaaTotals.lean).
  GIVEN WITH THE SEED: the statements are not yours to turn. If you find one false, say at which input.
  Laid BY PROGRAM, IN A SANDBOX (cutbox-rows.mjs): the forced cells as the released guide's own fill.sh prints them over the translation ebe9f5b75637d8d7… (all of the seat's roots in one cut). By AI agents, Wed Nov 11 2026. No macro, syntax, notation, axiom, sorry.
-/
import Derived.Test.YtlchmkaaogokiaaChecked
import GoSem.Claim
import GoSem.ClaimJoined
import GoSem.ClaimMapViews
import Derived.JoinedTies
import Derived.KernelRfl
namespace Go.Proofs.Ytlchmkaaogokiaa
/- THE CELL 'sum', in the pinned program and in every row, IS THE sha256 OF THE DUMP (.gsa) THAT YtlchmkaaogokiaaProg.lean LOADS. Nothing in Lean hashes anything: it is a label: what it is worth is what the hold of that sum in a sandbox is worth. -/
noncomputable def Try.pinned : Pinned := { name := "ytlchmkaaogokiaa", sum := "ebe9f5b75637d8d70968d5f20ca505895705d9eb8a7e2e37b1020cc03c855edc", checked := Try.checked }
namespace Rows
def none {H : Type} : Left H := { results := [], args := [] }

/-- 'laws.FnExactMeetOf': WHATEVER THE INPUT: true; the input reads as it did. -/
def fnExactMeetOfSpec : ChangeSpec := { name := "fnExactMeetOf", fn := fun _ => fun
  | [d1, d2, d3] => { results := [.lit (.bool true)], args := [d1, d2, d3] }
  | _ => none }
def fnExactMeetOfRow : OpenClaim := { program := "ytlchmkaaogokiaa", sum := "ebe9f5b75637d8d70968d5f20ca505895705d9eb8a7e2e37b1020cc03c855edc", func := "loop.example/g01124/laws.FnExactMeetOf", spec := "fnExactMeetOf", unfollowed := true, recurses := true, apart := false }
def FnExactMeetOfSaid : Prop := fnExactMeetOfRow.holds Try.pinned (OpenSpec.ofChange fnExactMeetOfSpec)

/-- ITS FALSE NEIGHBOUR: 'it returns false'. Refute it at one input. -/
def fnExactMeetOfWrong : ChangeSpec := { name := "fnExactMeetOf", fn := fun _ => fun
  | [d1, d2, d3] => { results := [.lit (.bool false)], args := [d1, d2, d3] }
  | _ => none }
def FnExactMeetOfWrongFalsely : Prop := fnExactMeetOfRow.holds Try.pinned (OpenSpec.ofChange fnExactMeetOfWrong)

/-- 'laws.FnExactIsCentral': WHATEVER THE INPUT: true; the input reads as it did. -/
def fnExactIsCentralSpec : ChangeSpec := { name := "fnExactIsCentral", fn := fun _ => fun
  | [d1, d2] => { results := [.lit (.bool true)], args := [d1, d2] }
  | _ => none }
def fnExactIsCentralRow : OpenClaim := { program := "ytlchmkaaogokiaa", sum := "ebe9f5b75637d8d70968d5f20ca505895705d9eb8a7e2e37b1020cc03c855edc", func := "loop.example/g01124/laws.FnExactIsCentral", spec := "fnExactIsCentral", unfollowed := true, recurses := true, apart := false }
def FnExactIsCentralSaid : Prop := fnExactIsCentralRow.holds Try.pinned (OpenSpec.ofChange fnExactIsCentralSpec)

/-- ITS FALSE NEIGHBOUR: 'it returns false'. Refute it at one input. -/
def fnExactIsCentralWrong : ChangeSpec := { name := "fnExactIsCentral", fn := fun _ => fun
  | [d1, d2] => { results := [.lit (.bool false)], args := [d1, d2] }
  | _ => none }
def FnExactIsCentralWrongFalsely : Prop := fnExactIsCentralRow.holds Try.pinned (OpenSpec.ofChange fnExactIsCentralWrong)

/-- 'laws.FnExactMinimalIdealSize': WHATEVER THE INPUT: true; the input reads as it did. -/
def fnExactMinimalIdealSizeSpec : ChangeSpec := { name := "fnExactMinimalIdealSize", fn := fun _ => fun
  | [d] => { results := [.lit (.bool true)], args := [d] }
  | _ => none }
def fnExactMinimalIdealSizeRow : OpenClaim := { program := "ytlchmkaaogokiaa", sum := "ebe9f5b75637d8d70968d5f20ca505895705d9eb8a7e2e37b1020cc03c855edc", func := "loop.example/g01124/laws.FnExactMinimalIdealSize", spec := "fnExactMinimalIdealSize", unfollowed := true, recurses := true, apart := false }
def FnExactMinimalIdealSizeSaid : Prop := fnExactMinimalIdealSizeRow.holds Try.pinned (OpenSpec.ofChange fnExactMinimalIdealSizeSpec)

/-- ITS FALSE NEIGHBOUR: 'it returns false'. Refute it at one input. -/
def fnExactMinimalIdealSizeWrong : ChangeSpec := { name := "fnExactMinimalIdealSize", fn := fun _ => fun
  | [d] => { results := [.lit (.bool false)], args := [d] }
  | _ => none }
def FnExactMinimalIdealSizeWrongFalsely : Prop := fnExactMinimalIdealSizeRow.holds Try.pinned (OpenSpec.ofChange fnExactMinimalIdealSizeWrong)

/-- 'laws.FnExactStructureOf': WHATEVER THE INPUT: true; the input reads as it did. -/
def fnExactStructureOfSpec : ChangeSpec := { name := "fnExactStructureOf", fn := fun _ => fun
  | [d] => { results := [.lit (.bool true)], args := [d] }
  | _ => none }
def fnExactStructureOfRow : OpenClaim := { program := "ytlchmkaaogokiaa", sum := "ebe9f5b75637d8d70968d5f20ca505895705d9eb8a7e2e37b1020cc03c855edc", func := "loop.example/g01124/laws.FnExactStructureOf", spec := "fnExactStructureOf", unfollowed := true, recurses := true, apart := false }
def FnExactStructureOfSaid : Prop := fnExactStructureOfRow.holds Try.pinned (OpenSpec.ofChange fnExactStructureOfSpec)

/-- ITS FALSE NEIGHBOUR: 'it returns false'. Refute it at one input. -/
def fnExactStructureOfWrong : ChangeSpec := { name := "fnExactStructureOf", fn := fun _ => fun
  | [d] => { results := [.lit (.bool false)], args := [d] }
  | _ => none }
def FnExactStructureOfWrongFalsely : Prop := fnExactStructureOfRow.holds Try.pinned (OpenSpec.ofChange fnExactStructureOfWrong)

/-- 'laws.FnExactSpinorNormOf': WHATEVER THE INPUT: true; the input reads as it did. -/
def fnExactSpinorNormOfSpec : ChangeSpec := { name := "fnExactSpinorNormOf", fn := fun _ => fun
  | [d1, d2] => { results := [.lit (.bool true)], args := [d1, d2] }
  | _ => none }
def fnExactSpinorNormOfRow : OpenClaim := { program := "ytlchmkaaogokiaa", sum := "ebe9f5b75637d8d70968d5f20ca505895705d9eb8a7e2e37b1020cc03c855edc", func := "loop.example/g01124/laws.FnExactSpinorNormOf", spec := "fnExactSpinorNormOf", unfollowed := true, recurses := true, apart := false }
def FnExactSpinorNormOfSaid : Prop := fnExactSpinorNormOfRow.holds Try.pinned (OpenSpec.ofChange fnExactSpinorNormOfSpec)

/-- ITS FALSE NEIGHBOUR: 'it returns false'. Refute it at one input. -/
def fnExactSpinorNormOfWrong : ChangeSpec := { name := "fnExactSpinorNormOf", fn := fun _ => fun
  | [d1, d2] => { results := [.lit (.bool false)], args := [d1, d2] }
  | _ => none }
def FnExactSpinorNormOfWrongFalsely : Prop := fnExactSpinorNormOfRow.holds Try.pinned (OpenSpec.ofChange fnExactSpinorNormOfWrong)

/-- 'laws.FnExactBivectorOfVectors': WHATEVER THE INPUT: true; the input reads as it did. -/
def fnExactBivectorOfVectorsSpec : ChangeSpec := { name := "fnExactBivectorOfVectors", fn := fun _ => fun
  | [d1, d2, d3] => { results := [.lit (.bool true)], args := [d1, d2, d3] }
  | _ => none }
def fnExactBivectorOfVectorsRow : OpenClaim := { program := "ytlchmkaaogokiaa", sum := "ebe9f5b75637d8d70968d5f20ca505895705d9eb8a7e2e37b1020cc03c855edc", func := "loop.example/g01124/laws.FnExactBivectorOfVectors", spec := "fnExactBivectorOfVectors", unfollowed := true, recurses := true, apart := false }
def FnExactBivectorOfVectorsSaid : Prop := fnExactBivectorOfVectorsRow.holds Try.pinned (OpenSpec.ofChange fnExactBivectorOfVectorsSpec)

/-- ITS FALSE NEIGHBOUR: 'it returns false'. Refute it at one input. -/
def fnExactBivectorOfVectorsWrong : ChangeSpec := { name := "fnExactBivectorOfVectors", fn := fun _ => fun
  | [d1, d2, d3] => { results := [.lit (.bool false)], args := [d1, d2, d3] }
  | _ => none }
def FnExactBivectorOfVectorsWrongFalsely : Prop := fnExactBivectorOfVectorsRow.holds Try.pinned (OpenSpec.ofChange fnExactBivectorOfVectorsWrong)

/-- 'laws.FnExactShiftVersor': WHATEVER THE INPUT: true; the input reads as it did. -/
def fnExactShiftVersorSpec : ChangeSpec := { name := "fnExactShiftVersor", fn := fun _ => fun
  | [d1, d2] => { results := [.lit (.bool true)], args := [d1, d2] }
  | _ => none }
def fnExactShiftVersorRow : OpenClaim := { program := "ytlchmkaaogokiaa", sum := "ebe9f5b75637d8d70968d5f20ca505895705d9eb8a7e2e37b1020cc03c855edc", func := "loop.example/g01124/laws.FnExactShiftVersor", spec := "fnExactShiftVersor", unfollowed := true, recurses := true, apart := false }
def FnExactShiftVersorSaid : Prop := fnExactShiftVersorRow.holds Try.pinned (OpenSpec.ofChange fnExactShiftVersorSpec)

/-- ITS FALSE NEIGHBOUR: 'it returns false'. Refute it at one input. -/
def fnExactShiftVersorWrong : ChangeSpec := { name := "fnExactShiftVersor", fn := fun _ => fun
  | [d1, d2] => { results := [.lit (.bool false)], args := [d1, d2] }
  | _ => none }
def FnExactShiftVersorWrongFalsely : Prop := fnExactShiftVersorRow.holds Try.pinned (OpenSpec.ofChange fnExactShiftVersorWrong)

/-- 'laws.FnExactVersorBetween': WHATEVER THE INPUT: true; the input reads as it did. -/
def fnExactVersorBetweenSpec : ChangeSpec := { name := "fnExactVersorBetween", fn := fun _ => fun
  | [d1, d2, d3] => { results := [.lit (.bool true)], args := [d1, d2, d3] }
  | _ => none }
def fnExactVersorBetweenRow : OpenClaim := { program := "ytlchmkaaogokiaa", sum := "ebe9f5b75637d8d70968d5f20ca505895705d9eb8a7e2e37b1020cc03c855edc", func := "loop.example/g01124/laws.FnExactVersorBetween", spec := "fnExactVersorBetween", unfollowed := true, recurses := true, apart := false }
def FnExactVersorBetweenSaid : Prop := fnExactVersorBetweenRow.holds Try.pinned (OpenSpec.ofChange fnExactVersorBetweenSpec)

/-- ITS FALSE NEIGHBOUR: 'it returns false'. Refute it at one input. -/
def fnExactVersorBetweenWrong : ChangeSpec := { name := "fnExactVersorBetween", fn := fun _ => fun
  | [d1, d2, d3] => { results := [.lit (.bool false)], args := [d1, d2, d3] }
  | _ => none }
def FnExactVersorBetweenWrongFalsely : Prop := fnExactVersorBetweenRow.holds Try.pinned (OpenSpec.ofChange fnExactVersorBetweenWrong)

/-- 'laws.FnExactPureTriple': WHATEVER THE INPUT: true; the input reads as it did. -/
def fnExactPureTripleSpec : ChangeSpec := { name := "fnExactPureTriple", fn := fun _ => fun
  | [d1, d2] => { results := [.lit (.bool true)], args := [d1, d2] }
  | _ => none }
def fnExactPureTripleRow : OpenClaim := { program := "ytlchmkaaogokiaa", sum := "ebe9f5b75637d8d70968d5f20ca505895705d9eb8a7e2e37b1020cc03c855edc", func := "loop.example/g01124/laws.FnExactPureTriple", spec := "fnExactPureTriple", unfollowed := true, recurses := true, apart := false }
def FnExactPureTripleSaid : Prop := fnExactPureTripleRow.holds Try.pinned (OpenSpec.ofChange fnExactPureTripleSpec)

/-- ITS FALSE NEIGHBOUR: 'it returns false'. Refute it at one input. -/
def fnExactPureTripleWrong : ChangeSpec := { name := "fnExactPureTriple", fn := fun _ => fun
  | [d1, d2] => { results := [.lit (.bool false)], args := [d1, d2] }
  | _ => none }
def FnExactPureTripleWrongFalsely : Prop := fnExactPureTripleRow.holds Try.pinned (OpenSpec.ofChange fnExactPureTripleWrong)

/- THE SECOND FORM. 'bulk': how many values and letters a reading holds, each counted each time it is reached (what is shared counts as often as it is met; a slice's spare places count too). A statement '..UptoSaid' is the law's where the arguments, and the package variables that the reading takes, are together of bulk at most 1048576: NARROWER than '..Said'. Prove '..Said' where nothing that the law and all that it calls make is longer than what came in: it says more and counts as full. Else prove '..UptoSaid'. A law counts once. -/
mutual
def uptoBulk {H : Type} : DataW H → Nat
  | .lit (.string bytes) => bytes.length + 1
  | .lit _ => 1
  | .nil => 1
  | .ptr d => uptoBulk d + 1
  | .slice elems spare => uptoBulkAll elems + uptoBulkAll spare + 1
  | .agg parts => uptoBulkAll parts + 1
  | .iface _ d => uptoBulk d + 1
  | .map entries => uptoBulkEntries entries + 1
  | .held _ => 1
def uptoBulkAll {H : Type} : List (DataW H) → Nat
  | [] => 0
  | d :: r => uptoBulk d + uptoBulkAll r
def uptoBulkEntries {H : Type} : List (Lit × DataW H) → Nat
  | [] => 0
  | x :: r => uptoBulkEntry x + uptoBulkEntries r
def uptoBulkEntry {H : Type} : Lit × DataW H → Nat
  | (.string bytes, d) => bytes.length + uptoBulk d + 1
  | (_, d) => uptoBulk d + 1
 end
def uptoSmall : (H : Type) → List (DataW H) → Bool := fun _ ds => decide (uptoBulkAll ds ≤ 1048576)
def OpenSpec.upto (s : _root_.Go.ChangeSpec) : _root_.Go.OpenSpec := { _root_.Go.OpenSpec.ofChange s with cond := some uptoSmall }

/-- 'laws.FnExactMeetOf', WHERE WHAT IT READS IS OF BULK AT MOST 1048576: true; the input reads as it did. -/
def fnExactMeetOfUptoRow : OpenClaim := { program := "ytlchmkaaogokiaa", sum := "ebe9f5b75637d8d70968d5f20ca505895705d9eb8a7e2e37b1020cc03c855edc", func := "loop.example/g01124/laws.FnExactMeetOf", spec := "fnExactMeetOf", unfollowed := true, recurses := true, apart := false, narrowed := true }
def FnExactMeetOfUptoSaid : Prop := fnExactMeetOfUptoRow.holds Try.pinned (OpenSpec.upto fnExactMeetOfSpec)

/-- 'laws.FnExactIsCentral', WHERE WHAT IT READS IS OF BULK AT MOST 1048576: true; the input reads as it did. -/
def fnExactIsCentralUptoRow : OpenClaim := { program := "ytlchmkaaogokiaa", sum := "ebe9f5b75637d8d70968d5f20ca505895705d9eb8a7e2e37b1020cc03c855edc", func := "loop.example/g01124/laws.FnExactIsCentral", spec := "fnExactIsCentral", unfollowed := true, recurses := true, apart := false, narrowed := true }
def FnExactIsCentralUptoSaid : Prop := fnExactIsCentralUptoRow.holds Try.pinned (OpenSpec.upto fnExactIsCentralSpec)

/-- 'laws.FnExactMinimalIdealSize', WHERE WHAT IT READS IS OF BULK AT MOST 1048576: true; the input reads as it did. -/
def fnExactMinimalIdealSizeUptoRow : OpenClaim := { program := "ytlchmkaaogokiaa", sum := "ebe9f5b75637d8d70968d5f20ca505895705d9eb8a7e2e37b1020cc03c855edc", func := "loop.example/g01124/laws.FnExactMinimalIdealSize", spec := "fnExactMinimalIdealSize", unfollowed := true, recurses := true, apart := false, narrowed := true }
def FnExactMinimalIdealSizeUptoSaid : Prop := fnExactMinimalIdealSizeUptoRow.holds Try.pinned (OpenSpec.upto fnExactMinimalIdealSizeSpec)

/-- 'laws.FnExactStructureOf', WHERE WHAT IT READS IS OF BULK AT MOST 1048576: true; the input reads as it did. -/
def fnExactStructureOfUptoRow : OpenClaim := { program := "ytlchmkaaogokiaa", sum := "ebe9f5b75637d8d70968d5f20ca505895705d9eb8a7e2e37b1020cc03c855edc", func := "loop.example/g01124/laws.FnExactStructureOf", spec := "fnExactStructureOf", unfollowed := true, recurses := true, apart := false, narrowed := true }
def FnExactStructureOfUptoSaid : Prop := fnExactStructureOfUptoRow.holds Try.pinned (OpenSpec.upto fnExactStructureOfSpec)

/-- 'laws.FnExactSpinorNormOf', WHERE WHAT IT READS IS OF BULK AT MOST 1048576: true; the input reads as it did. -/
def fnExactSpinorNormOfUptoRow : OpenClaim := { program := "ytlchmkaaogokiaa", sum := "ebe9f5b75637d8d70968d5f20ca505895705d9eb8a7e2e37b1020cc03c855edc", func := "loop.example/g01124/laws.FnExactSpinorNormOf", spec := "fnExactSpinorNormOf", unfollowed := true, recurses := true, apart := false, narrowed := true }
def FnExactSpinorNormOfUptoSaid : Prop := fnExactSpinorNormOfUptoRow.holds Try.pinned (OpenSpec.upto fnExactSpinorNormOfSpec)

/-- 'laws.FnExactBivectorOfVectors', WHERE WHAT IT READS IS OF BULK AT MOST 1048576: true; the input reads as it did. -/
def fnExactBivectorOfVectorsUptoRow : OpenClaim := { program := "ytlchmkaaogokiaa", sum := "ebe9f5b75637d8d70968d5f20ca505895705d9eb8a7e2e37b1020cc03c855edc", func := "loop.example/g01124/laws.FnExactBivectorOfVectors", spec := "fnExactBivectorOfVectors", unfollowed := true, recurses := true, apart := false, narrowed := true }
def FnExactBivectorOfVectorsUptoSaid : Prop := fnExactBivectorOfVectorsUptoRow.holds Try.pinned (OpenSpec.upto fnExactBivectorOfVectorsSpec)

/-- 'laws.FnExactShiftVersor', WHERE WHAT IT READS IS OF BULK AT MOST 1048576: true; the input reads as it did. -/
def fnExactShiftVersorUptoRow : OpenClaim := { program := "ytlchmkaaogokiaa", sum := "ebe9f5b75637d8d70968d5f20ca505895705d9eb8a7e2e37b1020cc03c855edc", func := "loop.example/g01124/laws.FnExactShiftVersor", spec := "fnExactShiftVersor", unfollowed := true, recurses := true, apart := false, narrowed := true }
def FnExactShiftVersorUptoSaid : Prop := fnExactShiftVersorUptoRow.holds Try.pinned (OpenSpec.upto fnExactShiftVersorSpec)

/-- 'laws.FnExactVersorBetween', WHERE WHAT IT READS IS OF BULK AT MOST 1048576: true; the input reads as it did. -/
def fnExactVersorBetweenUptoRow : OpenClaim := { program := "ytlchmkaaogokiaa", sum := "ebe9f5b75637d8d70968d5f20ca505895705d9eb8a7e2e37b1020cc03c855edc", func := "loop.example/g01124/laws.FnExactVersorBetween", spec := "fnExactVersorBetween", unfollowed := true, recurses := true, apart := false, narrowed := true }
def FnExactVersorBetweenUptoSaid : Prop := fnExactVersorBetweenUptoRow.holds Try.pinned (OpenSpec.upto fnExactVersorBetweenSpec)

/-- 'laws.FnExactPureTriple', WHERE WHAT IT READS IS OF BULK AT MOST 1048576: true; the input reads as it did. -/
def fnExactPureTripleUptoRow : OpenClaim := { program := "ytlchmkaaogokiaa", sum := "ebe9f5b75637d8d70968d5f20ca505895705d9eb8a7e2e37b1020cc03c855edc", func := "loop.example/g01124/laws.FnExactPureTriple", spec := "fnExactPureTriple", unfollowed := true, recurses := true, apart := false, narrowed := true }
def FnExactPureTripleUptoSaid : Prop := fnExactPureTripleUptoRow.holds Try.pinned (OpenSpec.upto fnExactPureTripleSpec)

end Rows
end Go.Proofs.Ytlchmkaaogokiaa
