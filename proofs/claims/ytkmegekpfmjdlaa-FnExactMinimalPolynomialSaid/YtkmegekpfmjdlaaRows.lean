/-
  No cell of these rows narrows 'for every input' (looked for: loops, veiled, ifaces, maps, wideKeys, modest, calm, conditions, laid).
  DERIVED. THE GIVEN ROWS OF THIS SEAT. 12 by the template 'for every input the law returns true; each argument reads behind the call as it read before'; 0 by the template 'total and deterministic' (their statements: YtkmegekpfmjdlaaTotals.lean).
  GIVEN WITH THE SEED: the statements are not yours to turn. If you find one false, say at which input.
  Laid BY PROGRAM, IN A SANDBOX (cutbox-rows.mjs): the forced cells as the released guide's own fill.sh prints them over the translation dc34b4342898f033… (all of the seat's roots in one cut). By AI agents, Wed Nov 11 2026. No macro, syntax, notation, axiom, sorry.
-/
import Derived.Test.YtkmegekpfmjdlaaChecked
import GoSem.Claim
import GoSem.ClaimJoined
import GoSem.ClaimMapViews
import Derived.JoinedTies
import Derived.KernelRfl
namespace Go.Proofs.Ytkmegekpfmjdlaa
/- THE CELL 'sum', in the pinned program and in every row, IS THE sha256 OF THE DUMP (.gsa) THAT YtkmegekpfmjdlaaProg.lean LOADS. Nothing in Lean hashes anything: it is a label: what it is worth is what the hold of that sum in a sandbox is worth. -/
noncomputable def Try.pinned : Pinned := { name := "ytkmegekpfmjdlaa", sum := "dc34b4342898f033d52673ff5020728172feddad9556178ebb68d992771da980", checked := Try.checked }
namespace Rows
def none {H : Type} : Left H := { results := [], args := [] }

/-- 'laws.FnExactWedgeOfVectors': WHATEVER THE INPUT: true; the input reads as it did. -/
def fnExactWedgeOfVectorsSpec : ChangeSpec := { name := "fnExactWedgeOfVectors", fn := fun _ => fun
  | [d1, d2] => { results := [.lit (.bool true)], args := [d1, d2] }
  | _ => none }
def fnExactWedgeOfVectorsRow : OpenClaim := { program := "ytkmegekpfmjdlaa", sum := "dc34b4342898f033d52673ff5020728172feddad9556178ebb68d992771da980", func := "loop.example/g01124/laws.FnExactWedgeOfVectors", spec := "fnExactWedgeOfVectors", unfollowed := true, recurses := true, apart := false }
def FnExactWedgeOfVectorsSaid : Prop := fnExactWedgeOfVectorsRow.holds Try.pinned (OpenSpec.ofChange fnExactWedgeOfVectorsSpec)

/-- ITS FALSE NEIGHBOUR: 'it returns false'. Refute it at one input. -/
def fnExactWedgeOfVectorsWrong : ChangeSpec := { name := "fnExactWedgeOfVectors", fn := fun _ => fun
  | [d1, d2] => { results := [.lit (.bool false)], args := [d1, d2] }
  | _ => none }
def FnExactWedgeOfVectorsWrongFalsely : Prop := fnExactWedgeOfVectorsRow.holds Try.pinned (OpenSpec.ofChange fnExactWedgeOfVectorsWrong)

/-- 'laws.FnExactLeftMatrix': WHATEVER THE INPUT: true; the input reads as it did. -/
def fnExactLeftMatrixSpec : ChangeSpec := { name := "fnExactLeftMatrix", fn := fun _ => fun
  | [d1, d2] => { results := [.lit (.bool true)], args := [d1, d2] }
  | _ => none }
def fnExactLeftMatrixRow : OpenClaim := { program := "ytkmegekpfmjdlaa", sum := "dc34b4342898f033d52673ff5020728172feddad9556178ebb68d992771da980", func := "loop.example/g01124/laws.FnExactLeftMatrix", spec := "fnExactLeftMatrix", unfollowed := true, recurses := true, apart := false }
def FnExactLeftMatrixSaid : Prop := fnExactLeftMatrixRow.holds Try.pinned (OpenSpec.ofChange fnExactLeftMatrixSpec)

/-- ITS FALSE NEIGHBOUR: 'it returns false'. Refute it at one input. -/
def fnExactLeftMatrixWrong : ChangeSpec := { name := "fnExactLeftMatrix", fn := fun _ => fun
  | [d1, d2] => { results := [.lit (.bool false)], args := [d1, d2] }
  | _ => none }
def FnExactLeftMatrixWrongFalsely : Prop := fnExactLeftMatrixRow.holds Try.pinned (OpenSpec.ofChange fnExactLeftMatrixWrong)

/-- 'laws.FnExactRightMatrix': WHATEVER THE INPUT: true; the input reads as it did. -/
def fnExactRightMatrixSpec : ChangeSpec := { name := "fnExactRightMatrix", fn := fun _ => fun
  | [d1, d2] => { results := [.lit (.bool true)], args := [d1, d2] }
  | _ => none }
def fnExactRightMatrixRow : OpenClaim := { program := "ytkmegekpfmjdlaa", sum := "dc34b4342898f033d52673ff5020728172feddad9556178ebb68d992771da980", func := "loop.example/g01124/laws.FnExactRightMatrix", spec := "fnExactRightMatrix", unfollowed := true, recurses := true, apart := false }
def FnExactRightMatrixSaid : Prop := fnExactRightMatrixRow.holds Try.pinned (OpenSpec.ofChange fnExactRightMatrixSpec)

/-- ITS FALSE NEIGHBOUR: 'it returns false'. Refute it at one input. -/
def fnExactRightMatrixWrong : ChangeSpec := { name := "fnExactRightMatrix", fn := fun _ => fun
  | [d1, d2] => { results := [.lit (.bool false)], args := [d1, d2] }
  | _ => none }
def FnExactRightMatrixWrongFalsely : Prop := fnExactRightMatrixRow.holds Try.pinned (OpenSpec.ofChange fnExactRightMatrixWrong)

/-- 'laws.FnExactMatrixBracket': WHATEVER THE INPUT: true; the input reads as it did. -/
def fnExactMatrixBracketSpec : ChangeSpec := { name := "fnExactMatrixBracket", fn := fun _ => fun
  | [d1, d2, d3] => { results := [.lit (.bool true)], args := [d1, d2, d3] }
  | _ => none }
def fnExactMatrixBracketRow : OpenClaim := { program := "ytkmegekpfmjdlaa", sum := "dc34b4342898f033d52673ff5020728172feddad9556178ebb68d992771da980", func := "loop.example/g01124/laws.FnExactMatrixBracket", spec := "fnExactMatrixBracket", unfollowed := true, recurses := true, apart := false }
def FnExactMatrixBracketSaid : Prop := fnExactMatrixBracketRow.holds Try.pinned (OpenSpec.ofChange fnExactMatrixBracketSpec)

/-- ITS FALSE NEIGHBOUR: 'it returns false'. Refute it at one input. -/
def fnExactMatrixBracketWrong : ChangeSpec := { name := "fnExactMatrixBracket", fn := fun _ => fun
  | [d1, d2, d3] => { results := [.lit (.bool false)], args := [d1, d2, d3] }
  | _ => none }
def FnExactMatrixBracketWrongFalsely : Prop := fnExactMatrixBracketRow.holds Try.pinned (OpenSpec.ofChange fnExactMatrixBracketWrong)

/-- 'laws.FnExactVersorOf': WHATEVER THE INPUT: true; the input reads as it did. -/
def fnExactVersorOfSpec : ChangeSpec := { name := "fnExactVersorOf", fn := fun _ => fun
  | [d1, d2] => { results := [.lit (.bool true)], args := [d1, d2] }
  | _ => none }
def fnExactVersorOfRow : OpenClaim := { program := "ytkmegekpfmjdlaa", sum := "dc34b4342898f033d52673ff5020728172feddad9556178ebb68d992771da980", func := "loop.example/g01124/laws.FnExactVersorOf", spec := "fnExactVersorOf", unfollowed := true, recurses := true, apart := false }
def FnExactVersorOfSaid : Prop := fnExactVersorOfRow.holds Try.pinned (OpenSpec.ofChange fnExactVersorOfSpec)

/-- ITS FALSE NEIGHBOUR: 'it returns false'. Refute it at one input. -/
def fnExactVersorOfWrong : ChangeSpec := { name := "fnExactVersorOf", fn := fun _ => fun
  | [d1, d2] => { results := [.lit (.bool false)], args := [d1, d2] }
  | _ => none }
def FnExactVersorOfWrongFalsely : Prop := fnExactVersorOfRow.holds Try.pinned (OpenSpec.ofChange fnExactVersorOfWrong)

/-- 'laws.FnExactWedgeOfPoints': WHATEVER THE INPUT: true; the input reads as it did. -/
def fnExactWedgeOfPointsSpec : ChangeSpec := { name := "fnExactWedgeOfPoints", fn := fun _ => fun
  | [d1, d2] => { results := [.lit (.bool true)], args := [d1, d2] }
  | _ => none }
def fnExactWedgeOfPointsRow : OpenClaim := { program := "ytkmegekpfmjdlaa", sum := "dc34b4342898f033d52673ff5020728172feddad9556178ebb68d992771da980", func := "loop.example/g01124/laws.FnExactWedgeOfPoints", spec := "fnExactWedgeOfPoints", unfollowed := true, recurses := true, apart := false }
def FnExactWedgeOfPointsSaid : Prop := fnExactWedgeOfPointsRow.holds Try.pinned (OpenSpec.ofChange fnExactWedgeOfPointsSpec)

/-- ITS FALSE NEIGHBOUR: 'it returns false'. Refute it at one input. -/
def fnExactWedgeOfPointsWrong : ChangeSpec := { name := "fnExactWedgeOfPoints", fn := fun _ => fun
  | [d1, d2] => { results := [.lit (.bool false)], args := [d1, d2] }
  | _ => none }
def FnExactWedgeOfPointsWrongFalsely : Prop := fnExactWedgeOfPointsRow.holds Try.pinned (OpenSpec.ofChange fnExactWedgeOfPointsWrong)

/-- 'laws.FnExactBracketTriple': WHATEVER THE INPUT: true; the input reads as it did. -/
def fnExactBracketTripleSpec : ChangeSpec := { name := "fnExactBracketTriple", fn := fun _ => fun
  | [d1, d2, d3] => { results := [.lit (.bool true)], args := [d1, d2, d3] }
  | _ => none }
def fnExactBracketTripleRow : OpenClaim := { program := "ytkmegekpfmjdlaa", sum := "dc34b4342898f033d52673ff5020728172feddad9556178ebb68d992771da980", func := "loop.example/g01124/laws.FnExactBracketTriple", spec := "fnExactBracketTriple", unfollowed := true, recurses := true, apart := false }
def FnExactBracketTripleSaid : Prop := fnExactBracketTripleRow.holds Try.pinned (OpenSpec.ofChange fnExactBracketTripleSpec)

/-- ITS FALSE NEIGHBOUR: 'it returns false'. Refute it at one input. -/
def fnExactBracketTripleWrong : ChangeSpec := { name := "fnExactBracketTriple", fn := fun _ => fun
  | [d1, d2, d3] => { results := [.lit (.bool false)], args := [d1, d2, d3] }
  | _ => none }
def FnExactBracketTripleWrongFalsely : Prop := fnExactBracketTripleRow.holds Try.pinned (OpenSpec.ofChange fnExactBracketTripleWrong)

/-- 'laws.FnExactBladeOfVectors': WHATEVER THE INPUT: true; the input reads as it did. -/
def fnExactBladeOfVectorsSpec : ChangeSpec := { name := "fnExactBladeOfVectors", fn := fun _ => fun
  | [d1, d2] => { results := [.lit (.bool true)], args := [d1, d2] }
  | _ => none }
def fnExactBladeOfVectorsRow : OpenClaim := { program := "ytkmegekpfmjdlaa", sum := "dc34b4342898f033d52673ff5020728172feddad9556178ebb68d992771da980", func := "loop.example/g01124/laws.FnExactBladeOfVectors", spec := "fnExactBladeOfVectors", unfollowed := true, recurses := true, apart := false }
def FnExactBladeOfVectorsSaid : Prop := fnExactBladeOfVectorsRow.holds Try.pinned (OpenSpec.ofChange fnExactBladeOfVectorsSpec)

/-- ITS FALSE NEIGHBOUR: 'it returns false'. Refute it at one input. -/
def fnExactBladeOfVectorsWrong : ChangeSpec := { name := "fnExactBladeOfVectors", fn := fun _ => fun
  | [d1, d2] => { results := [.lit (.bool false)], args := [d1, d2] }
  | _ => none }
def FnExactBladeOfVectorsWrongFalsely : Prop := fnExactBladeOfVectorsRow.holds Try.pinned (OpenSpec.ofChange fnExactBladeOfVectorsWrong)

/-- 'laws.FnExactSphereThrough': WHATEVER THE INPUT: true; the input reads as it did. -/
def fnExactSphereThroughSpec : ChangeSpec := { name := "fnExactSphereThrough", fn := fun _ => fun
  | [d1, d2] => { results := [.lit (.bool true)], args := [d1, d2] }
  | _ => none }
def fnExactSphereThroughRow : OpenClaim := { program := "ytkmegekpfmjdlaa", sum := "dc34b4342898f033d52673ff5020728172feddad9556178ebb68d992771da980", func := "loop.example/g01124/laws.FnExactSphereThrough", spec := "fnExactSphereThrough", unfollowed := true, recurses := true, apart := false }
def FnExactSphereThroughSaid : Prop := fnExactSphereThroughRow.holds Try.pinned (OpenSpec.ofChange fnExactSphereThroughSpec)

/-- ITS FALSE NEIGHBOUR: 'it returns false'. Refute it at one input. -/
def fnExactSphereThroughWrong : ChangeSpec := { name := "fnExactSphereThrough", fn := fun _ => fun
  | [d1, d2] => { results := [.lit (.bool false)], args := [d1, d2] }
  | _ => none }
def FnExactSphereThroughWrongFalsely : Prop := fnExactSphereThroughRow.holds Try.pinned (OpenSpec.ofChange fnExactSphereThroughWrong)

/-- 'laws.FnExactLeftIdealOf': WHATEVER THE INPUT: true; the input reads as it did. -/
def fnExactLeftIdealOfSpec : ChangeSpec := { name := "fnExactLeftIdealOf", fn := fun _ => fun
  | [d1, d2] => { results := [.lit (.bool true)], args := [d1, d2] }
  | _ => none }
def fnExactLeftIdealOfRow : OpenClaim := { program := "ytkmegekpfmjdlaa", sum := "dc34b4342898f033d52673ff5020728172feddad9556178ebb68d992771da980", func := "loop.example/g01124/laws.FnExactLeftIdealOf", spec := "fnExactLeftIdealOf", unfollowed := true, recurses := true, apart := false }
def FnExactLeftIdealOfSaid : Prop := fnExactLeftIdealOfRow.holds Try.pinned (OpenSpec.ofChange fnExactLeftIdealOfSpec)

/-- ITS FALSE NEIGHBOUR: 'it returns false'. Refute it at one input. -/
def fnExactLeftIdealOfWrong : ChangeSpec := { name := "fnExactLeftIdealOf", fn := fun _ => fun
  | [d1, d2] => { results := [.lit (.bool false)], args := [d1, d2] }
  | _ => none }
def FnExactLeftIdealOfWrongFalsely : Prop := fnExactLeftIdealOfRow.holds Try.pinned (OpenSpec.ofChange fnExactLeftIdealOfWrong)

/-- 'laws.FnExactMinimalPolynomial': WHATEVER THE INPUT: true; the input reads as it did. -/
def fnExactMinimalPolynomialSpec : ChangeSpec := { name := "fnExactMinimalPolynomial", fn := fun _ => fun
  | [d1, d2] => { results := [.lit (.bool true)], args := [d1, d2] }
  | _ => none }
def fnExactMinimalPolynomialRow : OpenClaim := { program := "ytkmegekpfmjdlaa", sum := "dc34b4342898f033d52673ff5020728172feddad9556178ebb68d992771da980", func := "loop.example/g01124/laws.FnExactMinimalPolynomial", spec := "fnExactMinimalPolynomial", unfollowed := true, recurses := true, apart := false }
def FnExactMinimalPolynomialSaid : Prop := fnExactMinimalPolynomialRow.holds Try.pinned (OpenSpec.ofChange fnExactMinimalPolynomialSpec)

/-- ITS FALSE NEIGHBOUR: 'it returns false'. Refute it at one input. -/
def fnExactMinimalPolynomialWrong : ChangeSpec := { name := "fnExactMinimalPolynomial", fn := fun _ => fun
  | [d1, d2] => { results := [.lit (.bool false)], args := [d1, d2] }
  | _ => none }
def FnExactMinimalPolynomialWrongFalsely : Prop := fnExactMinimalPolynomialRow.holds Try.pinned (OpenSpec.ofChange fnExactMinimalPolynomialWrong)

/-- 'laws.FnExactHasInverse': WHATEVER THE INPUT: true; the input reads as it did. -/
def fnExactHasInverseSpec : ChangeSpec := { name := "fnExactHasInverse", fn := fun _ => fun
  | [d1, d2] => { results := [.lit (.bool true)], args := [d1, d2] }
  | _ => none }
def fnExactHasInverseRow : OpenClaim := { program := "ytkmegekpfmjdlaa", sum := "dc34b4342898f033d52673ff5020728172feddad9556178ebb68d992771da980", func := "loop.example/g01124/laws.FnExactHasInverse", spec := "fnExactHasInverse", unfollowed := true, recurses := true, apart := false }
def FnExactHasInverseSaid : Prop := fnExactHasInverseRow.holds Try.pinned (OpenSpec.ofChange fnExactHasInverseSpec)

/-- ITS FALSE NEIGHBOUR: 'it returns false'. Refute it at one input. -/
def fnExactHasInverseWrong : ChangeSpec := { name := "fnExactHasInverse", fn := fun _ => fun
  | [d1, d2] => { results := [.lit (.bool false)], args := [d1, d2] }
  | _ => none }
def FnExactHasInverseWrongFalsely : Prop := fnExactHasInverseRow.holds Try.pinned (OpenSpec.ofChange fnExactHasInverseWrong)

/- THE SECOND FORM. 'bulk': how many values and letters a reading holds, each counted each time it is reached (what is shared counts as often as it is met; a slice's spare places count too). A statement '..UptoSaid' is the law's where the arguments, and the package variables that the reading takes, are together of bulk at most 1048576: NARROWER than '..Said'. Prove '..Said' where nothing that the law and all that it calls make is longer than what came in: it says more and counts as full. Else prove '..UptoSaid'. A law counts once. -/
mutual
def uptoBulk {H : Type} : DataW H → Nat
  | .lit (.string bytes) => bytes.length + 1
  | .lit _ => 1
  | .nil => 1
  | .ptr d => uptoBulk d + 1
  | .slice elems spare => uptoBulkAll elems + uptoBulkAll spare + 1
  | .agg parts => uptoBulkAll parts + 1
  | .iface _ d => uptoBulk d + 1
  | .map entries => uptoBulkEntries entries + 1
  | .held _ => 1
def uptoBulkAll {H : Type} : List (DataW H) → Nat
  | [] => 0
  | d :: r => uptoBulk d + uptoBulkAll r
def uptoBulkEntries {H : Type} : List (Lit × DataW H) → Nat
  | [] => 0
  | x :: r => uptoBulkEntry x + uptoBulkEntries r
def uptoBulkEntry {H : Type} : Lit × DataW H → Nat
  | (.string bytes, d) => bytes.length + uptoBulk d + 1
  | (_, d) => uptoBulk d + 1
 end
def uptoSmall : (H : Type) → List (DataW H) → Bool := fun _ ds => decide (uptoBulkAll ds ≤ 1048576)
def OpenSpec.upto (s : _root_.Go.ChangeSpec) : _root_.Go.OpenSpec := { _root_.Go.OpenSpec.ofChange s with cond := some uptoSmall }

/-- 'laws.FnExactWedgeOfVectors', WHERE WHAT IT READS IS OF BULK AT MOST 1048576: true; the input reads as it did. -/
def fnExactWedgeOfVectorsUptoRow : OpenClaim := { program := "ytkmegekpfmjdlaa", sum := "dc34b4342898f033d52673ff5020728172feddad9556178ebb68d992771da980", func := "loop.example/g01124/laws.FnExactWedgeOfVectors", spec := "fnExactWedgeOfVectors", unfollowed := true, recurses := true, apart := false, narrowed := true }
def FnExactWedgeOfVectorsUptoSaid : Prop := fnExactWedgeOfVectorsUptoRow.holds Try.pinned (OpenSpec.upto fnExactWedgeOfVectorsSpec)

/-- 'laws.FnExactLeftMatrix', WHERE WHAT IT READS IS OF BULK AT MOST 1048576: true; the input reads as it did. -/
def fnExactLeftMatrixUptoRow : OpenClaim := { program := "ytkmegekpfmjdlaa", sum := "dc34b4342898f033d52673ff5020728172feddad9556178ebb68d992771da980", func := "loop.example/g01124/laws.FnExactLeftMatrix", spec := "fnExactLeftMatrix", unfollowed := true, recurses := true, apart := false, narrowed := true }
def FnExactLeftMatrixUptoSaid : Prop := fnExactLeftMatrixUptoRow.holds Try.pinned (OpenSpec.upto fnExactLeftMatrixSpec)

/-- 'laws.FnExactRightMatrix', WHERE WHAT IT READS IS OF BULK AT MOST 1048576: true; the input reads as it did. -/
def fnExactRightMatrixUptoRow : OpenClaim := { program := "ytkmegekpfmjdlaa", sum := "dc34b4342898f033d52673ff5020728172feddad9556178ebb68d992771da980", func := "loop.example/g01124/laws.FnExactRightMatrix", spec := "fnExactRightMatrix", unfollowed := true, recurses := true, apart := false, narrowed := true }
def FnExactRightMatrixUptoSaid : Prop := fnExactRightMatrixUptoRow.holds Try.pinned (OpenSpec.upto fnExactRightMatrixSpec)

/-- 'laws.FnExactMatrixBracket', WHERE WHAT IT READS IS OF BULK AT MOST 1048576: true; the input reads as it did. -/
def fnExactMatrixBracketUptoRow : OpenClaim := { program := "ytkmegekpfmjdlaa", sum := "dc34b4342898f033d52673ff5020728172feddad9556178ebb68d992771da980", func := "loop.example/g01124/laws.FnExactMatrixBracket", spec := "fnExactMatrixBracket", unfollowed := true, recurses := true, apart := false, narrowed := true }
def FnExactMatrixBracketUptoSaid : Prop := fnExactMatrixBracketUptoRow.holds Try.pinned (OpenSpec.upto fnExactMatrixBracketSpec)

/-- 'laws.FnExactVersorOf', WHERE WHAT IT READS IS OF BULK AT MOST 1048576: true; the input reads as it did. -/
def fnExactVersorOfUptoRow : OpenClaim := { program := "ytkmegekpfmjdlaa", sum := "dc34b4342898f033d52673ff5020728172feddad9556178ebb68d992771da980", func := "loop.example/g01124/laws.FnExactVersorOf", spec := "fnExactVersorOf", unfollowed := true, recurses := true, apart := false, narrowed := true }
def FnExactVersorOfUptoSaid : Prop := fnExactVersorOfUptoRow.holds Try.pinned (OpenSpec.upto fnExactVersorOfSpec)

/-- 'laws.FnExactWedgeOfPoints', WHERE WHAT IT READS IS OF BULK AT MOST 1048576: true; the input reads as it did. -/
def fnExactWedgeOfPointsUptoRow : OpenClaim := { program := "ytkmegekpfmjdlaa", sum := "dc34b4342898f033d52673ff5020728172feddad9556178ebb68d992771da980", func := "loop.example/g01124/laws.FnExactWedgeOfPoints", spec := "fnExactWedgeOfPoints", unfollowed := true, recurses := true, apart := false, narrowed := true }
def FnExactWedgeOfPointsUptoSaid : Prop := fnExactWedgeOfPointsUptoRow.holds Try.pinned (OpenSpec.upto fnExactWedgeOfPointsSpec)

/-- 'laws.FnExactBracketTriple', WHERE WHAT IT READS IS OF BULK AT MOST 1048576: true; the input reads as it did. -/
def fnExactBracketTripleUptoRow : OpenClaim := { program := "ytkmegekpfmjdlaa", sum := "dc34b4342898f033d52673ff5020728172feddad9556178ebb68d992771da980", func := "loop.example/g01124/laws.FnExactBracketTriple", spec := "fnExactBracketTriple", unfollowed := true, recurses := true, apart := false, narrowed := true }
def FnExactBracketTripleUptoSaid : Prop := fnExactBracketTripleUptoRow.holds Try.pinned (OpenSpec.upto fnExactBracketTripleSpec)

/-- 'laws.FnExactBladeOfVectors', WHERE WHAT IT READS IS OF BULK AT MOST 1048576: true; the input reads as it did. -/
def fnExactBladeOfVectorsUptoRow : OpenClaim := { program := "ytkmegekpfmjdlaa", sum := "dc34b4342898f033d52673ff5020728172feddad9556178ebb68d992771da980", func := "loop.example/g01124/laws.FnExactBladeOfVectors", spec := "fnExactBladeOfVectors", unfollowed := true, recurses := true, apart := false, narrowed := true }
def FnExactBladeOfVectorsUptoSaid : Prop := fnExactBladeOfVectorsUptoRow.holds Try.pinned (OpenSpec.upto fnExactBladeOfVectorsSpec)

/-- 'laws.FnExactSphereThrough', WHERE WHAT IT READS IS OF BULK AT MOST 1048576: true; the input reads as it did. -/
def fnExactSphereThroughUptoRow : OpenClaim := { program := "ytkmegekpfmjdlaa", sum := "dc34b4342898f033d52673ff5020728172feddad9556178ebb68d992771da980", func := "loop.example/g01124/laws.FnExactSphereThrough", spec := "fnExactSphereThrough", unfollowed := true, recurses := true, apart := false, narrowed := true }
def FnExactSphereThroughUptoSaid : Prop := fnExactSphereThroughUptoRow.holds Try.pinned (OpenSpec.upto fnExactSphereThroughSpec)

/-- 'laws.FnExactLeftIdealOf', WHERE WHAT IT READS IS OF BULK AT MOST 1048576: true; the input reads as it did. -/
def fnExactLeftIdealOfUptoRow : OpenClaim := { program := "ytkmegekpfmjdlaa", sum := "dc34b4342898f033d52673ff5020728172feddad9556178ebb68d992771da980", func := "loop.example/g01124/laws.FnExactLeftIdealOf", spec := "fnExactLeftIdealOf", unfollowed := true, recurses := true, apart := false, narrowed := true }
def FnExactLeftIdealOfUptoSaid : Prop := fnExactLeftIdealOfUptoRow.holds Try.pinned (OpenSpec.upto fnExactLeftIdealOfSpec)

/-- 'laws.FnExactMinimalPolynomial', WHERE WHAT IT READS IS OF BULK AT MOST 1048576: true; the input reads as it did. -/
def fnExactMinimalPolynomialUptoRow : OpenClaim := { program := "ytkmegekpfmjdlaa", sum := "dc34b4342898f033d52673ff5020728172feddad9556178ebb68d992771da980", func := "loop.example/g01124/laws.FnExactMinimalPolynomial", spec := "fnExactMinimalPolynomial", unfollowed := true, recurses := true, apart := false, narrowed := true }
def FnExactMinimalPolynomialUptoSaid : Prop := fnExactMinimalPolynomialUptoRow.holds Try.pinned (OpenSpec.upto fnExactMinimalPolynomialSpec)

/-- 'laws.FnExactHasInverse', WHERE WHAT IT READS IS OF BULK AT MOST 1048576: true; the input reads as it did. -/
def fnExactHasInverseUptoRow : OpenClaim := { program := "ytkmegekpfmjdlaa", sum := "dc34b4342898f033d52673ff5020728172feddad9556178ebb68d992771da980", func := "loop.example/g01124/laws.FnExactHasInverse", spec := "fnExactHasInverse", unfollowed := true, recurses := true, apart := false, narrowed := true }
def FnExactHasInverseUptoSaid : Prop := fnExactHasInverseUptoRow.holds Try.pinned (OpenSpec.upto fnExactHasInverseSpec)

end Rows
end Go.Proofs.Ytkmegekpfmjdlaa
