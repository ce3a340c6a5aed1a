/-
  No cell of these rows narrows 'for every input' (looked for: loops, veiled, ifaces, maps, wideKeys, modest, calm, conditions, laid).
  DERIVED. THE GIVEN ROWS OF THIS SEAT. 12 by the template 'for every input the law returns true; each argument reads behind the call as it read before'; 0 by the template 'total and deterministic' (their statements: YtfkaijlnmmbpgaaTotals.lean).
  GIVEN WITH THE SEED: the statements are not yours to turn. If you find one false, say at which input.
  Laid BY PROGRAM, IN A SANDBOX (cutbox-rows.mjs): the forced cells as the released guide's own fill.sh prints them over the translation c18803d4ec841bcd… (all of the seat's roots in one cut). By AI agents, Wed Nov 11 2026. No macro, syntax, notation, axiom, sorry.
-/
import Derived.Test.YtfkaijlnmmbpgaaChecked
import GoSem.Claim
import GoSem.ClaimJoined
import GoSem.ClaimMapViews
import Derived.JoinedTies
import Derived.KernelRfl
namespace Go.Proofs.Ytfkaijlnmmbpgaa
/- THE CELL 'sum', in the pinned program and in every row, IS THE sha256 OF THE DUMP (.gsa) THAT YtfkaijlnmmbpgaaProg.lean LOADS. Nothing in Lean hashes anything: it is a label: what it is worth is what the hold of that sum in a sandbox is worth. -/
noncomputable def Try.pinned : Pinned := { name := "ytfkaijlnmmbpgaa", sum := "c18803d4ec841bcdb87ba3d37498b292923413954efab262a7a0bc17345a2646", checked := Try.checked }
namespace Rows
def none {H : Type} : Left H := { results := [], args := [] }

/-- 'laws.FnExactCountTerms': WHATEVER THE INPUT: true; the input reads as it did. -/
def fnExactCountTermsSpec : ChangeSpec := { name := "fnExactCountTerms", fn := fun _ => fun
  | [d1, d2] => { results := [.lit (.bool true)], args := [d1, d2] }
  | _ => none }
def fnExactCountTermsRow : OpenClaim := { program := "ytfkaijlnmmbpgaa", sum := "c18803d4ec841bcdb87ba3d37498b292923413954efab262a7a0bc17345a2646", func := "loop.example/g01124/laws.FnExactCountTerms", spec := "fnExactCountTerms", unfollowed := true, recurses := true, apart := false }
def FnExactCountTermsSaid : Prop := fnExactCountTermsRow.holds Try.pinned (OpenSpec.ofChange fnExactCountTermsSpec)

/-- ITS FALSE NEIGHBOUR: 'it returns false'. Refute it at one input. -/
def fnExactCountTermsWrong : ChangeSpec := { name := "fnExactCountTerms", fn := fun _ => fun
  | [d1, d2] => { results := [.lit (.bool false)], args := [d1, d2] }
  | _ => none }
def FnExactCountTermsWrongFalsely : Prop := fnExactCountTermsRow.holds Try.pinned (OpenSpec.ofChange fnExactCountTermsWrong)

/-- 'laws.FnExactPseudoscalarSquare': WHATEVER THE INPUT: true; the input reads as it did. -/
def fnExactPseudoscalarSquareSpec : ChangeSpec := { name := "fnExactPseudoscalarSquare", fn := fun _ => fun
  | [d] => { results := [.lit (.bool true)], args := [d] }
  | _ => none }
def fnExactPseudoscalarSquareRow : OpenClaim := { program := "ytfkaijlnmmbpgaa", sum := "c18803d4ec841bcdb87ba3d37498b292923413954efab262a7a0bc17345a2646", func := "loop.example/g01124/laws.FnExactPseudoscalarSquare", spec := "fnExactPseudoscalarSquare", unfollowed := true, recurses := true, apart := false }
def FnExactPseudoscalarSquareSaid : Prop := fnExactPseudoscalarSquareRow.holds Try.pinned (OpenSpec.ofChange fnExactPseudoscalarSquareSpec)

/-- ITS FALSE NEIGHBOUR: 'it returns false'. Refute it at one input. -/
def fnExactPseudoscalarSquareWrong : ChangeSpec := { name := "fnExactPseudoscalarSquare", fn := fun _ => fun
  | [d] => { results := [.lit (.bool false)], args := [d] }
  | _ => none }
def FnExactPseudoscalarSquareWrongFalsely : Prop := fnExactPseudoscalarSquareRow.holds Try.pinned (OpenSpec.ofChange fnExactPseudoscalarSquareWrong)

/-- 'laws.FnExactRightContraction': WHATEVER THE INPUT: true; the input reads as it did. -/
def fnExactRightContractionSpec : ChangeSpec := { name := "fnExactRightContraction", fn := fun _ => fun
  | [d1, d2, d3] => { results := [.lit (.bool true)], args := [d1, d2, d3] }
  | _ => none }
def fnExactRightContractionRow : OpenClaim := { program := "ytfkaijlnmmbpgaa", sum := "c18803d4ec841bcdb87ba3d37498b292923413954efab262a7a0bc17345a2646", func := "loop.example/g01124/laws.FnExactRightContraction", spec := "fnExactRightContraction", unfollowed := true, recurses := true, apart := false }
def FnExactRightContractionSaid : Prop := fnExactRightContractionRow.holds Try.pinned (OpenSpec.ofChange fnExactRightContractionSpec)

/-- ITS FALSE NEIGHBOUR: 'it returns false'. Refute it at one input. -/
def fnExactRightContractionWrong : ChangeSpec := { name := "fnExactRightContraction", fn := fun _ => fun
  | [d1, d2, d3] => { results := [.lit (.bool false)], args := [d1, d2, d3] }
  | _ => none }
def FnExactRightContractionWrongFalsely : Prop := fnExactRightContractionRow.holds Try.pinned (OpenSpec.ofChange fnExactRightContractionWrong)

/-- 'laws.FnExactLeftContraction': WHATEVER THE INPUT: true; the input reads as it did. -/
def fnExactLeftContractionSpec : ChangeSpec := { name := "fnExactLeftContraction", fn := fun _ => fun
  | [d1, d2, d3] => { results := [.lit (.bool true)], args := [d1, d2, d3] }
  | _ => none }
def fnExactLeftContractionRow : OpenClaim := { program := "ytfkaijlnmmbpgaa", sum := "c18803d4ec841bcdb87ba3d37498b292923413954efab262a7a0bc17345a2646", func := "loop.example/g01124/laws.FnExactLeftContraction", spec := "fnExactLeftContraction", unfollowed := true, recurses := true, apart := false }
def FnExactLeftContractionSaid : Prop := fnExactLeftContractionRow.holds Try.pinned (OpenSpec.ofChange fnExactLeftContractionSpec)

/-- ITS FALSE NEIGHBOUR: 'it returns false'. Refute it at one input. -/
def fnExactLeftContractionWrong : ChangeSpec := { name := "fnExactLeftContraction", fn := fun _ => fun
  | [d1, d2, d3] => { results := [.lit (.bool false)], args := [d1, d2, d3] }
  | _ => none }
def FnExactLeftContractionWrongFalsely : Prop := fnExactLeftContractionRow.holds Try.pinned (OpenSpec.ofChange fnExactLeftContractionWrong)

/-- 'laws.FnExactWedgeProduct': WHATEVER THE INPUT: true; the input reads as it did. -/
def fnExactWedgeProductSpec : ChangeSpec := { name := "fnExactWedgeProduct", fn := fun _ => fun
  | [d1, d2, d3] => { results := [.lit (.bool true)], args := [d1, d2, d3] }
  | _ => none }
def fnExactWedgeProductRow : OpenClaim := { program := "ytfkaijlnmmbpgaa", sum := "c18803d4ec841bcdb87ba3d37498b292923413954efab262a7a0bc17345a2646", func := "loop.example/g01124/laws.FnExactWedgeProduct", spec := "fnExactWedgeProduct", unfollowed := true, recurses := true, apart := false }
def FnExactWedgeProductSaid : Prop := fnExactWedgeProductRow.holds Try.pinned (OpenSpec.ofChange fnExactWedgeProductSpec)

/-- ITS FALSE NEIGHBOUR: 'it returns false'. Refute it at one input. -/
def fnExactWedgeProductWrong : ChangeSpec := { name := "fnExactWedgeProduct", fn := fun _ => fun
  | [d1, d2, d3] => { results := [.lit (.bool false)], args := [d1, d2, d3] }
  | _ => none }
def FnExactWedgeProductWrongFalsely : Prop := fnExactWedgeProductRow.holds Try.pinned (OpenSpec.ofChange fnExactWedgeProductWrong)

/-- 'laws.FnExactGeometricProduct': WHATEVER THE INPUT: true; the input reads as it did. -/
def fnExactGeometricProductSpec : ChangeSpec := { name := "fnExactGeometricProduct", fn := fun _ => fun
  | [d1, d2, d3] => { results := [.lit (.bool true)], args := [d1, d2, d3] }
  | _ => none }
def fnExactGeometricProductRow : OpenClaim := { program := "ytfkaijlnmmbpgaa", sum := "c18803d4ec841bcdb87ba3d37498b292923413954efab262a7a0bc17345a2646", func := "loop.example/g01124/laws.FnExactGeometricProduct", spec := "fnExactGeometricProduct", unfollowed := true, recurses := true, apart := false }
def FnExactGeometricProductSaid : Prop := fnExactGeometricProductRow.holds Try.pinned (OpenSpec.ofChange fnExactGeometricProductSpec)

/-- ITS FALSE NEIGHBOUR: 'it returns false'. Refute it at one input. -/
def fnExactGeometricProductWrong : ChangeSpec := { name := "fnExactGeometricProduct", fn := fun _ => fun
  | [d1, d2, d3] => { results := [.lit (.bool false)], args := [d1, d2, d3] }
  | _ => none }
def FnExactGeometricProductWrongFalsely : Prop := fnExactGeometricProductRow.holds Try.pinned (OpenSpec.ofChange fnExactGeometricProductWrong)

/-- 'laws.FnExactBracketOf': WHATEVER THE INPUT: true; the input reads as it did. -/
def fnExactBracketOfSpec : ChangeSpec := { name := "fnExactBracketOf", fn := fun _ => fun
  | [d1, d2, d3] => { results := [.lit (.bool true)], args := [d1, d2, d3] }
  | _ => none }
def fnExactBracketOfRow : OpenClaim := { program := "ytfkaijlnmmbpgaa", sum := "c18803d4ec841bcdb87ba3d37498b292923413954efab262a7a0bc17345a2646", func := "loop.example/g01124/laws.FnExactBracketOf", spec := "fnExactBracketOf", unfollowed := true, recurses := true, apart := false }
def FnExactBracketOfSaid : Prop := fnExactBracketOfRow.holds Try.pinned (OpenSpec.ofChange fnExactBracketOfSpec)

/-- ITS FALSE NEIGHBOUR: 'it returns false'. Refute it at one input. -/
def fnExactBracketOfWrong : ChangeSpec := { name := "fnExactBracketOf", fn := fun _ => fun
  | [d1, d2, d3] => { results := [.lit (.bool false)], args := [d1, d2, d3] }
  | _ => none }
def FnExactBracketOfWrongFalsely : Prop := fnExactBracketOfRow.holds Try.pinned (OpenSpec.ofChange fnExactBracketOfWrong)

/-- 'laws.FnExactScalarProduct': WHATEVER THE INPUT: true; the input reads as it did. -/
def fnExactScalarProductSpec : ChangeSpec := { name := "fnExactScalarProduct", fn := fun _ => fun
  | [d1, d2, d3] => { results := [.lit (.bool true)], args := [d1, d2, d3] }
  | _ => none }
def fnExactScalarProductRow : OpenClaim := { program := "ytfkaijlnmmbpgaa", sum := "c18803d4ec841bcdb87ba3d37498b292923413954efab262a7a0bc17345a2646", func := "loop.example/g01124/laws.FnExactScalarProduct", spec := "fnExactScalarProduct", unfollowed := true, recurses := true, apart := false }
def FnExactScalarProductSaid : Prop := fnExactScalarProductRow.holds Try.pinned (OpenSpec.ofChange fnExactScalarProductSpec)

/-- ITS FALSE NEIGHBOUR: 'it returns false'. Refute it at one input. -/
def fnExactScalarProductWrong : ChangeSpec := { name := "fnExactScalarProduct", fn := fun _ => fun
  | [d1, d2, d3] => { results := [.lit (.bool false)], args := [d1, d2, d3] }
  | _ => none }
def FnExactScalarProductWrongFalsely : Prop := fnExactScalarProductRow.holds Try.pinned (OpenSpec.ofChange fnExactScalarProductWrong)

/-- 'laws.FnExactIsIdempotent': WHATEVER THE INPUT: true; the input reads as it did. -/
def fnExactIsIdempotentSpec : ChangeSpec := { name := "fnExactIsIdempotent", fn := fun _ => fun
  | [d1, d2] => { results := [.lit (.bool true)], args := [d1, d2] }
  | _ => none }
def fnExactIsIdempotentRow : OpenClaim := { program := "ytfkaijlnmmbpgaa", sum := "c18803d4ec841bcdb87ba3d37498b292923413954efab262a7a0bc17345a2646", func := "loop.example/g01124/laws.FnExactIsIdempotent", spec := "fnExactIsIdempotent", unfollowed := true, recurses := true, apart := false }
def FnExactIsIdempotentSaid : Prop := fnExactIsIdempotentRow.holds Try.pinned (OpenSpec.ofChange fnExactIsIdempotentSpec)

/-- ITS FALSE NEIGHBOUR: 'it returns false'. Refute it at one input. -/
def fnExactIsIdempotentWrong : ChangeSpec := { name := "fnExactIsIdempotent", fn := fun _ => fun
  | [d1, d2] => { results := [.lit (.bool false)], args := [d1, d2] }
  | _ => none }
def FnExactIsIdempotentWrongFalsely : Prop := fnExactIsIdempotentRow.holds Try.pinned (OpenSpec.ofChange fnExactIsIdempotentWrong)

/-- 'laws.FnExactPowerOf': WHATEVER THE INPUT: true; the input reads as it did. -/
def fnExactPowerOfSpec : ChangeSpec := { name := "fnExactPowerOf", fn := fun _ => fun
  | [d1, d2, d3] => { results := [.lit (.bool true)], args := [d1, d2, d3] }
  | _ => none }
def fnExactPowerOfRow : OpenClaim := { program := "ytfkaijlnmmbpgaa", sum := "c18803d4ec841bcdb87ba3d37498b292923413954efab262a7a0bc17345a2646", func := "loop.example/g01124/laws.FnExactPowerOf", spec := "fnExactPowerOf", unfollowed := true, recurses := true, apart := false }
def FnExactPowerOfSaid : Prop := fnExactPowerOfRow.holds Try.pinned (OpenSpec.ofChange fnExactPowerOfSpec)

/-- ITS FALSE NEIGHBOUR: 'it returns false'. Refute it at one input. -/
def fnExactPowerOfWrong : ChangeSpec := { name := "fnExactPowerOf", fn := fun _ => fun
  | [d1, d2, d3] => { results := [.lit (.bool false)], args := [d1, d2, d3] }
  | _ => none }
def FnExactPowerOfWrongFalsely : Prop := fnExactPowerOfRow.holds Try.pinned (OpenSpec.ofChange fnExactPowerOfWrong)

/-- 'laws.FnExactUndualOf': WHATEVER THE INPUT: true; the input reads as it did. -/
def fnExactUndualOfSpec : ChangeSpec := { name := "fnExactUndualOf", fn := fun _ => fun
  | [d1, d2] => { results := [.lit (.bool true)], args := [d1, d2] }
  | _ => none }
def fnExactUndualOfRow : OpenClaim := { program := "ytfkaijlnmmbpgaa", sum := "c18803d4ec841bcdb87ba3d37498b292923413954efab262a7a0bc17345a2646", func := "loop.example/g01124/laws.FnExactUndualOf", spec := "fnExactUndualOf", unfollowed := true, recurses := true, apart := false }
def FnExactUndualOfSaid : Prop := fnExactUndualOfRow.holds Try.pinned (OpenSpec.ofChange fnExactUndualOfSpec)

/-- ITS FALSE NEIGHBOUR: 'it returns false'. Refute it at one input. -/
def fnExactUndualOfWrong : ChangeSpec := { name := "fnExactUndualOf", fn := fun _ => fun
  | [d1, d2] => { results := [.lit (.bool false)], args := [d1, d2] }
  | _ => none }
def FnExactUndualOfWrongFalsely : Prop := fnExactUndualOfRow.holds Try.pinned (OpenSpec.ofChange fnExactUndualOfWrong)

/-- 'laws.FnExactDualOf': WHATEVER THE INPUT: true; the input reads as it did. -/
def fnExactDualOfSpec : ChangeSpec := { name := "fnExactDualOf", fn := fun _ => fun
  | [d1, d2] => { results := [.lit (.bool true)], args := [d1, d2] }
  | _ => none }
def fnExactDualOfRow : OpenClaim := { program := "ytfkaijlnmmbpgaa", sum := "c18803d4ec841bcdb87ba3d37498b292923413954efab262a7a0bc17345a2646", func := "loop.example/g01124/laws.FnExactDualOf", spec := "fnExactDualOf", unfollowed := true, recurses := true, apart := false }
def FnExactDualOfSaid : Prop := fnExactDualOfRow.holds Try.pinned (OpenSpec.ofChange fnExactDualOfSpec)

/-- ITS FALSE NEIGHBOUR: 'it returns false'. Refute it at one input. -/
def fnExactDualOfWrong : ChangeSpec := { name := "fnExactDualOf", fn := fun _ => fun
  | [d1, d2] => { results := [.lit (.bool false)], args := [d1, d2] }
  | _ => none }
def FnExactDualOfWrongFalsely : Prop := fnExactDualOfRow.holds Try.pinned (OpenSpec.ofChange fnExactDualOfWrong)

/- THE SECOND FORM. 'bulk': how many values and letters a reading holds, each counted each time it is reached (what is shared counts as often as it is met; a slice's spare places count too). A statement '..UptoSaid' is the law's where the arguments, and the package variables that the reading takes, are together of bulk at most 1048576: NARROWER than '..Said'. Prove '..Said' where nothing that the law and all that it calls make is longer than what came in: it says more and counts as full. Else prove '..UptoSaid'. A law counts once. -/
mutual
def uptoBulk {H : Type} : DataW H → Nat
  | .lit (.string bytes) => bytes.length + 1
  | .lit _ => 1
  | .nil => 1
  | .ptr d => uptoBulk d + 1
  | .slice elems spare => uptoBulkAll elems + uptoBulkAll spare + 1
  | .agg parts => uptoBulkAll parts + 1
  | .iface _ d => uptoBulk d + 1
  | .map entries => uptoBulkEntries entries + 1
  | .held _ => 1
def uptoBulkAll {H : Type} : List (DataW H) → Nat
  | [] => 0
  | d :: r => uptoBulk d + uptoBulkAll r
def uptoBulkEntries {H : Type} : List (Lit × DataW H) → Nat
  | [] => 0
  | x :: r => uptoBulkEntry x + uptoBulkEntries r
def uptoBulkEntry {H : Type} : Lit × DataW H → Nat
  | (.string bytes, d) => bytes.length + uptoBulk d + 1
  | (_, d) => uptoBulk d + 1
 end
def uptoSmall : (H : Type) → List (DataW H) → Bool := fun _ ds => decide (uptoBulkAll ds ≤ 1048576)
def OpenSpec.upto (s : _root_.Go.ChangeSpec) : _root_.Go.OpenSpec := { _root_.Go.OpenSpec.ofChange s with cond := some uptoSmall }

/-- 'laws.FnExactCountTerms', WHERE WHAT IT READS IS OF BULK AT MOST 1048576: true; the input reads as it did. -/
def fnExactCountTermsUptoRow : OpenClaim := { program := "ytfkaijlnmmbpgaa", sum := "c18803d4ec841bcdb87ba3d37498b292923413954efab262a7a0bc17345a2646", func := "loop.example/g01124/laws.FnExactCountTerms", spec := "fnExactCountTerms", unfollowed := true, recurses := true, apart := false, narrowed := true }
def FnExactCountTermsUptoSaid : Prop := fnExactCountTermsUptoRow.holds Try.pinned (OpenSpec.upto fnExactCountTermsSpec)

/-- 'laws.FnExactPseudoscalarSquare', WHERE WHAT IT READS IS OF BULK AT MOST 1048576: true; the input reads as it did. -/
def fnExactPseudoscalarSquareUptoRow : OpenClaim := { program := "ytfkaijlnmmbpgaa", sum := "c18803d4ec841bcdb87ba3d37498b292923413954efab262a7a0bc17345a2646", func := "loop.example/g01124/laws.FnExactPseudoscalarSquare", spec := "fnExactPseudoscalarSquare", unfollowed := true, recurses := true, apart := false, narrowed := true }
def FnExactPseudoscalarSquareUptoSaid : Prop := fnExactPseudoscalarSquareUptoRow.holds Try.pinned (OpenSpec.upto fnExactPseudoscalarSquareSpec)

/-- 'laws.FnExactRightContraction', WHERE WHAT IT READS IS OF BULK AT MOST 1048576: true; the input reads as it did. -/
def fnExactRightContractionUptoRow : OpenClaim := { program := "ytfkaijlnmmbpgaa", sum := "c18803d4ec841bcdb87ba3d37498b292923413954efab262a7a0bc17345a2646", func := "loop.example/g01124/laws.FnExactRightContraction", spec := "fnExactRightContraction", unfollowed := true, recurses := true, apart := false, narrowed := true }
def FnExactRightContractionUptoSaid : Prop := fnExactRightContractionUptoRow.holds Try.pinned (OpenSpec.upto fnExactRightContractionSpec)

/-- 'laws.FnExactLeftContraction', WHERE WHAT IT READS IS OF BULK AT MOST 1048576: true; the input reads as it did. -/
def fnExactLeftContractionUptoRow : OpenClaim := { program := "ytfkaijlnmmbpgaa", sum := "c18803d4ec841bcdb87ba3d37498b292923413954efab262a7a0bc17345a2646", func := "loop.example/g01124/laws.FnExactLeftContraction", spec := "fnExactLeftContraction", unfollowed := true, recurses := true, apart := false, narrowed := true }
def FnExactLeftContractionUptoSaid : Prop := fnExactLeftContractionUptoRow.holds Try.pinned (OpenSpec.upto fnExactLeftContractionSpec)

/-- 'laws.FnExactWedgeProduct', WHERE WHAT IT READS IS OF BULK AT MOST 1048576: true; the input reads as it did. -/
def fnExactWedgeProductUptoRow : OpenClaim := { program := "ytfkaijlnmmbpgaa", sum := "c18803d4ec841bcdb87ba3d37498b292923413954efab262a7a0bc17345a2646", func := "loop.example/g01124/laws.FnExactWedgeProduct", spec := "fnExactWedgeProduct", unfollowed := true, recurses := true, apart := false, narrowed := true }
def FnExactWedgeProductUptoSaid : Prop := fnExactWedgeProductUptoRow.holds Try.pinned (OpenSpec.upto fnExactWedgeProductSpec)

/-- 'laws.FnExactGeometricProduct', WHERE WHAT IT READS IS OF BULK AT MOST 1048576: true; the input reads as it did. -/
def fnExactGeometricProductUptoRow : OpenClaim := { program := "ytfkaijlnmmbpgaa", sum := "c18803d4ec841bcdb87ba3d37498b292923413954efab262a7a0bc17345a2646", func := "loop.example/g01124/laws.FnExactGeometricProduct", spec := "fnExactGeometricProduct", unfollowed := true, recurses := true, apart := false, narrowed := true }
def FnExactGeometricProductUptoSaid : Prop := fnExactGeometricProductUptoRow.holds Try.pinned (OpenSpec.upto fnExactGeometricProductSpec)

/-- 'laws.FnExactBracketOf', WHERE WHAT IT READS IS OF BULK AT MOST 1048576: true; the input reads as it did. -/
def fnExactBracketOfUptoRow : OpenClaim := { program := "ytfkaijlnmmbpgaa", sum := "c18803d4ec841bcdb87ba3d37498b292923413954efab262a7a0bc17345a2646", func := "loop.example/g01124/laws.FnExactBracketOf", spec := "fnExactBracketOf", unfollowed := true, recurses := true, apart := false, narrowed := true }
def FnExactBracketOfUptoSaid : Prop := fnExactBracketOfUptoRow.holds Try.pinned (OpenSpec.upto fnExactBracketOfSpec)

/-- 'laws.FnExactScalarProduct', WHERE WHAT IT READS IS OF BULK AT MOST 1048576: true; the input reads as it did. -/
def fnExactScalarProductUptoRow : OpenClaim := { program := "ytfkaijlnmmbpgaa", sum := "c18803d4ec841bcdb87ba3d37498b292923413954efab262a7a0bc17345a2646", func := "loop.example/g01124/laws.FnExactScalarProduct", spec := "fnExactScalarProduct", unfollowed := true, recurses := true, apart := false, narrowed := true }
def FnExactScalarProductUptoSaid : Prop := fnExactScalarProductUptoRow.holds Try.pinned (OpenSpec.upto fnExactScalarProductSpec)

/-- 'laws.FnExactIsIdempotent', WHERE WHAT IT READS IS OF BULK AT MOST 1048576: true; the input reads as it did. -/
def fnExactIsIdempotentUptoRow : OpenClaim := { program := "ytfkaijlnmmbpgaa", sum := "c18803d4ec841bcdb87ba3d37498b292923413954efab262a7a0bc17345a2646", func := "loop.example/g01124/laws.FnExactIsIdempotent", spec := "fnExactIsIdempotent", unfollowed := true, recurses := true, apart := false, narrowed := true }
def FnExactIsIdempotentUptoSaid : Prop := fnExactIsIdempotentUptoRow.holds Try.pinned (OpenSpec.upto fnExactIsIdempotentSpec)

/-- 'laws.FnExactPowerOf', WHERE WHAT IT READS IS OF BULK AT MOST 1048576: true; the input reads as it did. -/
def fnExactPowerOfUptoRow : OpenClaim := { program := "ytfkaijlnmmbpgaa", sum := "c18803d4ec841bcdb87ba3d37498b292923413954efab262a7a0bc17345a2646", func := "loop.example/g01124/laws.FnExactPowerOf", spec := "fnExactPowerOf", unfollowed := true, recurses := true, apart := false, narrowed := true }
def FnExactPowerOfUptoSaid : Prop := fnExactPowerOfUptoRow.holds Try.pinned (OpenSpec.upto fnExactPowerOfSpec)

/-- 'laws.FnExactUndualOf', WHERE WHAT IT READS IS OF BULK AT MOST 1048576: true; the input reads as it did. -/
def fnExactUndualOfUptoRow : OpenClaim := { program := "ytfkaijlnmmbpgaa", sum := "c18803d4ec841bcdb87ba3d37498b292923413954efab262a7a0bc17345a2646", func := "loop.example/g01124/laws.FnExactUndualOf", spec := "fnExactUndualOf", unfollowed := true, recurses := true, apart := false, narrowed := true }
def FnExactUndualOfUptoSaid : Prop := fnExactUndualOfUptoRow.holds Try.pinned (OpenSpec.upto fnExactUndualOfSpec)

/-- 'laws.FnExactDualOf', WHERE WHAT IT READS IS OF BULK AT MOST 1048576: true; the input reads as it did. -/
def fnExactDualOfUptoRow : OpenClaim := { program := "ytfkaijlnmmbpgaa", sum := "c18803d4ec841bcdb87ba3d37498b292923413954efab262a7a0bc17345a2646", func := "loop.example/g01124/laws.FnExactDualOf", spec := "fnExactDualOf", unfollowed := true, recurses := true, apart := false, narrowed := true }
def FnExactDualOfUptoSaid : Prop := fnExactDualOfUptoRow.holds Try.pinned (OpenSpec.upto fnExactDualOfSpec)

end Rows
end Go.Proofs.Ytfkaijlnmmbpgaa
