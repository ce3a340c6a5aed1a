/-
  No cell of these rows narrows 'for every input' (looked for: loops, veiled, ifaces, maps, wideKeys, modest, calm, conditions, laid).
  DERIVED. THE GIVEN ROWS OF THIS SEAT. 12 by the template 'for every input the law returns true; each argument reads behind the call as it read before'; 0 by the template 'total and deterministic' (their statements: YthimjfnmpicbiaaTotals.lean).
  GIVEN WITH THE SEED: the statements are not yours to turn. If you find one false, say at which input.
  Laid BY PROGRAM, IN A SANDBOX (cutbox-rows.mjs): the forced cells as the released guide's own fill.sh prints them over the translation 054034d8c2f79519… (all of the seat's roots in one cut). By AI agents, Wed Nov 11 2026. No macro, syntax, notation, axiom, sorry.
-/
import Derived.Test.YthimjfnmpicbiaaChecked
import GoSem.Claim
import GoSem.ClaimJoined
import GoSem.ClaimMapViews
import Derived.JoinedTies
import Derived.KernelRfl
namespace Go.Proofs.Ythimjfnmpicbiaa
/- THE CELL 'sum', in the pinned program and in every row, IS THE sha256 OF THE DUMP (.gsa) THAT YthimjfnmpicbiaaProg.lean LOADS. Nothing in Lean hashes anything: it is a label: what it is worth is what the hold of that sum in a sandbox is worth. -/
noncomputable def Try.pinned : Pinned := { name := "ythimjfnmpicbiaa", sum := "054034d8c2f79519d3b7e4aa776a17ab35ade1ad8c461b5cb3dbeea5aa65fe5f", checked := Try.checked }
namespace Rows
def none {H : Type} : Left H := { results := [], args := [] }

/-- 'laws.FnExactWedgeOfPoints': WHATEVER THE INPUT: true; the input reads as it did. -/
def fnExactWedgeOfPointsSpec : ChangeSpec := { name := "fnExactWedgeOfPoints", fn := fun _ => fun
  | [d1, d2] => { results := [.lit (.bool true)], args := [d1, d2] }
  | _ => none }
def fnExactWedgeOfPointsRow : OpenClaim := { program := "ythimjfnmpicbiaa", sum := "054034d8c2f79519d3b7e4aa776a17ab35ade1ad8c461b5cb3dbeea5aa65fe5f", func := "loop.example/g01124/laws.FnExactWedgeOfPoints", spec := "fnExactWedgeOfPoints", unfollowed := true, recurses := true, apart := false }
def FnExactWedgeOfPointsSaid : Prop := fnExactWedgeOfPointsRow.holds Try.pinned (OpenSpec.ofChange fnExactWedgeOfPointsSpec)

/-- ITS FALSE NEIGHBOUR: 'it returns false'. Refute it at one input. -/
def fnExactWedgeOfPointsWrong : ChangeSpec := { name := "fnExactWedgeOfPoints", fn := fun _ => fun
  | [d1, d2] => { results := [.lit (.bool false)], args := [d1, d2] }
  | _ => none }
def FnExactWedgeOfPointsWrongFalsely : Prop := fnExactWedgeOfPointsRow.holds Try.pinned (OpenSpec.ofChange fnExactWedgeOfPointsWrong)

/-- 'laws.FnExactSphereThrough': WHATEVER THE INPUT: true; the input reads as it did. -/
def fnExactSphereThroughSpec : ChangeSpec := { name := "fnExactSphereThrough", fn := fun _ => fun
  | [d1, d2] => { results := [.lit (.bool true)], args := [d1, d2] }
  | _ => none }
def fnExactSphereThroughRow : OpenClaim := { program := "ythimjfnmpicbiaa", sum := "054034d8c2f79519d3b7e4aa776a17ab35ade1ad8c461b5cb3dbeea5aa65fe5f", func := "loop.example/g01124/laws.FnExactSphereThrough", spec := "fnExactSphereThrough", unfollowed := true, recurses := true, apart := false }
def FnExactSphereThroughSaid : Prop := fnExactSphereThroughRow.holds Try.pinned (OpenSpec.ofChange fnExactSphereThroughSpec)

/-- ITS FALSE NEIGHBOUR: 'it returns false'. Refute it at one input. -/
def fnExactSphereThroughWrong : ChangeSpec := { name := "fnExactSphereThrough", fn := fun _ => fun
  | [d1, d2] => { results := [.lit (.bool false)], args := [d1, d2] }
  | _ => none }
def FnExactSphereThroughWrongFalsely : Prop := fnExactSphereThroughRow.holds Try.pinned (OpenSpec.ofChange fnExactSphereThroughWrong)

/-- 'laws.FnExactInverseOf': WHATEVER THE INPUT: true; the input reads as it did. -/
def fnExactInverseOfSpec : ChangeSpec := { name := "fnExactInverseOf", fn := fun _ => fun
  | [d1, d2] => { results := [.lit (.bool true)], args := [d1, d2] }
  | _ => none }
def fnExactInverseOfRow : OpenClaim := { program := "ythimjfnmpicbiaa", sum := "054034d8c2f79519d3b7e4aa776a17ab35ade1ad8c461b5cb3dbeea5aa65fe5f", func := "loop.example/g01124/laws.FnExactInverseOf", spec := "fnExactInverseOf", unfollowed := true, recurses := true, apart := false }
def FnExactInverseOfSaid : Prop := fnExactInverseOfRow.holds Try.pinned (OpenSpec.ofChange fnExactInverseOfSpec)

/-- ITS FALSE NEIGHBOUR: 'it returns false'. Refute it at one input. -/
def fnExactInverseOfWrong : ChangeSpec := { name := "fnExactInverseOf", fn := fun _ => fun
  | [d1, d2] => { results := [.lit (.bool false)], args := [d1, d2] }
  | _ => none }
def FnExactInverseOfWrongFalsely : Prop := fnExactInverseOfRow.holds Try.pinned (OpenSpec.ofChange fnExactInverseOfWrong)

/-- 'laws.FnExactLeftAnnihilatorOf': WHATEVER THE INPUT: true; the input reads as it did. -/
def fnExactLeftAnnihilatorOfSpec : ChangeSpec := { name := "fnExactLeftAnnihilatorOf", fn := fun _ => fun
  | [d1, d2] => { results := [.lit (.bool true)], args := [d1, d2] }
  | _ => none }
def fnExactLeftAnnihilatorOfRow : OpenClaim := { program := "ythimjfnmpicbiaa", sum := "054034d8c2f79519d3b7e4aa776a17ab35ade1ad8c461b5cb3dbeea5aa65fe5f", func := "loop.example/g01124/laws.FnExactLeftAnnihilatorOf", spec := "fnExactLeftAnnihilatorOf", unfollowed := true, recurses := true, apart := false }
def FnExactLeftAnnihilatorOfSaid : Prop := fnExactLeftAnnihilatorOfRow.holds Try.pinned (OpenSpec.ofChange fnExactLeftAnnihilatorOfSpec)

/-- ITS FALSE NEIGHBOUR: 'it returns false'. Refute it at one input. -/
def fnExactLeftAnnihilatorOfWrong : ChangeSpec := { name := "fnExactLeftAnnihilatorOf", fn := fun _ => fun
  | [d1, d2] => { results := [.lit (.bool false)], args := [d1, d2] }
  | _ => none }
def FnExactLeftAnnihilatorOfWrongFalsely : Prop := fnExactLeftAnnihilatorOfRow.holds Try.pinned (OpenSpec.ofChange fnExactLeftAnnihilatorOfWrong)

/-- 'laws.FnExactCentreBasis': WHATEVER THE INPUT: true; the input reads as it did. -/
def fnExactCentreBasisSpec : ChangeSpec := { name := "fnExactCentreBasis", fn := fun _ => fun
  | [d] => { results := [.lit (.bool true)], args := [d] }
  | _ => none }
def fnExactCentreBasisRow : OpenClaim := { program := "ythimjfnmpicbiaa", sum := "054034d8c2f79519d3b7e4aa776a17ab35ade1ad8c461b5cb3dbeea5aa65fe5f", func := "loop.example/g01124/laws.FnExactCentreBasis", spec := "fnExactCentreBasis", unfollowed := true, recurses := true, apart := false }
def FnExactCentreBasisSaid : Prop := fnExactCentreBasisRow.holds Try.pinned (OpenSpec.ofChange fnExactCentreBasisSpec)

/-- ITS FALSE NEIGHBOUR: 'it returns false'. Refute it at one input. -/
def fnExactCentreBasisWrong : ChangeSpec := { name := "fnExactCentreBasis", fn := fun _ => fun
  | [d] => { results := [.lit (.bool false)], args := [d] }
  | _ => none }
def FnExactCentreBasisWrongFalsely : Prop := fnExactCentreBasisRow.holds Try.pinned (OpenSpec.ofChange fnExactCentreBasisWrong)

/-- 'laws.FnExactFixedVectors': WHATEVER THE INPUT: true; the input reads as it did. -/
def fnExactFixedVectorsSpec : ChangeSpec := { name := "fnExactFixedVectors", fn := fun _ => fun
  | [d1, d2] => { results := [.lit (.bool true)], args := [d1, d2] }
  | _ => none }
def fnExactFixedVectorsRow : OpenClaim := { program := "ythimjfnmpicbiaa", sum := "054034d8c2f79519d3b7e4aa776a17ab35ade1ad8c461b5cb3dbeea5aa65fe5f", func := "loop.example/g01124/laws.FnExactFixedVectors", spec := "fnExactFixedVectors", apart := false }
def FnExactFixedVectorsSaid : Prop := fnExactFixedVectorsRow.holds Try.pinned (OpenSpec.ofChange fnExactFixedVectorsSpec)

/-- ITS FALSE NEIGHBOUR: 'it returns false'. Refute it at one input. -/
def fnExactFixedVectorsWrong : ChangeSpec := { name := "fnExactFixedVectors", fn := fun _ => fun
  | [d1, d2] => { results := [.lit (.bool false)], args := [d1, d2] }
  | _ => none }
def FnExactFixedVectorsWrongFalsely : Prop := fnExactFixedVectorsRow.holds Try.pinned (OpenSpec.ofChange fnExactFixedVectorsWrong)

/-- 'laws.FnExactCayleyOf': WHATEVER THE INPUT: true; the input reads as it did. -/
def fnExactCayleyOfSpec : ChangeSpec := { name := "fnExactCayleyOf", fn := fun _ => fun
  | [d1, d2] => { results := [.lit (.bool true)], args := [d1, d2] }
  | _ => none }
def fnExactCayleyOfRow : OpenClaim := { program := "ythimjfnmpicbiaa", sum := "054034d8c2f79519d3b7e4aa776a17ab35ade1ad8c461b5cb3dbeea5aa65fe5f", func := "loop.example/g01124/laws.FnExactCayleyOf", spec := "fnExactCayleyOf", apart := false }
def FnExactCayleyOfSaid : Prop := fnExactCayleyOfRow.holds Try.pinned (OpenSpec.ofChange fnExactCayleyOfSpec)

/-- ITS FALSE NEIGHBOUR: 'it returns false'. Refute it at one input. -/
def fnExactCayleyOfWrong : ChangeSpec := { name := "fnExactCayleyOf", fn := fun _ => fun
  | [d1, d2] => { results := [.lit (.bool false)], args := [d1, d2] }
  | _ => none }
def FnExactCayleyOfWrongFalsely : Prop := fnExactCayleyOfRow.holds Try.pinned (OpenSpec.ofChange fnExactCayleyOfWrong)

/-- 'laws.FnExactCayleyBack': WHATEVER THE INPUT: true; the input reads as it did. -/
def fnExactCayleyBackSpec : ChangeSpec := { name := "fnExactCayleyBack", fn := fun _ => fun
  | [d1, d2] => { results := [.lit (.bool true)], args := [d1, d2] }
  | _ => none }
def fnExactCayleyBackRow : OpenClaim := { program := "ythimjfnmpicbiaa", sum := "054034d8c2f79519d3b7e4aa776a17ab35ade1ad8c461b5cb3dbeea5aa65fe5f", func := "loop.example/g01124/laws.FnExactCayleyBack", spec := "fnExactCayleyBack", apart := false }
def FnExactCayleyBackSaid : Prop := fnExactCayleyBackRow.holds Try.pinned (OpenSpec.ofChange fnExactCayleyBackSpec)

/-- ITS FALSE NEIGHBOUR: 'it returns false'. Refute it at one input. -/
def fnExactCayleyBackWrong : ChangeSpec := { name := "fnExactCayleyBack", fn := fun _ => fun
  | [d1, d2] => { results := [.lit (.bool false)], args := [d1, d2] }
  | _ => none }
def FnExactCayleyBackWrongFalsely : Prop := fnExactCayleyBackRow.holds Try.pinned (OpenSpec.ofChange fnExactCayleyBackWrong)

/-- 'laws.FnExactVersorOfMatrix': WHATEVER THE INPUT: true; the input reads as it did. -/
def fnExactVersorOfMatrixSpec : ChangeSpec := { name := "fnExactVersorOfMatrix", fn := fun _ => fun
  | [d1, d2] => { results := [.lit (.bool true)], args := [d1, d2] }
  | _ => none }
def fnExactVersorOfMatrixRow : OpenClaim := { program := "ythimjfnmpicbiaa", sum := "054034d8c2f79519d3b7e4aa776a17ab35ade1ad8c461b5cb3dbeea5aa65fe5f", func := "loop.example/g01124/laws.FnExactVersorOfMatrix", spec := "fnExactVersorOfMatrix", unfollowed := true, recurses := true, apart := false }
def FnExactVersorOfMatrixSaid : Prop := fnExactVersorOfMatrixRow.holds Try.pinned (OpenSpec.ofChange fnExactVersorOfMatrixSpec)

/-- ITS FALSE NEIGHBOUR: 'it returns false'. Refute it at one input. -/
def fnExactVersorOfMatrixWrong : ChangeSpec := { name := "fnExactVersorOfMatrix", fn := fun _ => fun
  | [d1, d2] => { results := [.lit (.bool false)], args := [d1, d2] }
  | _ => none }
def FnExactVersorOfMatrixWrongFalsely : Prop := fnExactVersorOfMatrixRow.holds Try.pinned (OpenSpec.ofChange fnExactVersorOfMatrixWrong)

/-- 'laws.FnVectorSquares': WHATEVER THE INPUT: true; the input reads as it did. -/
def fnVectorSquaresSpec : ChangeSpec := { name := "fnVectorSquares", fn := fun _ => fun
  | [d] => { results := [.lit (.bool true)], args := [d] }
  | _ => none }
def fnVectorSquaresRow : OpenClaim := { program := "ythimjfnmpicbiaa", sum := "054034d8c2f79519d3b7e4aa776a17ab35ade1ad8c461b5cb3dbeea5aa65fe5f", func := "loop.example/g01124/laws.FnVectorSquares", spec := "fnVectorSquares", unfollowed := true, recurses := true, apart := false }
def FnVectorSquaresSaid : Prop := fnVectorSquaresRow.holds Try.pinned (OpenSpec.ofChange fnVectorSquaresSpec)

/-- ITS FALSE NEIGHBOUR: 'it returns false'. Refute it at one input. -/
def fnVectorSquaresWrong : ChangeSpec := { name := "fnVectorSquares", fn := fun _ => fun
  | [d] => { results := [.lit (.bool false)], args := [d] }
  | _ => none }
def FnVectorSquaresWrongFalsely : Prop := fnVectorSquaresRow.holds Try.pinned (OpenSpec.ofChange fnVectorSquaresWrong)

/-- 'laws.FnGeometricProducts': WHATEVER THE INPUT: true; the input reads as it did. -/
def fnGeometricProductsSpec : ChangeSpec := { name := "fnGeometricProducts", fn := fun _ => fun
  | [d] => { results := [.lit (.bool true)], args := [d] }
  | _ => none }
def fnGeometricProductsRow : OpenClaim := { program := "ythimjfnmpicbiaa", sum := "054034d8c2f79519d3b7e4aa776a17ab35ade1ad8c461b5cb3dbeea5aa65fe5f", func := "loop.example/g01124/laws.FnGeometricProducts", spec := "fnGeometricProducts", unfollowed := true, recurses := true, apart := false }
def FnGeometricProductsSaid : Prop := fnGeometricProductsRow.holds Try.pinned (OpenSpec.ofChange fnGeometricProductsSpec)

/-- ITS FALSE NEIGHBOUR: 'it returns false'. Refute it at one input. -/
def fnGeometricProductsWrong : ChangeSpec := { name := "fnGeometricProducts", fn := fun _ => fun
  | [d] => { results := [.lit (.bool false)], args := [d] }
  | _ => none }
def FnGeometricProductsWrongFalsely : Prop := fnGeometricProductsRow.holds Try.pinned (OpenSpec.ofChange fnGeometricProductsWrong)

/-- 'laws.FnContractions': WHATEVER THE INPUT: true; the input reads as it did. -/
def fnContractionsSpec : ChangeSpec := { name := "fnContractions", fn := fun _ => fun
  | [d] => { results := [.lit (.bool true)], args := [d] }
  | _ => none }
def fnContractionsRow : OpenClaim := { program := "ythimjfnmpicbiaa", sum := "054034d8c2f79519d3b7e4aa776a17ab35ade1ad8c461b5cb3dbeea5aa65fe5f", func := "loop.example/g01124/laws.FnContractions", spec := "fnContractions", unfollowed := true, recurses := true, apart := false }
def FnContractionsSaid : Prop := fnContractionsRow.holds Try.pinned (OpenSpec.ofChange fnContractionsSpec)

/-- ITS FALSE NEIGHBOUR: 'it returns false'. Refute it at one input. -/
def fnContractionsWrong : ChangeSpec := { name := "fnContractions", fn := fun _ => fun
  | [d] => { results := [.lit (.bool false)], args := [d] }
  | _ => none }
def FnContractionsWrongFalsely : Prop := fnContractionsRow.holds Try.pinned (OpenSpec.ofChange fnContractionsWrong)

/- THE SECOND FORM. 'bulk': how many values and letters a reading holds, each counted each time it is reached (what is shared counts as often as it is met; a slice's spare places count too). A statement '..UptoSaid' is the law's where the arguments, and the package variables that the reading takes, are together of bulk at most 1048576: NARROWER than '..Said'. Prove '..Said' where nothing that the law and all that it calls make is longer than what came in: it says more and counts as full. Else prove '..UptoSaid'. A law counts once. -/
mutual
def uptoBulk {H : Type} : DataW H → Nat
  | .lit (.string bytes) => bytes.length + 1
  | .lit _ => 1
  | .nil => 1
  | .ptr d => uptoBulk d + 1
  | .slice elems spare => uptoBulkAll elems + uptoBulkAll spare + 1
  | .agg parts => uptoBulkAll parts + 1
  | .iface _ d => uptoBulk d + 1
  | .map entries => uptoBulkEntries entries + 1
  | .held _ => 1
def uptoBulkAll {H : Type} : List (DataW H) → Nat
  | [] => 0
  | d :: r => uptoBulk d + uptoBulkAll r
def uptoBulkEntries {H : Type} : List (Lit × DataW H) → Nat
  | [] => 0
  | x :: r => uptoBulkEntry x + uptoBulkEntries r
def uptoBulkEntry {H : Type} : Lit × DataW H → Nat
  | (.string bytes, d) => bytes.length + uptoBulk d + 1
  | (_, d) => uptoBulk d + 1
 end
def uptoSmall : (H : Type) → List (DataW H) → Bool := fun _ ds => decide (uptoBulkAll ds ≤ 1048576)
def OpenSpec.upto (s : _root_.Go.ChangeSpec) : _root_.Go.OpenSpec := { _root_.Go.OpenSpec.ofChange s with cond := some uptoSmall }

/-- 'laws.FnExactWedgeOfPoints', WHERE WHAT IT READS IS OF BULK AT MOST 1048576: true; the input reads as it did. -/
def fnExactWedgeOfPointsUptoRow : OpenClaim := { program := "ythimjfnmpicbiaa", sum := "054034d8c2f79519d3b7e4aa776a17ab35ade1ad8c461b5cb3dbeea5aa65fe5f", func := "loop.example/g01124/laws.FnExactWedgeOfPoints", spec := "fnExactWedgeOfPoints", unfollowed := true, recurses := true, apart := false, narrowed := true }
def FnExactWedgeOfPointsUptoSaid : Prop := fnExactWedgeOfPointsUptoRow.holds Try.pinned (OpenSpec.upto fnExactWedgeOfPointsSpec)

/-- 'laws.FnExactSphereThrough', WHERE WHAT IT READS IS OF BULK AT MOST 1048576: true; the input reads as it did. -/
def fnExactSphereThroughUptoRow : OpenClaim := { program := "ythimjfnmpicbiaa", sum := "054034d8c2f79519d3b7e4aa776a17ab35ade1ad8c461b5cb3dbeea5aa65fe5f", func := "loop.example/g01124/laws.FnExactSphereThrough", spec := "fnExactSphereThrough", unfollowed := true, recurses := true, apart := false, narrowed := true }
def FnExactSphereThroughUptoSaid : Prop := fnExactSphereThroughUptoRow.holds Try.pinned (OpenSpec.upto fnExactSphereThroughSpec)

/-- 'laws.FnExactInverseOf', WHERE WHAT IT READS IS OF BULK AT MOST 1048576: true; the input reads as it did. -/
def fnExactInverseOfUptoRow : OpenClaim := { program := "ythimjfnmpicbiaa", sum := "054034d8c2f79519d3b7e4aa776a17ab35ade1ad8c461b5cb3dbeea5aa65fe5f", func := "loop.example/g01124/laws.FnExactInverseOf", spec := "fnExactInverseOf", unfollowed := true, recurses := true, apart := false, narrowed := true }
def FnExactInverseOfUptoSaid : Prop := fnExactInverseOfUptoRow.holds Try.pinned (OpenSpec.upto fnExactInverseOfSpec)

/-- 'laws.FnExactLeftAnnihilatorOf', WHERE WHAT IT READS IS OF BULK AT MOST 1048576: true; the input reads as it did. -/
def fnExactLeftAnnihilatorOfUptoRow : OpenClaim := { program := "ythimjfnmpicbiaa", sum := "054034d8c2f79519d3b7e4aa776a17ab35ade1ad8c461b5cb3dbeea5aa65fe5f", func := "loop.example/g01124/laws.FnExactLeftAnnihilatorOf", spec := "fnExactLeftAnnihilatorOf", unfollowed := true, recurses := true, apart := false, narrowed := true }
def FnExactLeftAnnihilatorOfUptoSaid : Prop := fnExactLeftAnnihilatorOfUptoRow.holds Try.pinned (OpenSpec.upto fnExactLeftAnnihilatorOfSpec)

/-- 'laws.FnExactCentreBasis', WHERE WHAT IT READS IS OF BULK AT MOST 1048576: true; the input reads as it did. -/
def fnExactCentreBasisUptoRow : OpenClaim := { program := "ythimjfnmpicbiaa", sum := "054034d8c2f79519d3b7e4aa776a17ab35ade1ad8c461b5cb3dbeea5aa65fe5f", func := "loop.example/g01124/laws.FnExactCentreBasis", spec := "fnExactCentreBasis", unfollowed := true, recurses := true, apart := false, narrowed := true }
def FnExactCentreBasisUptoSaid : Prop := fnExactCentreBasisUptoRow.holds Try.pinned (OpenSpec.upto fnExactCentreBasisSpec)

/-- 'laws.FnExactFixedVectors', WHERE WHAT IT READS IS OF BULK AT MOST 1048576: true; the input reads as it did. -/
def fnExactFixedVectorsUptoRow : OpenClaim := { program := "ythimjfnmpicbiaa", sum := "054034d8c2f79519d3b7e4aa776a17ab35ade1ad8c461b5cb3dbeea5aa65fe5f", func := "loop.example/g01124/laws.FnExactFixedVectors", spec := "fnExactFixedVectors", apart := false, narrowed := true }
def FnExactFixedVectorsUptoSaid : Prop := fnExactFixedVectorsUptoRow.holds Try.pinned (OpenSpec.upto fnExactFixedVectorsSpec)

/-- 'laws.FnExactCayleyOf', WHERE WHAT IT READS IS OF BULK AT MOST 1048576: true; the input reads as it did. -/
def fnExactCayleyOfUptoRow : OpenClaim := { program := "ythimjfnmpicbiaa", sum := "054034d8c2f79519d3b7e4aa776a17ab35ade1ad8c461b5cb3dbeea5aa65fe5f", func := "loop.example/g01124/laws.FnExactCayleyOf", spec := "fnExactCayleyOf", apart := false, narrowed := true }
def FnExactCayleyOfUptoSaid : Prop := fnExactCayleyOfUptoRow.holds Try.pinned (OpenSpec.upto fnExactCayleyOfSpec)

/-- 'laws.FnExactCayleyBack', WHERE WHAT IT READS IS OF BULK AT MOST 1048576: true; the input reads as it did. -/
def fnExactCayleyBackUptoRow : OpenClaim := { program := "ythimjfnmpicbiaa", sum := "054034d8c2f79519d3b7e4aa776a17ab35ade1ad8c461b5cb3dbeea5aa65fe5f", func := "loop.example/g01124/laws.FnExactCayleyBack", spec := "fnExactCayleyBack", apart := false, narrowed := true }
def FnExactCayleyBackUptoSaid : Prop := fnExactCayleyBackUptoRow.holds Try.pinned (OpenSpec.upto fnExactCayleyBackSpec)

/-- 'laws.FnExactVersorOfMatrix', WHERE WHAT IT READS IS OF BULK AT MOST 1048576: true; the input reads as it did. -/
def fnExactVersorOfMatrixUptoRow : OpenClaim := { program := "ythimjfnmpicbiaa", sum := "054034d8c2f79519d3b7e4aa776a17ab35ade1ad8c461b5cb3dbeea5aa65fe5f", func := "loop.example/g01124/laws.FnExactVersorOfMatrix", spec := "fnExactVersorOfMatrix", unfollowed := true, recurses := true, apart := false, narrowed := true }
def FnExactVersorOfMatrixUptoSaid : Prop := fnExactVersorOfMatrixUptoRow.holds Try.pinned (OpenSpec.upto fnExactVersorOfMatrixSpec)

/-- 'laws.FnVectorSquares', WHERE WHAT IT READS IS OF BULK AT MOST 1048576: true; the input reads as it did. -/
def fnVectorSquaresUptoRow : OpenClaim := { program := "ythimjfnmpicbiaa", sum := "054034d8c2f79519d3b7e4aa776a17ab35ade1ad8c461b5cb3dbeea5aa65fe5f", func := "loop.example/g01124/laws.FnVectorSquares", spec := "fnVectorSquares", unfollowed := true, recurses := true, apart := false, narrowed := true }
def FnVectorSquaresUptoSaid : Prop := fnVectorSquaresUptoRow.holds Try.pinned (OpenSpec.upto fnVectorSquaresSpec)

/-- 'laws.FnGeometricProducts', WHERE WHAT IT READS IS OF BULK AT MOST 1048576: true; the input reads as it did. -/
def fnGeometricProductsUptoRow : OpenClaim := { program := "ythimjfnmpicbiaa", sum := "054034d8c2f79519d3b7e4aa776a17ab35ade1ad8c461b5cb3dbeea5aa65fe5f", func := "loop.example/g01124/laws.FnGeometricProducts", spec := "fnGeometricProducts", unfollowed := true, recurses := true, apart := false, narrowed := true }
def FnGeometricProductsUptoSaid : Prop := fnGeometricProductsUptoRow.holds Try.pinned (OpenSpec.upto fnGeometricProductsSpec)

/-- 'laws.FnContractions', WHERE WHAT IT READS IS OF BULK AT MOST 1048576: true; the input reads as it did. -/
def fnContractionsUptoRow : OpenClaim := { program := "ythimjfnmpicbiaa", sum := "054034d8c2f79519d3b7e4aa776a17ab35ade1ad8c461b5cb3dbeea5aa65fe5f", func := "loop.example/g01124/laws.FnContractions", spec := "fnContractions", unfollowed := true, recurses := true, apart := false, narrowed := true }
def FnContractionsUptoSaid : Prop := fnContractionsUptoRow.holds Try.pinned (OpenSpec.upto fnContractionsSpec)

end Rows
end Go.Proofs.Ythimjfnmpicbiaa
