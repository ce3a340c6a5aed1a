/-
  No cell of these rows narrows 'for every input' (looked for: loops, veiled, ifaces, maps, wideKeys, modest, calm, conditions, laid).
  DERIVED. THE GIVEN ROWS OF THIS SEAT. 5 by the template 'for every input the law returns true; each argument reads behind the call as it read before'; 0 by the template 'total and deterministic' (their statements: YtnabpmafcflljaaTotals.lean).
  GIVEN WITH THE SEED: the statements are not yours to turn. If you find one false, say at which input.
  Laid BY PROGRAM, IN A SANDBOX (cutbox-rows.mjs): the forced cells as the released guide's own fill.sh prints them over the translation 1356765333360f74… (all of the seat's roots in one cut). By AI agents, Wed Nov 11 2026. No macro, syntax, notation, axiom, sorry.
-/
import Derived.Test.YtnabpmafcflljaaChecked
import GoSem.Claim
import GoSem.ClaimJoined
import GoSem.ClaimMapViews
import Derived.JoinedTies
import Derived.KernelRfl
namespace Go.Proofs.Ytnabpmafcflljaa
/- THE CELL 'sum', in the pinned program and in every row, IS THE sha256 OF THE DUMP (.gsa) THAT YtnabpmafcflljaaProg.lean LOADS. Nothing in Lean hashes anything: it is a label: what it is worth is what the hold of that sum in a sandbox is worth. -/
noncomputable def Try.pinned : Pinned := { name := "ytnabpmafcflljaa", sum := "1356765333360f747b7c9dd5eaee667fdf2a2b9c8485f96f941f3e6a3df72e00", checked := Try.checked }
namespace Rows
def none {H : Type} : Left H := { results := [], args := [] }

/-- 'laws.FnExactSphereThrough': WHATEVER THE INPUT: true; the input reads as it did. -/
def fnExactSphereThroughSpec : ChangeSpec := { name := "fnExactSphereThrough", fn := fun _ => fun
  | [d1, d2] => { results := [.lit (.bool true)], args := [d1, d2] }
  | _ => none }
def fnExactSphereThroughRow : OpenClaim := { program := "ytnabpmafcflljaa", sum := "1356765333360f747b7c9dd5eaee667fdf2a2b9c8485f96f941f3e6a3df72e00", func := "loop.example/g01124/laws.FnExactSphereThrough", spec := "fnExactSphereThrough", unfollowed := true, recurses := true, apart := false }
def FnExactSphereThroughSaid : Prop := fnExactSphereThroughRow.holds Try.pinned (OpenSpec.ofChange fnExactSphereThroughSpec)

/-- ITS FALSE NEIGHBOUR: 'it returns false'. Refute it at one input. -/
def fnExactSphereThroughWrong : ChangeSpec := { name := "fnExactSphereThrough", fn := fun _ => fun
  | [d1, d2] => { results := [.lit (.bool false)], args := [d1, d2] }
  | _ => none }
def FnExactSphereThroughWrongFalsely : Prop := fnExactSphereThroughRow.holds Try.pinned (OpenSpec.ofChange fnExactSphereThroughWrong)

/-- 'laws.FnExactFixedVectors': WHATEVER THE INPUT: true; the input reads as it did. -/
def fnExactFixedVectorsSpec : ChangeSpec := { name := "fnExactFixedVectors", fn := fun _ => fun
  | [d1, d2] => { results := [.lit (.bool true)], args := [d1, d2] }
  | _ => none }
def fnExactFixedVectorsRow : OpenClaim := { program := "ytnabpmafcflljaa", sum := "1356765333360f747b7c9dd5eaee667fdf2a2b9c8485f96f941f3e6a3df72e00", func := "loop.example/g01124/laws.FnExactFixedVectors", spec := "fnExactFixedVectors", apart := false }
def FnExactFixedVectorsSaid : Prop := fnExactFixedVectorsRow.holds Try.pinned (OpenSpec.ofChange fnExactFixedVectorsSpec)

/-- ITS FALSE NEIGHBOUR: 'it returns false'. Refute it at one input. -/
def fnExactFixedVectorsWrong : ChangeSpec := { name := "fnExactFixedVectors", fn := fun _ => fun
  | [d1, d2] => { results := [.lit (.bool false)], args := [d1, d2] }
  | _ => none }
def FnExactFixedVectorsWrongFalsely : Prop := fnExactFixedVectorsRow.holds Try.pinned (OpenSpec.ofChange fnExactFixedVectorsWrong)

/-- 'laws.FnExactCayleyOf': WHATEVER THE INPUT: true; the input reads as it did. -/
def fnExactCayleyOfSpec : ChangeSpec := { name := "fnExactCayleyOf", fn := fun _ => fun
  | [d1, d2] => { results := [.lit (.bool true)], args := [d1, d2] }
  | _ => none }
def fnExactCayleyOfRow : OpenClaim := { program := "ytnabpmafcflljaa", sum := "1356765333360f747b7c9dd5eaee667fdf2a2b9c8485f96f941f3e6a3df72e00", func := "loop.example/g01124/laws.FnExactCayleyOf", spec := "fnExactCayleyOf", apart := false }
def FnExactCayleyOfSaid : Prop := fnExactCayleyOfRow.holds Try.pinned (OpenSpec.ofChange fnExactCayleyOfSpec)

/-- ITS FALSE NEIGHBOUR: 'it returns false'. Refute it at one input. -/
def fnExactCayleyOfWrong : ChangeSpec := { name := "fnExactCayleyOf", fn := fun _ => fun
  | [d1, d2] => { results := [.lit (.bool false)], args := [d1, d2] }
  | _ => none }
def FnExactCayleyOfWrongFalsely : Prop := fnExactCayleyOfRow.holds Try.pinned (OpenSpec.ofChange fnExactCayleyOfWrong)

/-- 'laws.FnExactCayleyBack': WHATEVER THE INPUT: true; the input reads as it did. -/
def fnExactCayleyBackSpec : ChangeSpec := { name := "fnExactCayleyBack", fn := fun _ => fun
  | [d1, d2] => { results := [.lit (.bool true)], args := [d1, d2] }
  | _ => none }
def fnExactCayleyBackRow : OpenClaim := { program := "ytnabpmafcflljaa", sum := "1356765333360f747b7c9dd5eaee667fdf2a2b9c8485f96f941f3e6a3df72e00", func := "loop.example/g01124/laws.FnExactCayleyBack", spec := "fnExactCayleyBack", apart := false }
def FnExactCayleyBackSaid : Prop := fnExactCayleyBackRow.holds Try.pinned (OpenSpec.ofChange fnExactCayleyBackSpec)

/-- ITS FALSE NEIGHBOUR: 'it returns false'. Refute it at one input. -/
def fnExactCayleyBackWrong : ChangeSpec := { name := "fnExactCayleyBack", fn := fun _ => fun
  | [d1, d2] => { results := [.lit (.bool false)], args := [d1, d2] }
  | _ => none }
def FnExactCayleyBackWrongFalsely : Prop := fnExactCayleyBackRow.holds Try.pinned (OpenSpec.ofChange fnExactCayleyBackWrong)

/-- 'laws.FnExactVersorOfMatrix': WHATEVER THE INPUT: true; the input reads as it did. -/
def fnExactVersorOfMatrixSpec : ChangeSpec := { name := "fnExactVersorOfMatrix", fn := fun _ => fun
  | [d1, d2] => { results := [.lit (.bool true)], args := [d1, d2] }
  | _ => none }
def fnExactVersorOfMatrixRow : OpenClaim := { program := "ytnabpmafcflljaa", sum := "1356765333360f747b7c9dd5eaee667fdf2a2b9c8485f96f941f3e6a3df72e00", func := "loop.example/g01124/laws.FnExactVersorOfMatrix", spec := "fnExactVersorOfMatrix", unfollowed := true, recurses := true, apart := false }
def FnExactVersorOfMatrixSaid : Prop := fnExactVersorOfMatrixRow.holds Try.pinned (OpenSpec.ofChange fnExactVersorOfMatrixSpec)

/-- ITS FALSE NEIGHBOUR: 'it returns false'. Refute it at one input. -/
def fnExactVersorOfMatrixWrong : ChangeSpec := { name := "fnExactVersorOfMatrix", fn := fun _ => fun
  | [d1, d2] => { results := [.lit (.bool false)], args := [d1, d2] }
  | _ => none }
def FnExactVersorOfMatrixWrongFalsely : Prop := fnExactVersorOfMatrixRow.holds Try.pinned (OpenSpec.ofChange fnExactVersorOfMatrixWrong)

/- THE SECOND FORM. 'bulk': how many values and letters a reading holds, each counted each time it is reached (what is shared counts as often as it is met; a slice's spare places count too). A statement '..UptoSaid' is the law's where the arguments, and the package variables that the reading takes, are together of bulk at most 1048576: NARROWER than '..Said'. Prove '..Said' where nothing that the law and all that it calls make is longer than what came in: it says more and counts as full. Else prove '..UptoSaid'. A law counts once. -/
mutual
def uptoBulk {H : Type} : DataW H → Nat
  | .lit (.string bytes) => bytes.length + 1
  | .lit _ => 1
  | .nil => 1
  | .ptr d => uptoBulk d + 1
  | .slice elems spare => uptoBulkAll elems + uptoBulkAll spare + 1
  | .agg parts => uptoBulkAll parts + 1
  | .iface _ d => uptoBulk d + 1
  | .map entries => uptoBulkEntries entries + 1
  | .held _ => 1
def uptoBulkAll {H : Type} : List (DataW H) → Nat
  | [] => 0
  | d :: r => uptoBulk d + uptoBulkAll r
def uptoBulkEntries {H : Type} : List (Lit × DataW H) → Nat
  | [] => 0
  | x :: r => uptoBulkEntry x + uptoBulkEntries r
def uptoBulkEntry {H : Type} : Lit × DataW H → Nat
  | (.string bytes, d) => bytes.length + uptoBulk d + 1
  | (_, d) => uptoBulk d + 1
 end
def uptoSmall : (H : Type) → List (DataW H) → Bool := fun _ ds => decide (uptoBulkAll ds ≤ 1048576)
def OpenSpec.upto (s : _root_.Go.ChangeSpec) : _root_.Go.OpenSpec := { _root_.Go.OpenSpec.ofChange s with cond := some uptoSmall }

/-- 'laws.FnExactSphereThrough', WHERE WHAT IT READS IS OF BULK AT MOST 1048576: true; the input reads as it did. -/
def fnExactSphereThroughUptoRow : OpenClaim := { program := "ytnabpmafcflljaa", sum := "1356765333360f747b7c9dd5eaee667fdf2a2b9c8485f96f941f3e6a3df72e00", func := "loop.example/g01124/laws.FnExactSphereThrough", spec := "fnExactSphereThrough", unfollowed := true, recurses := true, apart := false, narrowed := true }
def FnExactSphereThroughUptoSaid : Prop := fnExactSphereThroughUptoRow.holds Try.pinned (OpenSpec.upto fnExactSphereThroughSpec)

/-- 'laws.FnExactFixedVectors', WHERE WHAT IT READS IS OF BULK AT MOST 1048576: true; the input reads as it did. -/
def fnExactFixedVectorsUptoRow : OpenClaim := { program := "ytnabpmafcflljaa", sum := "1356765333360f747b7c9dd5eaee667fdf2a2b9c8485f96f941f3e6a3df72e00", func := "loop.example/g01124/laws.FnExactFixedVectors", spec := "fnExactFixedVectors", apart := false, narrowed := true }
def FnExactFixedVectorsUptoSaid : Prop := fnExactFixedVectorsUptoRow.holds Try.pinned (OpenSpec.upto fnExactFixedVectorsSpec)

/-- 'laws.FnExactCayleyOf', WHERE WHAT IT READS IS OF BULK AT MOST 1048576: true; the input reads as it did. -/
def fnExactCayleyOfUptoRow : OpenClaim := { program := "ytnabpmafcflljaa", sum := "1356765333360f747b7c9dd5eaee667fdf2a2b9c8485f96f941f3e6a3df72e00", func := "loop.example/g01124/laws.FnExactCayleyOf", spec := "fnExactCayleyOf", apart := false, narrowed := true }
def FnExactCayleyOfUptoSaid : Prop := fnExactCayleyOfUptoRow.holds Try.pinned (OpenSpec.upto fnExactCayleyOfSpec)

/-- 'laws.FnExactCayleyBack', WHERE WHAT IT READS IS OF BULK AT MOST 1048576: true; the input reads as it did. -/
def fnExactCayleyBackUptoRow : OpenClaim := { program := "ytnabpmafcflljaa", sum := "1356765333360f747b7c9dd5eaee667fdf2a2b9c8485f96f941f3e6a3df72e00", func := "loop.example/g01124/laws.FnExactCayleyBack", spec := "fnExactCayleyBack", apart := false, narrowed := true }
def FnExactCayleyBackUptoSaid : Prop := fnExactCayleyBackUptoRow.holds Try.pinned (OpenSpec.upto fnExactCayleyBackSpec)

/-- 'laws.FnExactVersorOfMatrix', WHERE WHAT IT READS IS OF BULK AT MOST 1048576: true; the input reads as it did. -/
def fnExactVersorOfMatrixUptoRow : OpenClaim := { program := "ytnabpmafcflljaa", sum := "1356765333360f747b7c9dd5eaee667fdf2a2b9c8485f96f941f3e6a3df72e00", func := "loop.example/g01124/laws.FnExactVersorOfMatrix", spec := "fnExactVersorOfMatrix", unfollowed := true, recurses := true, apart := false, narrowed := true }
def FnExactVersorOfMatrixUptoSaid : Prop := fnExactVersorOfMatrixUptoRow.holds Try.pinned (OpenSpec.upto fnExactVersorOfMatrixSpec)

end Rows
end Go.Proofs.Ytnabpmafcflljaa
