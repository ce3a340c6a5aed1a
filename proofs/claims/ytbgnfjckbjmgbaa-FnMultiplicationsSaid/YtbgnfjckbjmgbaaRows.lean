/-
  No cell of these rows narrows 'for every input' (looked for: loops, veiled, ifaces, maps, wideKeys, modest, calm, conditions, laid).
  DERIVED. THE GIVEN ROWS OF THIS SEAT. 7 by the template 'for every input the law returns true; each argument reads behind the call as it read before'; 0 by the template 'total and deterministic' (their statements: YtbgnfjckbjmgbaaTotals.lean).
  GIVEN WITH THE SEED: the statements are not yours to turn. If you find one false, say at which input.
  Laid BY PROGRAM, IN A SANDBOX (cutbox-rows.mjs): the forced cells as the released guide's own fill.sh prints them over the translation a3684f8c00d51b7e… (all of the seat's roots in one cut). By AI agents, Wed Nov 11 2026. No macro, syntax, notation, axiom, sorry.
-/
import Derived.Test.YtbgnfjckbjmgbaaChecked
import GoSem.Claim
import GoSem.ClaimJoined
import GoSem.ClaimMapViews
import Derived.JoinedTies
import Derived.KernelRfl
namespace Go.Proofs.Ytbgnfjckbjmgbaa
/- THE CELL 'sum', in the pinned program and in every row, IS THE sha256 OF THE DUMP (.gsa) THAT YtbgnfjckbjmgbaaProg.lean LOADS. Nothing in Lean hashes anything: it is a label: what it is worth is what the hold of that sum in a sandbox is worth. -/
noncomputable def Try.pinned : Pinned := { name := "ytbgnfjckbjmgbaa", sum := "a3684f8c00d51b7e5cc26415185d4c1af0d277462590118a89a842101e080cf5", checked := Try.checked }
namespace Rows
def none {H : Type} : Left H := { results := [], args := [] }

/-- 'laws.FnVectorSquares': WHATEVER THE INPUT: true; the input reads as it did. -/
def fnVectorSquaresSpec : ChangeSpec := { name := "fnVectorSquares", fn := fun _ => fun
  | [d] => { results := [.lit (.bool true)], args := [d] }
  | _ => none }
def fnVectorSquaresRow : OpenClaim := { program := "ytbgnfjckbjmgbaa", sum := "a3684f8c00d51b7e5cc26415185d4c1af0d277462590118a89a842101e080cf5", func := "loop.example/g01124/laws.FnVectorSquares", spec := "fnVectorSquares", unfollowed := true, recurses := true, apart := false }
def FnVectorSquaresSaid : Prop := fnVectorSquaresRow.holds Try.pinned (OpenSpec.ofChange fnVectorSquaresSpec)

/-- ITS FALSE NEIGHBOUR: 'it returns false'. Refute it at one input. -/
def fnVectorSquaresWrong : ChangeSpec := { name := "fnVectorSquares", fn := fun _ => fun
  | [d] => { results := [.lit (.bool false)], args := [d] }
  | _ => none }
def FnVectorSquaresWrongFalsely : Prop := fnVectorSquaresRow.holds Try.pinned (OpenSpec.ofChange fnVectorSquaresWrong)

/-- 'laws.FnGeometricProducts': WHATEVER THE INPUT: true; the input reads as it did. -/
def fnGeometricProductsSpec : ChangeSpec := { name := "fnGeometricProducts", fn := fun _ => fun
  | [d] => { results := [.lit (.bool true)], args := [d] }
  | _ => none }
def fnGeometricProductsRow : OpenClaim := { program := "ytbgnfjckbjmgbaa", sum := "a3684f8c00d51b7e5cc26415185d4c1af0d277462590118a89a842101e080cf5", func := "loop.example/g01124/laws.FnGeometricProducts", spec := "fnGeometricProducts", unfollowed := true, recurses := true, apart := false }
def FnGeometricProductsSaid : Prop := fnGeometricProductsRow.holds Try.pinned (OpenSpec.ofChange fnGeometricProductsSpec)

/-- ITS FALSE NEIGHBOUR: 'it returns false'. Refute it at one input. -/
def fnGeometricProductsWrong : ChangeSpec := { name := "fnGeometricProducts", fn := fun _ => fun
  | [d] => { results := [.lit (.bool false)], args := [d] }
  | _ => none }
def FnGeometricProductsWrongFalsely : Prop := fnGeometricProductsRow.holds Try.pinned (OpenSpec.ofChange fnGeometricProductsWrong)

/-- 'laws.FnContractions': WHATEVER THE INPUT: true; the input reads as it did. -/
def fnContractionsSpec : ChangeSpec := { name := "fnContractions", fn := fun _ => fun
  | [d] => { results := [.lit (.bool true)], args := [d] }
  | _ => none }
def fnContractionsRow : OpenClaim := { program := "ytbgnfjckbjmgbaa", sum := "a3684f8c00d51b7e5cc26415185d4c1af0d277462590118a89a842101e080cf5", func := "loop.example/g01124/laws.FnContractions", spec := "fnContractions", unfollowed := true, recurses := true, apart := false }
def FnContractionsSaid : Prop := fnContractionsRow.holds Try.pinned (OpenSpec.ofChange fnContractionsSpec)

/-- ITS FALSE NEIGHBOUR: 'it returns false'. Refute it at one input. -/
def fnContractionsWrong : ChangeSpec := { name := "fnContractions", fn := fun _ => fun
  | [d] => { results := [.lit (.bool false)], args := [d] }
  | _ => none }
def FnContractionsWrongFalsely : Prop := fnContractionsRow.holds Try.pinned (OpenSpec.ofChange fnContractionsWrong)

/-- 'laws.FnMultivectorInverses': WHATEVER THE INPUT: true; the input reads as it did. -/
def fnMultivectorInversesSpec : ChangeSpec := { name := "fnMultivectorInverses", fn := fun _ => fun
  | [d] => { results := [.lit (.bool true)], args := [d] }
  | _ => none }
def fnMultivectorInversesRow : OpenClaim := { program := "ytbgnfjckbjmgbaa", sum := "a3684f8c00d51b7e5cc26415185d4c1af0d277462590118a89a842101e080cf5", func := "loop.example/g01124/laws.FnMultivectorInverses", spec := "fnMultivectorInverses", unfollowed := true, recurses := true, apart := false }
def FnMultivectorInversesSaid : Prop := fnMultivectorInversesRow.holds Try.pinned (OpenSpec.ofChange fnMultivectorInversesSpec)

/-- ITS FALSE NEIGHBOUR: 'it returns false'. Refute it at one input. -/
def fnMultivectorInversesWrong : ChangeSpec := { name := "fnMultivectorInverses", fn := fun _ => fun
  | [d] => { results := [.lit (.bool false)], args := [d] }
  | _ => none }
def FnMultivectorInversesWrongFalsely : Prop := fnMultivectorInversesRow.holds Try.pinned (OpenSpec.ofChange fnMultivectorInversesWrong)

/-- 'laws.FnDuals': WHATEVER THE INPUT: true; the input reads as it did. -/
def fnDualsSpec : ChangeSpec := { name := "fnDuals", fn := fun _ => fun
  | [d] => { results := [.lit (.bool true)], args := [d] }
  | _ => none }
def fnDualsRow : OpenClaim := { program := "ytbgnfjckbjmgbaa", sum := "a3684f8c00d51b7e5cc26415185d4c1af0d277462590118a89a842101e080cf5", func := "loop.example/g01124/laws.FnDuals", spec := "fnDuals", unfollowed := true, recurses := true, apart := false }
def FnDualsSaid : Prop := fnDualsRow.holds Try.pinned (OpenSpec.ofChange fnDualsSpec)

/-- ITS FALSE NEIGHBOUR: 'it returns false'. Refute it at one input. -/
def fnDualsWrong : ChangeSpec := { name := "fnDuals", fn := fun _ => fun
  | [d] => { results := [.lit (.bool false)], args := [d] }
  | _ => none }
def FnDualsWrongFalsely : Prop := fnDualsRow.holds Try.pinned (OpenSpec.ofChange fnDualsWrong)

/-- 'laws.FnMultiplications': WHATEVER THE INPUT: true; the input reads as it did. -/
def fnMultiplicationsSpec : ChangeSpec := { name := "fnMultiplications", fn := fun _ => fun
  | [d] => { results := [.lit (.bool true)], args := [d] }
  | _ => none }
def fnMultiplicationsRow : OpenClaim := { program := "ytbgnfjckbjmgbaa", sum := "a3684f8c00d51b7e5cc26415185d4c1af0d277462590118a89a842101e080cf5", func := "loop.example/g01124/laws.FnMultiplications", spec := "fnMultiplications", unfollowed := true, recurses := true, apart := false }
def FnMultiplicationsSaid : Prop := fnMultiplicationsRow.holds Try.pinned (OpenSpec.ofChange fnMultiplicationsSpec)

/-- ITS FALSE NEIGHBOUR: 'it returns false'. Refute it at one input. -/
def fnMultiplicationsWrong : ChangeSpec := { name := "fnMultiplications", fn := fun _ => fun
  | [d] => { results := [.lit (.bool false)], args := [d] }
  | _ => none }
def FnMultiplicationsWrongFalsely : Prop := fnMultiplicationsRow.holds Try.pinned (OpenSpec.ofChange fnMultiplicationsWrong)

/-- 'laws.FnWedges': WHATEVER THE INPUT: true; the input reads as it did. -/
def fnWedgesSpec : ChangeSpec := { name := "fnWedges", fn := fun _ => fun
  | [d] => { results := [.lit (.bool true)], args := [d] }
  | _ => none }
def fnWedgesRow : OpenClaim := { program := "ytbgnfjckbjmgbaa", sum := "a3684f8c00d51b7e5cc26415185d4c1af0d277462590118a89a842101e080cf5", func := "loop.example/g01124/laws.FnWedges", spec := "fnWedges", unfollowed := true, recurses := true, apart := false }
def FnWedgesSaid : Prop := fnWedgesRow.holds Try.pinned (OpenSpec.ofChange fnWedgesSpec)

/-- ITS FALSE NEIGHBOUR: 'it returns false'. Refute it at one input. -/
def fnWedgesWrong : ChangeSpec := { name := "fnWedges", fn := fun _ => fun
  | [d] => { results := [.lit (.bool false)], args := [d] }
  | _ => none }
def FnWedgesWrongFalsely : Prop := fnWedgesRow.holds Try.pinned (OpenSpec.ofChange fnWedgesWrong)

/- THE SECOND FORM. 'bulk': how many values and letters a reading holds, each counted each time it is reached (what is shared counts as often as it is met; a slice's spare places count too). A statement '..UptoSaid' is the law's where the arguments, and the package variables that the reading takes, are together of bulk at most 1048576: NARROWER than '..Said'. Prove '..Said' where nothing that the law and all that it calls make is longer than what came in: it says more and counts as full. Else prove '..UptoSaid'. A law counts once. -/
mutual
def uptoBulk {H : Type} : DataW H → Nat
  | .lit (.string bytes) => bytes.length + 1
  | .lit _ => 1
  | .nil => 1
  | .ptr d => uptoBulk d + 1
  | .slice elems spare => uptoBulkAll elems + uptoBulkAll spare + 1
  | .agg parts => uptoBulkAll parts + 1
  | .iface _ d => uptoBulk d + 1
  | .map entries => uptoBulkEntries entries + 1
  | .held _ => 1
def uptoBulkAll {H : Type} : List (DataW H) → Nat
  | [] => 0
  | d :: r => uptoBulk d + uptoBulkAll r
def uptoBulkEntries {H : Type} : List (Lit × DataW H) → Nat
  | [] => 0
  | x :: r => uptoBulkEntry x + uptoBulkEntries r
def uptoBulkEntry {H : Type} : Lit × DataW H → Nat
  | (.string bytes, d) => bytes.length + uptoBulk d + 1
  | (_, d) => uptoBulk d + 1
 end
def uptoSmall : (H : Type) → List (DataW H) → Bool := fun _ ds => decide (uptoBulkAll ds ≤ 1048576)
def OpenSpec.upto (s : _root_.Go.ChangeSpec) : _root_.Go.OpenSpec := { _root_.Go.OpenSpec.ofChange s with cond := some uptoSmall }

/-- 'laws.FnVectorSquares', WHERE WHAT IT READS IS OF BULK AT MOST 1048576: true; the input reads as it did. -/
def fnVectorSquaresUptoRow : OpenClaim := { program := "ytbgnfjckbjmgbaa", sum := "a3684f8c00d51b7e5cc26415185d4c1af0d277462590118a89a842101e080cf5", func := "loop.example/g01124/laws.FnVectorSquares", spec := "fnVectorSquares", unfollowed := true, recurses := true, apart := false, narrowed := true }
def FnVectorSquaresUptoSaid : Prop := fnVectorSquaresUptoRow.holds Try.pinned (OpenSpec.upto fnVectorSquaresSpec)

/-- 'laws.FnGeometricProducts', WHERE WHAT IT READS IS OF BULK AT MOST 1048576: true; the input reads as it did. -/
def fnGeometricProductsUptoRow : OpenClaim := { program := "ytbgnfjckbjmgbaa", sum := "a3684f8c00d51b7e5cc26415185d4c1af0d277462590118a89a842101e080cf5", func := "loop.example/g01124/laws.FnGeometricProducts", spec := "fnGeometricProducts", unfollowed := true, recurses := true, apart := false, narrowed := true }
def FnGeometricProductsUptoSaid : Prop := fnGeometricProductsUptoRow.holds Try.pinned (OpenSpec.upto fnGeometricProductsSpec)

/-- 'laws.FnContractions', WHERE WHAT IT READS IS OF BULK AT MOST 1048576: true; the input reads as it did. -/
def fnContractionsUptoRow : OpenClaim := { program := "ytbgnfjckbjmgbaa", sum := "a3684f8c00d51b7e5cc26415185d4c1af0d277462590118a89a842101e080cf5", func := "loop.example/g01124/laws.FnContractions", spec := "fnContractions", unfollowed := true, recurses := true, apart := false, narrowed := true }
def FnContractionsUptoSaid : Prop := fnContractionsUptoRow.holds Try.pinned (OpenSpec.upto fnContractionsSpec)

/-- 'laws.FnMultivectorInverses', WHERE WHAT IT READS IS OF BULK AT MOST 1048576: true; the input reads as it did. -/
def fnMultivectorInversesUptoRow : OpenClaim := { program := "ytbgnfjckbjmgbaa", sum := "a3684f8c00d51b7e5cc26415185d4c1af0d277462590118a89a842101e080cf5", func := "loop.example/g01124/laws.FnMultivectorInverses", spec := "fnMultivectorInverses", unfollowed := true, recurses := true, apart := false, narrowed := true }
def FnMultivectorInversesUptoSaid : Prop := fnMultivectorInversesUptoRow.holds Try.pinned (OpenSpec.upto fnMultivectorInversesSpec)

/-- 'laws.FnDuals', WHERE WHAT IT READS IS OF BULK AT MOST 1048576: true; the input reads as it did. -/
def fnDualsUptoRow : OpenClaim := { program := "ytbgnfjckbjmgbaa", sum := "a3684f8c00d51b7e5cc26415185d4c1af0d277462590118a89a842101e080cf5", func := "loop.example/g01124/laws.FnDuals", spec := "fnDuals", unfollowed := true, recurses := true, apart := false, narrowed := true }
def FnDualsUptoSaid : Prop := fnDualsUptoRow.holds Try.pinned (OpenSpec.upto fnDualsSpec)

/-- 'laws.FnMultiplications', WHERE WHAT IT READS IS OF BULK AT MOST 1048576: true; the input reads as it did. -/
def fnMultiplicationsUptoRow : OpenClaim := { program := "ytbgnfjckbjmgbaa", sum := "a3684f8c00d51b7e5cc26415185d4c1af0d277462590118a89a842101e080cf5", func := "loop.example/g01124/laws.FnMultiplications", spec := "fnMultiplications", unfollowed := true, recurses := true, apart := false, narrowed := true }
def FnMultiplicationsUptoSaid : Prop := fnMultiplicationsUptoRow.holds Try.pinned (OpenSpec.upto fnMultiplicationsSpec)

/-- 'laws.FnWedges', WHERE WHAT IT READS IS OF BULK AT MOST 1048576: true; the input reads as it did. -/
def fnWedgesUptoRow : OpenClaim := { program := "ytbgnfjckbjmgbaa", sum := "a3684f8c00d51b7e5cc26415185d4c1af0d277462590118a89a842101e080cf5", func := "loop.example/g01124/laws.FnWedges", spec := "fnWedges", unfollowed := true, recurses := true, apart := false, narrowed := true }
def FnWedgesUptoSaid : Prop := fnWedgesUptoRow.holds Try.pinned (OpenSpec.upto fnWedgesSpec)

end Rows
end Go.Proofs.Ytbgnfjckbjmgbaa
