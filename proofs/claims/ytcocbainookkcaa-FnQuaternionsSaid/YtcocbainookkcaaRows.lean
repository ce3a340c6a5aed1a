/-
  No cell of these rows narrows 'for every input' (looked for: loops, veiled, ifaces, maps, wideKeys, modest, calm, conditions, laid).
  DERIVED. THE GIVEN ROWS OF THIS SEAT. 4 by the template 'for every input the law returns true; each argument reads behind the call as it read before'; 0 by the template 'total and deterministic' (their statements: YtcocbainookkcaaTotals.lean).
  GIVEN WITH THE SEED: the statements are not yours to turn. If you find one false, say at which input.
  Laid BY PROGRAM, IN A SANDBOX (cutbox-rows.mjs): the forced cells as the released guide's own fill.sh prints them over the translation 04ccb1958d009a49… (all of the seat's roots in one cut). By AI agents, Wed Nov 11 2026. No macro, syntax, notation, axiom, sorry.
-/
import Derived.Test.YtcocbainookkcaaChecked
import GoSem.Claim
import GoSem.ClaimJoined
import GoSem.ClaimMapViews
import Derived.JoinedTies
import Derived.KernelRfl
namespace Go.Proofs.Ytcocbainookkcaa
/- THE CELL 'sum', in the pinned program and in every row, IS THE sha256 OF THE DUMP (.gsa) THAT YtcocbainookkcaaProg.lean LOADS. Nothing in Lean hashes anything: it is a label: what it is worth is what the hold of that sum in a sandbox is worth. -/
noncomputable def Try.pinned : Pinned := { name := "ytcocbainookkcaa", sum := "04ccb1958d009a491dc704d5fab023537610797133ddfd5f6d67a7469407755b", checked := Try.checked }
namespace Rows
def none {H : Type} : Left H := { results := [], args := [] }

/-- 'laws.FnInversions': WHATEVER THE INPUT: true; the input reads as it did. -/
def fnInversionsSpec : ChangeSpec := { name := "fnInversions", fn := fun _ => fun
  | [d] => { results := [.lit (.bool true)], args := [d] }
  | _ => none }
def fnInversionsRow : OpenClaim := { program := "ytcocbainookkcaa", sum := "04ccb1958d009a491dc704d5fab023537610797133ddfd5f6d67a7469407755b", func := "loop.example/g01124/laws.FnInversions", spec := "fnInversions", unfollowed := true, recurses := true, apart := false }
def FnInversionsSaid : Prop := fnInversionsRow.holds Try.pinned (OpenSpec.ofChange fnInversionsSpec)

/-- ITS FALSE NEIGHBOUR: 'it returns false'. Refute it at one input. -/
def fnInversionsWrong : ChangeSpec := { name := "fnInversions", fn := fun _ => fun
  | [d] => { results := [.lit (.bool false)], args := [d] }
  | _ => none }
def FnInversionsWrongFalsely : Prop := fnInversionsRow.holds Try.pinned (OpenSpec.ofChange fnInversionsWrong)

/-- 'laws.FnSpheres': WHATEVER THE INPUT: true; the input reads as it did. -/
def fnSpheresSpec : ChangeSpec := { name := "fnSpheres", fn := fun _ => fun
  | [d] => { results := [.lit (.bool true)], args := [d] }
  | _ => none }
def fnSpheresRow : OpenClaim := { program := "ytcocbainookkcaa", sum := "04ccb1958d009a491dc704d5fab023537610797133ddfd5f6d67a7469407755b", func := "loop.example/g01124/laws.FnSpheres", spec := "fnSpheres", unfollowed := true, recurses := true, apart := false }
def FnSpheresSaid : Prop := fnSpheresRow.holds Try.pinned (OpenSpec.ofChange fnSpheresSpec)

/-- ITS FALSE NEIGHBOUR: 'it returns false'. Refute it at one input. -/
def fnSpheresWrong : ChangeSpec := { name := "fnSpheres", fn := fun _ => fun
  | [d] => { results := [.lit (.bool false)], args := [d] }
  | _ => none }
def FnSpheresWrongFalsely : Prop := fnSpheresRow.holds Try.pinned (OpenSpec.ofChange fnSpheresWrong)

/-- 'laws.FnQuaternions': WHATEVER THE INPUT: true; the input reads as it did. -/
def fnQuaternionsSpec : ChangeSpec := { name := "fnQuaternions", fn := fun _ => fun
  | [d] => { results := [.lit (.bool true)], args := [d] }
  | _ => none }
def fnQuaternionsRow : OpenClaim := { program := "ytcocbainookkcaa", sum := "04ccb1958d009a491dc704d5fab023537610797133ddfd5f6d67a7469407755b", func := "loop.example/g01124/laws.FnQuaternions", spec := "fnQuaternions", unfollowed := true, recurses := true, apart := false }
def FnQuaternionsSaid : Prop := fnQuaternionsRow.holds Try.pinned (OpenSpec.ofChange fnQuaternionsSpec)

/-- ITS FALSE NEIGHBOUR: 'it returns false'. Refute it at one input. -/
def fnQuaternionsWrong : ChangeSpec := { name := "fnQuaternions", fn := fun _ => fun
  | [d] => { results := [.lit (.bool false)], args := [d] }
  | _ => none }
def FnQuaternionsWrongFalsely : Prop := fnQuaternionsRow.holds Try.pinned (OpenSpec.ofChange fnQuaternionsWrong)

/-- 'laws.FnShifts': WHATEVER THE INPUT: true; the input reads as it did. -/
def fnShiftsSpec : ChangeSpec := { name := "fnShifts", fn := fun _ => fun
  | [d] => { results := [.lit (.bool true)], args := [d] }
  | _ => none }
def fnShiftsRow : OpenClaim := { program := "ytcocbainookkcaa", sum := "04ccb1958d009a491dc704d5fab023537610797133ddfd5f6d67a7469407755b", func := "loop.example/g01124/laws.FnShifts", spec := "fnShifts", unfollowed := true, recurses := true, apart := false }
def FnShiftsSaid : Prop := fnShiftsRow.holds Try.pinned (OpenSpec.ofChange fnShiftsSpec)

/-- ITS FALSE NEIGHBOUR: 'it returns false'. Refute it at one input. -/
def fnShiftsWrong : ChangeSpec := { name := "fnShifts", fn := fun _ => fun
  | [d] => { results := [.lit (.bool false)], args := [d] }
  | _ => none }
def FnShiftsWrongFalsely : Prop := fnShiftsRow.holds Try.pinned (OpenSpec.ofChange fnShiftsWrong)

/- THE SECOND FORM. 'bulk': how many values and letters a reading holds, each counted each time it is reached (what is shared counts as often as it is met; a slice's spare places count too). A statement '..UptoSaid' is the law's where the arguments, and the package variables that the reading takes, are together of bulk at most 1048576: NARROWER than '..Said'. Prove '..Said' where nothing that the law and all that it calls make is longer than what came in: it says more and counts as full. Else prove '..UptoSaid'. A law counts once. -/
mutual
def uptoBulk {H : Type} : DataW H → Nat
  | .lit (.string bytes) => bytes.length + 1
  | .lit _ => 1
  | .nil => 1
  | .ptr d => uptoBulk d + 1
  | .slice elems spare => uptoBulkAll elems + uptoBulkAll spare + 1
  | .agg parts => uptoBulkAll parts + 1
  | .iface _ d => uptoBulk d + 1
  | .map entries => uptoBulkEntries entries + 1
  | .held _ => 1
def uptoBulkAll {H : Type} : List (DataW H) → Nat
  | [] => 0
  | d :: r => uptoBulk d + uptoBulkAll r
def uptoBulkEntries {H : Type} : List (Lit × DataW H) → Nat
  | [] => 0
  | x :: r => uptoBulkEntry x + uptoBulkEntries r
def uptoBulkEntry {H : Type} : Lit × DataW H → Nat
  | (.string bytes, d) => bytes.length + uptoBulk d + 1
  | (_, d) => uptoBulk d + 1
 end
def uptoSmall : (H : Type) → List (DataW H) → Bool := fun _ ds => decide (uptoBulkAll ds ≤ 1048576)
def OpenSpec.upto (s : _root_.Go.ChangeSpec) : _root_.Go.OpenSpec := { _root_.Go.OpenSpec.ofChange s with cond := some uptoSmall }

/-- 'laws.FnInversions', WHERE WHAT IT READS IS OF BULK AT MOST 1048576: true; the input reads as it did. -/
def fnInversionsUptoRow : OpenClaim := { program := "ytcocbainookkcaa", sum := "04ccb1958d009a491dc704d5fab023537610797133ddfd5f6d67a7469407755b", func := "loop.example/g01124/laws.FnInversions", spec := "fnInversions", unfollowed := true, recurses := true, apart := false, narrowed := true }
def FnInversionsUptoSaid : Prop := fnInversionsUptoRow.holds Try.pinned (OpenSpec.upto fnInversionsSpec)

/-- 'laws.FnSpheres', WHERE WHAT IT READS IS OF BULK AT MOST 1048576: true; the input reads as it did. -/
def fnSpheresUptoRow : OpenClaim := { program := "ytcocbainookkcaa", sum := "04ccb1958d009a491dc704d5fab023537610797133ddfd5f6d67a7469407755b", func := "loop.example/g01124/laws.FnSpheres", spec := "fnSpheres", unfollowed := true, recurses := true, apart := false, narrowed := true }
def FnSpheresUptoSaid : Prop := fnSpheresUptoRow.holds Try.pinned (OpenSpec.upto fnSpheresSpec)

/-- 'laws.FnQuaternions', WHERE WHAT IT READS IS OF BULK AT MOST 1048576: true; the input reads as it did. -/
def fnQuaternionsUptoRow : OpenClaim := { program := "ytcocbainookkcaa", sum := "04ccb1958d009a491dc704d5fab023537610797133ddfd5f6d67a7469407755b", func := "loop.example/g01124/laws.FnQuaternions", spec := "fnQuaternions", unfollowed := true, recurses := true, apart := false, narrowed := true }
def FnQuaternionsUptoSaid : Prop := fnQuaternionsUptoRow.holds Try.pinned (OpenSpec.upto fnQuaternionsSpec)

/-- 'laws.FnShifts', WHERE WHAT IT READS IS OF BULK AT MOST 1048576: true; the input reads as it did. -/
def fnShiftsUptoRow : OpenClaim := { program := "ytcocbainookkcaa", sum := "04ccb1958d009a491dc704d5fab023537610797133ddfd5f6d67a7469407755b", func := "loop.example/g01124/laws.FnShifts", spec := "fnShifts", unfollowed := true, recurses := true, apart := false, narrowed := true }
def FnShiftsUptoSaid : Prop := fnShiftsUptoRow.holds Try.pinned (OpenSpec.upto fnShiftsSpec)

end Rows
end Go.Proofs.Ytcocbainookkcaa
