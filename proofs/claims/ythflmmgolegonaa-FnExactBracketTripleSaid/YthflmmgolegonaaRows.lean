/-
  No cell of these rows narrows 'for every input' (looked for: loops, veiled, ifaces, maps, wideKeys, modest, calm, conditions, laid).
  DERIVED. THE GIVEN ROWS OF THIS SEAT. 3 by the template 'for every input the law returns true; each argument reads behind the call as it read before'; 0 by the template 'total and deterministic' (their statements: YthflmmgolegonaaTotals.lean).
  GIVEN WITH THE SEED: the statements are not yours to turn. If you find one false, say at which input.
  Laid BY PROGRAM, IN A SANDBOX (cutbox-rows.mjs): the forced cells as the released guide's own fill.sh prints them over the translation 1b7f5c711c7e4214… (all of the seat's roots in one cut). By AI agents, Wed Nov 11 2026. No macro, syntax, notation, axiom, sorry.
-/
import Derived.Test.YthflmmgolegonaaChecked
import GoSem.Claim
import GoSem.ClaimJoined
import GoSem.ClaimMapViews
import Derived.JoinedTies
import Derived.KernelRfl
namespace Go.Proofs.Ythflmmgolegonaa
/- THE CELL 'sum', in the pinned program and in every row, IS THE sha256 OF THE DUMP (.gsa) THAT YthflmmgolegonaaProg.lean LOADS. Nothing in Lean hashes anything: it is a label: what it is worth is what the hold of that sum in a sandbox is worth. -/
noncomputable def Try.pinned : Pinned := { name := "ythflmmgolegonaa", sum := "1b7f5c711c7e4214b84b9554a66cbe221783046c83825e09aa82627d4d9385bd", checked := Try.checked }
namespace Rows
def none {H : Type} : Left H := { results := [], args := [] }

/-- 'laws.FnExactMatrixBracket': WHATEVER THE INPUT: true; the input reads as it did. -/
def fnExactMatrixBracketSpec : ChangeSpec := { name := "fnExactMatrixBracket", fn := fun _ => fun
  | [d1, d2, d3] => { results := [.lit (.bool true)], args := [d1, d2, d3] }
  | _ => none }
def fnExactMatrixBracketRow : OpenClaim := { program := "ythflmmgolegonaa", sum := "1b7f5c711c7e4214b84b9554a66cbe221783046c83825e09aa82627d4d9385bd", func := "loop.example/g01124/laws.FnExactMatrixBracket", spec := "fnExactMatrixBracket", unfollowed := true, recurses := true, apart := false }
def FnExactMatrixBracketSaid : Prop := fnExactMatrixBracketRow.holds Try.pinned (OpenSpec.ofChange fnExactMatrixBracketSpec)

/-- ITS FALSE NEIGHBOUR: 'it returns false'. Refute it at one input. -/
def fnExactMatrixBracketWrong : ChangeSpec := { name := "fnExactMatrixBracket", fn := fun _ => fun
  | [d1, d2, d3] => { results := [.lit (.bool false)], args := [d1, d2, d3] }
  | _ => none }
def FnExactMatrixBracketWrongFalsely : Prop := fnExactMatrixBracketRow.holds Try.pinned (OpenSpec.ofChange fnExactMatrixBracketWrong)

/-- 'laws.FnExactPureTriple': WHATEVER THE INPUT: true; the input reads as it did. -/
def fnExactPureTripleSpec : ChangeSpec := { name := "fnExactPureTriple", fn := fun _ => fun
  | [d1, d2] => { results := [.lit (.bool true)], args := [d1, d2] }
  | _ => none }
def fnExactPureTripleRow : OpenClaim := { program := "ythflmmgolegonaa", sum := "1b7f5c711c7e4214b84b9554a66cbe221783046c83825e09aa82627d4d9385bd", func := "loop.example/g01124/laws.FnExactPureTriple", spec := "fnExactPureTriple", unfollowed := true, recurses := true, apart := false }
def FnExactPureTripleSaid : Prop := fnExactPureTripleRow.holds Try.pinned (OpenSpec.ofChange fnExactPureTripleSpec)

/-- ITS FALSE NEIGHBOUR: 'it returns false'. Refute it at one input. -/
def fnExactPureTripleWrong : ChangeSpec := { name := "fnExactPureTriple", fn := fun _ => fun
  | [d1, d2] => { results := [.lit (.bool false)], args := [d1, d2] }
  | _ => none }
def FnExactPureTripleWrongFalsely : Prop := fnExactPureTripleRow.holds Try.pinned (OpenSpec.ofChange fnExactPureTripleWrong)

/-- 'laws.FnExactBracketTriple': WHATEVER THE INPUT: true; the input reads as it did. -/
def fnExactBracketTripleSpec : ChangeSpec := { name := "fnExactBracketTriple", fn := fun _ => fun
  | [d1, d2, d3] => { results := [.lit (.bool true)], args := [d1, d2, d3] }
  | _ => none }
def fnExactBracketTripleRow : OpenClaim := { program := "ythflmmgolegonaa", sum := "1b7f5c711c7e4214b84b9554a66cbe221783046c83825e09aa82627d4d9385bd", func := "loop.example/g01124/laws.FnExactBracketTriple", spec := "fnExactBracketTriple", unfollowed := true, recurses := true, apart := false }
def FnExactBracketTripleSaid : Prop := fnExactBracketTripleRow.holds Try.pinned (OpenSpec.ofChange fnExactBracketTripleSpec)

/-- ITS FALSE NEIGHBOUR: 'it returns false'. Refute it at one input. -/
def fnExactBracketTripleWrong : ChangeSpec := { name := "fnExactBracketTriple", fn := fun _ => fun
  | [d1, d2, d3] => { results := [.lit (.bool false)], args := [d1, d2, d3] }
  | _ => none }
def FnExactBracketTripleWrongFalsely : Prop := fnExactBracketTripleRow.holds Try.pinned (OpenSpec.ofChange fnExactBracketTripleWrong)

/- THE SECOND FORM. 'bulk': how many values and letters a reading holds, each counted each time it is reached (what is shared counts as often as it is met; a slice's spare places count too). A statement '..UptoSaid' is the law's where the arguments, and the package variables that the reading takes, are together of bulk at most 1048576: NARROWER than '..Said'. Prove '..Said' where nothing that the law and all that it calls make is longer than what came in: it says more and counts as full. Else prove '..UptoSaid'. A law counts once. -/
mutual
def uptoBulk {H : Type} : DataW H → Nat
  | .lit (.string bytes) => bytes.length + 1
  | .lit _ => 1
  | .nil => 1
  | .ptr d => uptoBulk d + 1
  | .slice elems spare => uptoBulkAll elems + uptoBulkAll spare + 1
  | .agg parts => uptoBulkAll parts + 1
  | .iface _ d => uptoBulk d + 1
  | .map entries => uptoBulkEntries entries + 1
  | .held _ => 1
def uptoBulkAll {H : Type} : List (DataW H) → Nat
  | [] => 0
  | d :: r => uptoBulk d + uptoBulkAll r
def uptoBulkEntries {H : Type} : List (Lit × DataW H) → Nat
  | [] => 0
  | x :: r => uptoBulkEntry x + uptoBulkEntries r
def uptoBulkEntry {H : Type} : Lit × DataW H → Nat
  | (.string bytes, d) => bytes.length + uptoBulk d + 1
  | (_, d) => uptoBulk d + 1
 end
def uptoSmall : (H : Type) → List (DataW H) → Bool := fun _ ds => decide (uptoBulkAll ds ≤ 1048576)
def OpenSpec.upto (s : _root_.Go.ChangeSpec) : _root_.Go.OpenSpec := { _root_.Go.OpenSpec.ofChange s with cond := some uptoSmall }

/-- 'laws.FnExactMatrixBracket', WHERE WHAT IT READS IS OF BULK AT MOST 1048576: true; the input reads as it did. -/
def fnExactMatrixBracketUptoRow : OpenClaim := { program := "ythflmmgolegonaa", sum := "1b7f5c711c7e4214b84b9554a66cbe221783046c83825e09aa82627d4d9385bd", func := "loop.example/g01124/laws.FnExactMatrixBracket", spec := "fnExactMatrixBracket", unfollowed := true, recurses := true, apart := false, narrowed := true }
def FnExactMatrixBracketUptoSaid : Prop := fnExactMatrixBracketUptoRow.holds Try.pinned (OpenSpec.upto fnExactMatrixBracketSpec)

/-- 'laws.FnExactPureTriple', WHERE WHAT IT READS IS OF BULK AT MOST 1048576: true; the input reads as it did. -/
def fnExactPureTripleUptoRow : OpenClaim := { program := "ythflmmgolegonaa", sum := "1b7f5c711c7e4214b84b9554a66cbe221783046c83825e09aa82627d4d9385bd", func := "loop.example/g01124/laws.FnExactPureTriple", spec := "fnExactPureTriple", unfollowed := true, recurses := true, apart := false, narrowed := true }
def FnExactPureTripleUptoSaid : Prop := fnExactPureTripleUptoRow.holds Try.pinned (OpenSpec.upto fnExactPureTripleSpec)

/-- 'laws.FnExactBracketTriple', WHERE WHAT IT READS IS OF BULK AT MOST 1048576: true; the input reads as it did. -/
def fnExactBracketTripleUptoRow : OpenClaim := { program := "ythflmmgolegonaa", sum := "1b7f5c711c7e4214b84b9554a66cbe221783046c83825e09aa82627d4d9385bd", func := "loop.example/g01124/laws.FnExactBracketTriple", spec := "fnExactBracketTriple", unfollowed := true, recurses := true, apart := false, narrowed := true }
def FnExactBracketTripleUptoSaid : Prop := fnExactBracketTripleUptoRow.holds Try.pinned (OpenSpec.upto fnExactBracketTripleSpec)

end Rows
end Go.Proofs.Ythflmmgolegonaa
