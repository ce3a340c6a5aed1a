/-
  DERIVED. GIVEN WITH THE SEED: THE CARDS: each row of YtdccileoiiafmaaDoorRows.lean that lists a variable, with what it lists TIED to the program's text (the seventh form; the later family's looks); each row that meets fmt, with fmt's text TOLD by the authors' own Lean function (tested against real Go, not proved from fmt's source: count such statements apart). THE CARD IS WHAT COUNTS. Prove the row's statement (the work); the ties are given (YtdccileoiiafmaaDoorTie.lean); close each card by the builder's one call (the guide's Derived/Test/ToyasCard.lean, 'card_holds'). Laid BY PROGRAM, IN A SANDBOX (cutbox-door.mjs). By AI agents, Wed Nov 11 2026. No macro, syntax, notation, axiom, sorry.
-/
import Derived.Test.YtdccileoiiafmaaDoorRows
import GoSem.ClaimSeven
namespace Go.Proofs.YtdccileoiiafmaaDoor
namespace Rows

/-- THE TIED CARD OF 'laws.FnExactBladeName'. -/
def fnExactBladeNameCard : Claim7 := { stood := { row := fnExactBladeNameRow, standIns := [], harness := (true, "90b721f0a0eca8601e186574e0491340c35b6e11c3318100797a82c9f6b70da3"), looks := false }, kinds := [], alts := [], laidByText := true, laidKinds := [.data, .data, .data], laidTests := true, laidLooks := .later }
def FnExactBladeNameCardSaid : Prop := Claim7.holds Tryd.pinned (.plain (OpenSpec.ofChange fnExactBladeNameSpec)) fnExactBladeNameCard

/-- THE TIED CARD OF 'laws.FnExactMaskOfName'. -/
def fnExactMaskOfNameCard : Claim7 := { stood := { row := fnExactMaskOfNameRow, standIns := [], harness := (true, "90b721f0a0eca8601e186574e0491340c35b6e11c3318100797a82c9f6b70da3"), looks := false }, kinds := [], alts := [], laidByText := true, laidKinds := [.data, .data, .data], laidTests := true, laidLooks := .later }
def FnExactMaskOfNameCardSaid : Prop := Claim7.holds Tryd.pinned (.plain (OpenSpec.ofChange fnExactMaskOfNameSpec)) fnExactMaskOfNameCard

/-- THE TIED CARD OF 'laws.FnExactMultivectorText'. -/
def fnExactMultivectorTextCard : Claim7 := { stood := { row := fnExactMultivectorTextRow, standIns := [], harness := (true, "90b721f0a0eca8601e186574e0491340c35b6e11c3318100797a82c9f6b70da3"), looks := false }, kinds := [], alts := [], laidByText := true, laidKinds := [.data, .data, .data], laidTests := true, laidLooks := .later }
def FnExactMultivectorTextCardSaid : Prop := Claim7.holds Tryd.pinned (.plain (OpenSpec.ofChange fnExactMultivectorTextSpec)) fnExactMultivectorTextCard

/-- THE SECOND FORM's CARD OF 'laws.FnExactBladeName'. -/
def fnExactBladeNameUptoCard : Claim7 := { stood := { row := fnExactBladeNameUptoRow, standIns := [], harness := (true, "90b721f0a0eca8601e186574e0491340c35b6e11c3318100797a82c9f6b70da3"), looks := false }, kinds := [], alts := [], laidByText := true, laidKinds := [.data, .data, .data], laidTests := true, laidLooks := .later }
def FnExactBladeNameUptoCardSaid : Prop := Claim7.holds Tryd.pinned (.plain (OpenSpec.upto fnExactBladeNameSpec)) fnExactBladeNameUptoCard

/-- THE SECOND FORM's CARD OF 'laws.FnExactMaskOfName'. -/
def fnExactMaskOfNameUptoCard : Claim7 := { stood := { row := fnExactMaskOfNameUptoRow, standIns := [], harness := (true, "90b721f0a0eca8601e186574e0491340c35b6e11c3318100797a82c9f6b70da3"), looks := false }, kinds := [], alts := [], laidByText := true, laidKinds := [.data, .data, .data], laidTests := true, laidLooks := .later }
def FnExactMaskOfNameUptoCardSaid : Prop := Claim7.holds Tryd.pinned (.plain (OpenSpec.upto fnExactMaskOfNameSpec)) fnExactMaskOfNameUptoCard

/-- THE SECOND FORM's CARD OF 'laws.FnExactMultivectorText'. -/
def fnExactMultivectorTextUptoCard : Claim7 := { stood := { row := fnExactMultivectorTextUptoRow, standIns := [], harness := (true, "90b721f0a0eca8601e186574e0491340c35b6e11c3318100797a82c9f6b70da3"), looks := false }, kinds := [], alts := [], laidByText := true, laidKinds := [.data, .data, .data], laidTests := true, laidLooks := .later }
def FnExactMultivectorTextUptoCardSaid : Prop := Claim7.holds Tryd.pinned (.plain (OpenSpec.upto fnExactMultivectorTextSpec)) fnExactMultivectorTextUptoCard
end Rows
end Go.Proofs.YtdccileoiiafmaaDoor
