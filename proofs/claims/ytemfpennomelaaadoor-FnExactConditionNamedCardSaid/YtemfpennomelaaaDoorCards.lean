/-
  DERIVED. GIVEN WITH THE SEED: THE CARDS: each row of YtemfpennomelaaaDoorRows.lean that lists a variable, with what it lists TIED to the program's text (the seventh form; the later family's looks); each row that meets fmt, with fmt's text TOLD by the authors' own Lean function (tested against real Go, not proved from fmt's source: count such statements apart). THE CARD IS WHAT COUNTS. Prove the row's statement (the work); the ties are given (YtemfpennomelaaaDoorTie.lean); close each card by the builder's one call (the guide's Derived/Test/ToyasCard.lean, 'card_holds'). Laid BY PROGRAM, IN A SANDBOX (cutbox-door.mjs). By AI agents, Wed Nov 11 2026. No macro, syntax, notation, axiom, sorry.
-/
import Derived.Test.YtemfpennomelaaaDoorRows
import GoSem.ClaimSeven
namespace Go.Proofs.YtemfpennomelaaaDoor
namespace Rows

/-- THE TIED CARD OF 'laws.FnExactConditionNamed'. -/
def fnExactConditionNamedCard : Claim7 := { stood := { row := fnExactConditionNamedRow, standIns := [], harness := (true, "b8753759423e788516d20e5d5738ec15dc5bfd306f8f26df9eec942a7e400f94"), looks := false }, kinds := [], alts := [], laidByText := true, laidKinds := [.data, .pinned], laidTests := true, laidLooks := .later }
def FnExactConditionNamedCardSaid : Prop := Claim7.holds Tryd.pinned (.plain (OpenSpec.ofChange fnExactConditionNamedSpec)) fnExactConditionNamedCard

/-- THE TIED CARD OF 'laws.FnExactConditionText'. -/
def fnExactConditionTextCard : Claim7 := { stood := { row := fnExactConditionTextRow, standIns := [], harness := (true, "b8753759423e788516d20e5d5738ec15dc5bfd306f8f26df9eec942a7e400f94"), looks := false }, kinds := [], alts := [], laidByText := true, laidKinds := [.data, .data, .data], laidTests := true, laidLooks := .later }
def FnExactConditionTextCardSaid : Prop := Claim7.holds Tryd.pinned (.plain (OpenSpec.ofChange fnExactConditionTextSpec)) fnExactConditionTextCard

/-- THE SECOND FORM's CARD OF 'laws.FnExactConditionNamed'. -/
def fnExactConditionNamedUptoCard : Claim7 := { stood := { row := fnExactConditionNamedUptoRow, standIns := [], harness := (true, "b8753759423e788516d20e5d5738ec15dc5bfd306f8f26df9eec942a7e400f94"), looks := false }, kinds := [], alts := [], laidByText := true, laidKinds := [.data, .pinned], laidTests := true, laidLooks := .later }
def FnExactConditionNamedUptoCardSaid : Prop := Claim7.holds Tryd.pinned (.plain (OpenSpec.upto fnExactConditionNamedSpec)) fnExactConditionNamedUptoCard

/-- THE SECOND FORM's CARD OF 'laws.FnExactConditionText'. -/
def fnExactConditionTextUptoCard : Claim7 := { stood := { row := fnExactConditionTextUptoRow, standIns := [], harness := (true, "b8753759423e788516d20e5d5738ec15dc5bfd306f8f26df9eec942a7e400f94"), looks := false }, kinds := [], alts := [], laidByText := true, laidKinds := [.data, .data, .data], laidTests := true, laidLooks := .later }
def FnExactConditionTextUptoCardSaid : Prop := Claim7.holds Tryd.pinned (.plain (OpenSpec.upto fnExactConditionTextSpec)) fnExactConditionTextUptoCard
end Rows
end Go.Proofs.YtemfpennomelaaaDoor
