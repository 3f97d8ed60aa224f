/-
  DERIVED. GIVEN WITH THE SEED: THE CARDS: each row of YtlnmiafahjddhadDoorRows.lean that lists a variable, with what it lists TIED to the program's text (the seventh form; the later family's looks); each row that meets fmt, with fmt's text TOLD by the authors' own Lean function (tested against real Go, not proved from fmt's source: count such statements apart). THE CARD IS WHAT COUNTS. Prove the row's statement (the work); the ties are given (YtlnmiafahjddhadDoorTie.lean); close each card by the builder's one call (the guide's Derived/Test/ToyasCard.lean, 'card_holds'). Laid BY PROGRAM, IN A SANDBOX (cutbox-door.mjs). By AI agents, Wed Nov 11 2026. No macro, syntax, notation, axiom, sorry.
-/
import Derived.Test.YtlnmiafahjddhadDoorRows
import GoSem.ClaimSeven
namespace Go.Proofs.YtlnmiafahjddhadDoor
namespace Rows

/-- THE TIED CARD OF 'laws.FnNumbers'. -/
def fnNumbersCard : Claim7 := { stood := { row := fnNumbersRow, standIns := [], harness := (true, "d4ab7ea89603df5261d57a5b8bca634d1cd7199674af37ca3cab9f3436db115a"), looks := false }, kinds := [], alts := [], laidByText := true, laidKinds := [.data, .data, .data], laidTests := true, laidLooks := .later }
def FnNumbersCardSaid : Prop := Claim7.holds Tryd.pinned (.plain (OpenSpec.ofChange fnNumbersSpec)) fnNumbersCard

/-- THE TIED CARD OF 'laws.FnExactSplitPrivate'. -/
def fnExactSplitPrivateCard : Claim7 := { stood := { row := fnExactSplitPrivateRow, standIns := [], harness := (true, "d4ab7ea89603df5261d57a5b8bca634d1cd7199674af37ca3cab9f3436db115a"), looks := false }, kinds := [], alts := [], laidByText := true, laidKinds := [.data, .data, .data, .data, .pinned], laidTests := true, laidLooks := .later }
def FnExactSplitPrivateCardSaid : Prop := Claim7.holds Tryd.pinned (.plain (OpenSpec.ofChange fnExactSplitPrivateSpec)) fnExactSplitPrivateCard

/-- THE TIED CARD OF 'laws.FnPrivates'. -/
def fnPrivatesCard : Claim7 := { stood := { row := fnPrivatesRow, standIns := [], harness := (true, "d4ab7ea89603df5261d57a5b8bca634d1cd7199674af37ca3cab9f3436db115a"), looks := false }, kinds := [], alts := [], laidByText := true, laidKinds := [.data, .data, .data, .data, .pinned], laidTests := true, laidLooks := .later }
def FnPrivatesCardSaid : Prop := Claim7.holds Tryd.pinned (.plain (OpenSpec.ofChange fnPrivatesSpec)) fnPrivatesCard

/-- THE SECOND FORM's CARD OF 'laws.FnNumbers'. -/
def fnNumbersUptoCard : Claim7 := { stood := { row := fnNumbersUptoRow, standIns := [], harness := (true, "d4ab7ea89603df5261d57a5b8bca634d1cd7199674af37ca3cab9f3436db115a"), looks := false }, kinds := [], alts := [], laidByText := true, laidKinds := [.data, .data, .data], laidTests := true, laidLooks := .later }
def FnNumbersUptoCardSaid : Prop := Claim7.holds Tryd.pinned (.plain (OpenSpec.upto fnNumbersSpec)) fnNumbersUptoCard

/-- THE SECOND FORM's CARD OF 'laws.FnExactSplitPrivate'. -/
def fnExactSplitPrivateUptoCard : Claim7 := { stood := { row := fnExactSplitPrivateUptoRow, standIns := [], harness := (true, "d4ab7ea89603df5261d57a5b8bca634d1cd7199674af37ca3cab9f3436db115a"), looks := false }, kinds := [], alts := [], laidByText := true, laidKinds := [.data, .data, .data, .data, .pinned], laidTests := true, laidLooks := .later }
def FnExactSplitPrivateUptoCardSaid : Prop := Claim7.holds Tryd.pinned (.plain (OpenSpec.upto fnExactSplitPrivateSpec)) fnExactSplitPrivateUptoCard

/-- THE SECOND FORM's CARD OF 'laws.FnPrivates'. -/
def fnPrivatesUptoCard : Claim7 := { stood := { row := fnPrivatesUptoRow, standIns := [], harness := (true, "d4ab7ea89603df5261d57a5b8bca634d1cd7199674af37ca3cab9f3436db115a"), looks := false }, kinds := [], alts := [], laidByText := true, laidKinds := [.data, .data, .data, .data, .pinned], laidTests := true, laidLooks := .later }
def FnPrivatesUptoCardSaid : Prop := Claim7.holds Tryd.pinned (.plain (OpenSpec.upto fnPrivatesSpec)) fnPrivatesUptoCard
end Rows
end Go.Proofs.YtlnmiafahjddhadDoor
