/-
  DERIVED. GIVEN WITH THE SEED: THE CARDS: each row of YtmdjhmggogfbdaaGreatDoorRows.lean that lists a variable, with what it lists TIED to the program's text (the seventh form; the later family's looks); each row that meets fmt, with fmt's text TOLD by the authors' own Lean function (tested against real Go, not proved from fmt's source: count such statements apart). THE CARD IS WHAT COUNTS. Prove the row's statement (the work); the ties are given (YtmdjhmggogfbdaaGreatDoorTie.lean); close each card by the builder's one call (the guide's Derived/Test/ToyasCard.lean, 'card_holds'). Laid BY PROGRAM, IN A SANDBOX (cutbox-door.mjs). By AI agents, Wed Nov 11 2026. No macro, syntax, notation, axiom, sorry.
-/
import Derived.Test.YtmdjhmggogfbdaaGreatDoorRows
import GoSem.ClaimSeven
namespace Go.Proofs.YtmdjhmggogfbdaaGreatDoor
namespace Rows

/-- THE TIED CARD OF 'laws.FnExactParseLin'. -/
def fnExactParseLinCard : Claim7 := { stood := { row := fnExactParseLinRow, standIns := [], harness := (true, "381332f0a79a15a2194a278161340cdbb5669f1a7b9bdbd4d906de3125f66d5d"), looks := true }, kinds := [], alts := [], laidByText := true, laidKinds := [.data, .data, .data, .data, .sentinel, .sentinel, .pinned], laidTests := true, laidLooks := .later }
def FnExactParseLinCardSaid : Prop := Claim7.holds Tryz.pinned (.plain (OpenSpec.ofChange fnExactParseLinSpec)) fnExactParseLinCard

/-- THE TIED CARD OF 'laws.FnExactParseConstraint'. -/
def fnExactParseConstraintCard : Claim7 := { stood := { row := fnExactParseConstraintRow, standIns := [], harness := (true, "381332f0a79a15a2194a278161340cdbb5669f1a7b9bdbd4d906de3125f66d5d"), looks := true }, kinds := [], alts := [], laidByText := true, laidKinds := [.data, .data, .data, .data, .sentinel, .sentinel, .pinned], laidTests := true, laidLooks := .later }
def FnExactParseConstraintCardSaid : Prop := Claim7.holds Tryz.pinned (.plain (OpenSpec.ofChange fnExactParseConstraintSpec)) fnExactParseConstraintCard

/-- THE TIED CARD OF 'laws.FnLinText'. -/
def fnLinTextCard : Claim7 := { stood := { row := fnLinTextRow, standIns := [], harness := (true, "381332f0a79a15a2194a278161340cdbb5669f1a7b9bdbd4d906de3125f66d5d"), looks := true }, kinds := [], alts := [], laidByText := true, laidKinds := [.data, .data, .data, .data, .sentinel, .sentinel, .pinned], laidTests := true, laidLooks := .later }
def FnLinTextCardSaid : Prop := Claim7.holds Tryz.pinned (.plain (OpenSpec.ofChange fnLinTextSpec)) fnLinTextCard

/-- THE SECOND FORM's CARD OF 'laws.FnExactParseLin'. -/
def fnExactParseLinUptoCard : Claim7 := { stood := { row := fnExactParseLinUptoRow, standIns := [], harness := (true, "381332f0a79a15a2194a278161340cdbb5669f1a7b9bdbd4d906de3125f66d5d"), looks := true }, kinds := [], alts := [], laidByText := true, laidKinds := [.data, .data, .data, .data, .sentinel, .sentinel, .pinned], laidTests := true, laidLooks := .later }
def FnExactParseLinUptoCardSaid : Prop := Claim7.holds Tryz.pinned (.plain (OpenSpec.upto fnExactParseLinSpec)) fnExactParseLinUptoCard

/-- THE SECOND FORM's CARD OF 'laws.FnExactParseConstraint'. -/
def fnExactParseConstraintUptoCard : Claim7 := { stood := { row := fnExactParseConstraintUptoRow, standIns := [], harness := (true, "381332f0a79a15a2194a278161340cdbb5669f1a7b9bdbd4d906de3125f66d5d"), looks := true }, kinds := [], alts := [], laidByText := true, laidKinds := [.data, .data, .data, .data, .sentinel, .sentinel, .pinned], laidTests := true, laidLooks := .later }
def FnExactParseConstraintUptoCardSaid : Prop := Claim7.holds Tryz.pinned (.plain (OpenSpec.upto fnExactParseConstraintSpec)) fnExactParseConstraintUptoCard

/-- THE SECOND FORM's CARD OF 'laws.FnLinText'. -/
def fnLinTextUptoCard : Claim7 := { stood := { row := fnLinTextUptoRow, standIns := [], harness := (true, "381332f0a79a15a2194a278161340cdbb5669f1a7b9bdbd4d906de3125f66d5d"), looks := true }, kinds := [], alts := [], laidByText := true, laidKinds := [.data, .data, .data, .data, .sentinel, .sentinel, .pinned], laidTests := true, laidLooks := .later }
def FnLinTextUptoCardSaid : Prop := Claim7.holds Tryz.pinned (.plain (OpenSpec.upto fnLinTextSpec)) fnLinTextUptoCard
end Rows
end Go.Proofs.YtmdjhmggogfbdaaGreatDoor
