/-
  DERIVED. GIVEN WITH THE SEED: THE CARDS: each row of YtpdjenblkgaffaaGreatDoorRows.lean that lists a variable, with what it lists TIED to the program's text (the seventh form; the later family's looks); each row that meets fmt, with fmt's text TOLD by the authors' own Lean function (tested against real Go, not proved from fmt's source: count such statements apart). THE CARD IS WHAT COUNTS. Prove the row's statement (the work); the ties are given (YtpdjenblkgaffaaGreatDoorTie.lean); close each card by the builder's one call (the guide's Derived/Test/ToyasCard.lean, 'card_holds'). Laid BY PROGRAM, IN A SANDBOX (cutbox-door.mjs). By AI agents, Wed Nov 11 2026. No macro, syntax, notation, axiom, sorry.
-/
import Derived.Test.YtpdjenblkgaffaaGreatDoorRows
import GoSem.ClaimSeven
namespace Go.Proofs.YtpdjenblkgaffaaGreatDoor
namespace Rows

/-- THE TIED CARD OF 'vernierlaw02.FloatsWider'. -/
def floatsWiderCard : Claim7 := { stood := { row := floatsWiderRow, standIns := [], harness := (true, "0225921a2d14ce3b524f8519682c9fd6ad28290a176766d6ad21880e89024866"), looks := false }, kinds := [], alts := [], laidByText := true, laidKinds := [.data, .data, .data, .data, .data, .pinned], laidTests := true, laidLooks := .later }
def FloatsWiderCardSaid : Prop := Claim7.holds Tryz.pinned (.plain (OpenSpec.ofChange floatsWiderSpec)) floatsWiderCard

/-- THE TIED CARD OF 'vernierlaw02.FloatsKnown'. -/
def floatsKnownCard : Claim7 := { stood := { row := floatsKnownRow, standIns := [], harness := (true, "0225921a2d14ce3b524f8519682c9fd6ad28290a176766d6ad21880e89024866"), looks := false }, kinds := [], alts := [], laidByText := true, laidKinds := [.data, .data, .data, .data, .data, .pinned], laidTests := true, laidLooks := .later }
def FloatsKnownCardSaid : Prop := Claim7.holds Tryz.pinned (.plain (OpenSpec.ofChange floatsKnownSpec)) floatsKnownCard

/-- THE SECOND FORM's CARD OF 'vernierlaw02.FloatsWider'. -/
def floatsWiderUptoCard : Claim7 := { stood := { row := floatsWiderUptoRow, standIns := [], harness := (true, "0225921a2d14ce3b524f8519682c9fd6ad28290a176766d6ad21880e89024866"), looks := false }, kinds := [], alts := [], laidByText := true, laidKinds := [.data, .data, .data, .data, .data, .pinned], laidTests := true, laidLooks := .later }
def FloatsWiderUptoCardSaid : Prop := Claim7.holds Tryz.pinned (.plain (OpenSpec.upto floatsWiderSpec)) floatsWiderUptoCard

/-- THE SECOND FORM's CARD OF 'vernierlaw02.FloatsKnown'. -/
def floatsKnownUptoCard : Claim7 := { stood := { row := floatsKnownUptoRow, standIns := [], harness := (true, "0225921a2d14ce3b524f8519682c9fd6ad28290a176766d6ad21880e89024866"), looks := false }, kinds := [], alts := [], laidByText := true, laidKinds := [.data, .data, .data, .data, .data, .pinned], laidTests := true, laidLooks := .later }
def FloatsKnownUptoCardSaid : Prop := Claim7.holds Tryz.pinned (.plain (OpenSpec.upto floatsKnownSpec)) floatsKnownUptoCard
end Rows
end Go.Proofs.YtpdjenblkgaffaaGreatDoor
