/-
  DERIVED. GIVEN WITH THE SEED: THE CARDS: each row of YtpjpaiaaimmngaaGreatDoorRows.lean that lists a variable, with what it lists TIED to the program's text (the seventh form; the later family's looks); each row that meets fmt, with fmt's text TOLD by the authors' own Lean function (tested against real Go, not proved from fmt's source: count such statements apart). THE CARD IS WHAT COUNTS. Prove the row's statement (the work); the ties are given (YtpjpaiaaimmngaaGreatDoorTie.lean); close each card by the builder's one call (the guide's Derived/Test/ToyasCard.lean, 'card_holds'). Laid BY PROGRAM, IN A SANDBOX (cutbox-door.mjs). By AI agents, Wed Nov 11 2026. No macro, syntax, notation, axiom, sorry.
-/
import Derived.Test.YtpjpaiaaimmngaaGreatDoorRows
import GoSem.ClaimSeven
namespace Go.Proofs.YtpjpaiaaimmngaaGreatDoor
namespace Rows

/-- THE TIED CARD OF 'vernierlaw02.FloatsDiffers'. -/
def floatsDiffersCard : Claim7 := { stood := { row := floatsDiffersRow, standIns := [], harness := (true, "70a343ae0b9f4fcb4b35048a7dd90e87fbde6ec5f6d9159bcf3f82581329d933"), looks := false }, kinds := [], alts := [], laidByText := true, laidKinds := [.data, .data, .data, .data, .data, .pinned], laidTests := true, laidLooks := .later }
def FloatsDiffersCardSaid : Prop := Claim7.holds Tryz.pinned (.plain (OpenSpec.ofChange floatsDiffersSpec)) floatsDiffersCard

/-- THE TIED CARD OF 'vernierlaw02.FloatsErrs'. -/
def floatsErrsCard : Claim7 := { stood := { row := floatsErrsRow, standIns := [], harness := (true, "70a343ae0b9f4fcb4b35048a7dd90e87fbde6ec5f6d9159bcf3f82581329d933"), looks := false }, kinds := [], alts := [], laidByText := true, laidKinds := [.data, .data, .data, .data, .data, .pinned], laidTests := true, laidLooks := .later }
def FloatsErrsCardSaid : Prop := Claim7.holds Tryz.pinned (.plain (OpenSpec.ofChange floatsErrsSpec)) floatsErrsCard

/-- THE TIED CARD OF 'vernierlaw02.FloatsRemains'. -/
def floatsRemainsCard : Claim7 := { stood := { row := floatsRemainsRow, standIns := [], harness := (true, "70a343ae0b9f4fcb4b35048a7dd90e87fbde6ec5f6d9159bcf3f82581329d933"), looks := false }, kinds := [], alts := [], laidByText := true, laidKinds := [.data, .data, .data, .data, .data, .pinned], laidTests := true, laidLooks := .later }
def FloatsRemainsCardSaid : Prop := Claim7.holds Tryz.pinned (.plain (OpenSpec.ofChange floatsRemainsSpec)) floatsRemainsCard

/-- THE SECOND FORM's CARD OF 'vernierlaw02.FloatsDiffers'. -/
def floatsDiffersUptoCard : Claim7 := { stood := { row := floatsDiffersUptoRow, standIns := [], harness := (true, "70a343ae0b9f4fcb4b35048a7dd90e87fbde6ec5f6d9159bcf3f82581329d933"), looks := false }, kinds := [], alts := [], laidByText := true, laidKinds := [.data, .data, .data, .data, .data, .pinned], laidTests := true, laidLooks := .later }
def FloatsDiffersUptoCardSaid : Prop := Claim7.holds Tryz.pinned (.plain (OpenSpec.upto floatsDiffersSpec)) floatsDiffersUptoCard

/-- THE SECOND FORM's CARD OF 'vernierlaw02.FloatsErrs'. -/
def floatsErrsUptoCard : Claim7 := { stood := { row := floatsErrsUptoRow, standIns := [], harness := (true, "70a343ae0b9f4fcb4b35048a7dd90e87fbde6ec5f6d9159bcf3f82581329d933"), looks := false }, kinds := [], alts := [], laidByText := true, laidKinds := [.data, .data, .data, .data, .data, .pinned], laidTests := true, laidLooks := .later }
def FloatsErrsUptoCardSaid : Prop := Claim7.holds Tryz.pinned (.plain (OpenSpec.upto floatsErrsSpec)) floatsErrsUptoCard

/-- THE SECOND FORM's CARD OF 'vernierlaw02.FloatsRemains'. -/
def floatsRemainsUptoCard : Claim7 := { stood := { row := floatsRemainsUptoRow, standIns := [], harness := (true, "70a343ae0b9f4fcb4b35048a7dd90e87fbde6ec5f6d9159bcf3f82581329d933"), looks := false }, kinds := [], alts := [], laidByText := true, laidKinds := [.data, .data, .data, .data, .data, .pinned], laidTests := true, laidLooks := .later }
def FloatsRemainsUptoCardSaid : Prop := Claim7.holds Tryz.pinned (.plain (OpenSpec.upto floatsRemainsSpec)) floatsRemainsUptoCard
end Rows
end Go.Proofs.YtpjpaiaaimmngaaGreatDoor
