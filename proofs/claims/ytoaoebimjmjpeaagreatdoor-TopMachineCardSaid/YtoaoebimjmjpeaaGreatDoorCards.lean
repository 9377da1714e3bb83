/-
  DERIVED. GIVEN WITH THE SEED: THE CARDS: each row of YtoaoebimjmjpeaaGreatDoorRows.lean that lists a variable, with what it lists TIED to the program's text (the seventh form; the later family's looks); each row that meets fmt, with fmt's text TOLD by the authors' own Lean function (tested against real Go, not proved from fmt's source: count such statements apart). THE CARD IS WHAT COUNTS. Prove the row's statement (the work); the ties are given (YtoaoebimjmjpeaaGreatDoorTie.lean); close each card by the builder's one call (the guide's Derived/Test/ToyasCard.lean, 'card_holds'). Laid BY PROGRAM, IN A SANDBOX (cutbox-door.mjs). By AI agents, Wed Nov 11 2026. No macro, syntax, notation, axiom, sorry.
-/
import Derived.Test.YtoaoebimjmjpeaaGreatDoorRows
import GoSem.ClaimSeven
namespace Go.Proofs.YtoaoebimjmjpeaaGreatDoor
namespace Rows

/-- THE TIED CARD OF 'verniertop.TopRounded'. -/
def topRoundedCard : Claim7 := { stood := { row := topRoundedRow, standIns := [], harness := (true, "6093890f4f2989376c294491fe2acf3ee9f753fa2a21372b32bd4c83d1fbb09e"), looks := true }, kinds := [], alts := [], laidByText := true, laidKinds := [.data, .data, .data, .data, .data, .data, .data, .widerDeep, .data, .pinned], laidTests := true, laidLooks := .later }
def TopRoundedCardSaid : Prop := Claim7.holds Tryz.pinned (.plain (OpenSpec.ofChange topRoundedSpec)) topRoundedCard

/-- THE TIED CARD OF 'verniertop.TopMachine'. -/
def topMachineCard : Claim7 := { stood := { row := topMachineRow, standIns := [], harness := (true, "6093890f4f2989376c294491fe2acf3ee9f753fa2a21372b32bd4c83d1fbb09e"), looks := true }, kinds := [], alts := [], laidByText := true, laidKinds := [.data, .data, .data, .data, .data, .data, .data, .widerDeep, .data, .pinned], laidTests := true, laidLooks := .later }
def TopMachineCardSaid : Prop := Claim7.holds Tryz.pinned (.plain (OpenSpec.ofChange topMachineSpec)) topMachineCard

/-- THE SECOND FORM's CARD OF 'verniertop.TopRounded'. -/
def topRoundedUptoCard : Claim7 := { stood := { row := topRoundedUptoRow, standIns := [], harness := (true, "6093890f4f2989376c294491fe2acf3ee9f753fa2a21372b32bd4c83d1fbb09e"), looks := true }, kinds := [], alts := [], laidByText := true, laidKinds := [.data, .data, .data, .data, .data, .data, .data, .widerDeep, .data, .pinned], laidTests := true, laidLooks := .later }
def TopRoundedUptoCardSaid : Prop := Claim7.holds Tryz.pinned (.plain (OpenSpec.upto topRoundedSpec)) topRoundedUptoCard

/-- THE SECOND FORM's CARD OF 'verniertop.TopMachine'. -/
def topMachineUptoCard : Claim7 := { stood := { row := topMachineUptoRow, standIns := [], harness := (true, "6093890f4f2989376c294491fe2acf3ee9f753fa2a21372b32bd4c83d1fbb09e"), looks := true }, kinds := [], alts := [], laidByText := true, laidKinds := [.data, .data, .data, .data, .data, .data, .data, .widerDeep, .data, .pinned], laidTests := true, laidLooks := .later }
def TopMachineUptoCardSaid : Prop := Claim7.holds Tryz.pinned (.plain (OpenSpec.upto topMachineSpec)) topMachineUptoCard
end Rows
end Go.Proofs.YtoaoebimjmjpeaaGreatDoor
