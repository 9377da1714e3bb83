/-
  DERIVED. GIVEN WITH THE SEED: THE CARDS: each row of YtajecapgmdfjcaaGreatDoorRows.lean that lists a variable, with what it lists TIED to the program's text (the seventh form; the later family's looks); each row that meets fmt, with fmt's text TOLD by the authors' own Lean function (tested against real Go, not proved from fmt's source: count such statements apart). THE CARD IS WHAT COUNTS. Prove the row's statement (the work); the ties are given (YtajecapgmdfjcaaGreatDoorTie.lean); close each card by the builder's one call (the guide's Derived/Test/ToyasCard.lean, 'card_holds'). Laid BY PROGRAM, IN A SANDBOX (cutbox-door.mjs). By AI agents, Wed Nov 11 2026. No macro, syntax, notation, axiom, sorry.
-/
import Derived.Test.YtajecapgmdfjcaaGreatDoorRows
import GoSem.ClaimSeven
namespace Go.Proofs.YtajecapgmdfjcaaGreatDoor
namespace Rows

/-- THE TIED CARD OF 'vernierlaw03.RealsChecks'. -/
def realsChecksCard : Claim7 := { stood := { row := realsChecksRow, standIns := [], harness := (true, "d0562e1b0cd334a5a8c1f26f5a3855255e0f61c6e02ac6783dddcce2840b1304"), looks := false }, kinds := [], alts := [], laidByText := true, laidKinds := [.data, .data, .data, .data, .data, .pinned], laidTests := true, laidLooks := .later }
def RealsChecksCardSaid : Prop := Claim7.holds Tryz.pinned (.plain (OpenSpec.ofChange realsChecksSpec)) realsChecksCard

/-- THE TIED CARD OF 'vernierlaw03.RealsNested'. -/
def realsNestedCard : Claim7 := { stood := { row := realsNestedRow, standIns := [], harness := (true, "d0562e1b0cd334a5a8c1f26f5a3855255e0f61c6e02ac6783dddcce2840b1304"), looks := false }, kinds := [], alts := [], laidByText := true, laidKinds := [.data, .data, .data, .data, .data, .pinned], laidTests := true, laidLooks := .later }
def RealsNestedCardSaid : Prop := Claim7.holds Tryz.pinned (.plain (OpenSpec.ofChange realsNestedSpec)) realsNestedCard

/-- THE TIED CARD OF 'vernierlaw03.RealsKnown'. -/
def realsKnownCard : Claim7 := { stood := { row := realsKnownRow, standIns := [], harness := (true, "d0562e1b0cd334a5a8c1f26f5a3855255e0f61c6e02ac6783dddcce2840b1304"), looks := false }, kinds := [], alts := [], laidByText := true, laidKinds := [.data, .data, .data, .data, .data, .data, .pinned], laidTests := true, laidLooks := .later }
def RealsKnownCardSaid : Prop := Claim7.holds Tryz.pinned (.plain (OpenSpec.ofChange realsKnownSpec)) realsKnownCard

/-- THE SECOND FORM's CARD OF 'vernierlaw03.RealsChecks'. -/
def realsChecksUptoCard : Claim7 := { stood := { row := realsChecksUptoRow, standIns := [], harness := (true, "d0562e1b0cd334a5a8c1f26f5a3855255e0f61c6e02ac6783dddcce2840b1304"), looks := false }, kinds := [], alts := [], laidByText := true, laidKinds := [.data, .data, .data, .data, .data, .pinned], laidTests := true, laidLooks := .later }
def RealsChecksUptoCardSaid : Prop := Claim7.holds Tryz.pinned (.plain (OpenSpec.upto realsChecksSpec)) realsChecksUptoCard

/-- THE SECOND FORM's CARD OF 'vernierlaw03.RealsNested'. -/
def realsNestedUptoCard : Claim7 := { stood := { row := realsNestedUptoRow, standIns := [], harness := (true, "d0562e1b0cd334a5a8c1f26f5a3855255e0f61c6e02ac6783dddcce2840b1304"), looks := false }, kinds := [], alts := [], laidByText := true, laidKinds := [.data, .data, .data, .data, .data, .pinned], laidTests := true, laidLooks := .later }
def RealsNestedUptoCardSaid : Prop := Claim7.holds Tryz.pinned (.plain (OpenSpec.upto realsNestedSpec)) realsNestedUptoCard

/-- THE SECOND FORM's CARD OF 'vernierlaw03.RealsKnown'. -/
def realsKnownUptoCard : Claim7 := { stood := { row := realsKnownUptoRow, standIns := [], harness := (true, "d0562e1b0cd334a5a8c1f26f5a3855255e0f61c6e02ac6783dddcce2840b1304"), looks := false }, kinds := [], alts := [], laidByText := true, laidKinds := [.data, .data, .data, .data, .data, .data, .pinned], laidTests := true, laidLooks := .later }
def RealsKnownUptoCardSaid : Prop := Claim7.holds Tryz.pinned (.plain (OpenSpec.upto realsKnownSpec)) realsKnownUptoCard
end Rows
end Go.Proofs.YtajecapgmdfjcaaGreatDoor
