/-
  DERIVED. GIVEN WITH THE SEED: THE CARDS: each row of YtgabigepocfllaaGreatDoorRows.lean that lists a variable, with what it lists TIED to the program's text (the seventh form; the later family's looks); each row that meets fmt, with fmt's text TOLD by the authors' own Lean function (tested against real Go, not proved from fmt's source: count such statements apart). THE CARD IS WHAT COUNTS. Prove the row's statement (the work); the ties are given (YtgabigepocfllaaGreatDoorTie.lean); close each card by the builder's one call (the guide's Derived/Test/ToyasCard.lean, 'card_holds'). Laid BY PROGRAM, IN A SANDBOX (cutbox-door.mjs). By AI agents, Wed Nov 11 2026. No macro, syntax, notation, axiom, sorry.
-/
import Derived.Test.YtgabigepocfllaaGreatDoorRows
import GoSem.ClaimSeven
namespace Go.Proofs.YtgabigepocfllaaGreatDoor
namespace Rows

/-- THE TIED CARD OF 'vernierlaw02.FloatsEncodes'. -/
def floatsEncodesCard : Claim7 := { stood := { row := floatsEncodesRow, standIns := [], harness := (true, "0581c62d347277d94843a9787945c15b355f1b16ad76f7507559e623acae87c6"), looks := false }, kinds := [], alts := [], laidByText := true, laidKinds := [.data, .data, .data, .data, .data, .pinned], laidTests := true, laidLooks := .later }
def FloatsEncodesCardSaid : Prop := Claim7.holds Tryz.pinned (.plain (OpenSpec.ofChange floatsEncodesSpec)) floatsEncodesCard

/-- THE TIED CARD OF 'vernierlaw02.FloatsMonotone'. -/
def floatsMonotoneCard : Claim7 := { stood := { row := floatsMonotoneRow, standIns := [], harness := (true, "0581c62d347277d94843a9787945c15b355f1b16ad76f7507559e623acae87c6"), looks := false }, kinds := [], alts := [], laidByText := true, laidKinds := [.data, .data, .data, .data, .data, .pinned], laidTests := true, laidLooks := .later }
def FloatsMonotoneCardSaid : Prop := Claim7.holds Tryz.pinned (.plain (OpenSpec.ofChange floatsMonotoneSpec)) floatsMonotoneCard

/-- THE TIED CARD OF 'vernierlaw02.FloatsNearest'. -/
def floatsNearestCard : Claim7 := { stood := { row := floatsNearestRow, standIns := [], harness := (true, "0581c62d347277d94843a9787945c15b355f1b16ad76f7507559e623acae87c6"), looks := false }, kinds := [], alts := [], laidByText := true, laidKinds := [.data, .data, .data, .data, .data, .pinned], laidTests := true, laidLooks := .later }
def FloatsNearestCardSaid : Prop := Claim7.holds Tryz.pinned (.plain (OpenSpec.ofChange floatsNearestSpec)) floatsNearestCard

/-- THE TIED CARD OF 'vernierlaw02.FloatsConverts'. -/
def floatsConvertsCard : Claim7 := { stood := { row := floatsConvertsRow, standIns := [], harness := (true, "0581c62d347277d94843a9787945c15b355f1b16ad76f7507559e623acae87c6"), looks := false }, kinds := [], alts := [], laidByText := true, laidKinds := [.data, .data, .data, .data, .data, .pinned], laidTests := true, laidLooks := .later }
def FloatsConvertsCardSaid : Prop := Claim7.holds Tryz.pinned (.plain (OpenSpec.ofChange floatsConvertsSpec)) floatsConvertsCard

/-- THE TIED CARD OF 'vernierlaw02.FloatsRounds'. -/
def floatsRoundsCard : Claim7 := { stood := { row := floatsRoundsRow, standIns := [], harness := (true, "0581c62d347277d94843a9787945c15b355f1b16ad76f7507559e623acae87c6"), looks := false }, kinds := [], alts := [], laidByText := true, laidKinds := [.data, .data, .data, .data, .data, .pinned], laidTests := true, laidLooks := .later }
def FloatsRoundsCardSaid : Prop := Claim7.holds Tryz.pinned (.plain (OpenSpec.ofChange floatsRoundsSpec)) floatsRoundsCard

/-- THE TIED CARD OF 'vernierlaw02.FloatsCounts'. -/
def floatsCountsCard : Claim7 := { stood := { row := floatsCountsRow, standIns := [], harness := (true, "0581c62d347277d94843a9787945c15b355f1b16ad76f7507559e623acae87c6"), looks := false }, kinds := [], alts := [], laidByText := true, laidKinds := [.data, .data, .data, .data, .data, .pinned], laidTests := true, laidLooks := .later }
def FloatsCountsCardSaid : Prop := Claim7.holds Tryz.pinned (.plain (OpenSpec.ofChange floatsCountsSpec)) floatsCountsCard

/-- THE TIED CARD OF 'vernierlaw02.FloatsComputes'. -/
def floatsComputesCard : Claim7 := { stood := { row := floatsComputesRow, standIns := [], harness := (true, "0581c62d347277d94843a9787945c15b355f1b16ad76f7507559e623acae87c6"), looks := false }, kinds := [], alts := [], laidByText := true, laidKinds := [.data, .data, .data, .data, .data, .pinned], laidTests := true, laidLooks := .later }
def FloatsComputesCardSaid : Prop := Claim7.holds Tryz.pinned (.plain (OpenSpec.ofChange floatsComputesSpec)) floatsComputesCard

/-- THE SECOND FORM's CARD OF 'vernierlaw02.FloatsEncodes'. -/
def floatsEncodesUptoCard : Claim7 := { stood := { row := floatsEncodesUptoRow, standIns := [], harness := (true, "0581c62d347277d94843a9787945c15b355f1b16ad76f7507559e623acae87c6"), looks := false }, kinds := [], alts := [], laidByText := true, laidKinds := [.data, .data, .data, .data, .data, .pinned], laidTests := true, laidLooks := .later }
def FloatsEncodesUptoCardSaid : Prop := Claim7.holds Tryz.pinned (.plain (OpenSpec.upto floatsEncodesSpec)) floatsEncodesUptoCard

/-- THE SECOND FORM's CARD OF 'vernierlaw02.FloatsMonotone'. -/
def floatsMonotoneUptoCard : Claim7 := { stood := { row := floatsMonotoneUptoRow, standIns := [], harness := (true, "0581c62d347277d94843a9787945c15b355f1b16ad76f7507559e623acae87c6"), looks := false }, kinds := [], alts := [], laidByText := true, laidKinds := [.data, .data, .data, .data, .data, .pinned], laidTests := true, laidLooks := .later }
def FloatsMonotoneUptoCardSaid : Prop := Claim7.holds Tryz.pinned (.plain (OpenSpec.upto floatsMonotoneSpec)) floatsMonotoneUptoCard

/-- THE SECOND FORM's CARD OF 'vernierlaw02.FloatsNearest'. -/
def floatsNearestUptoCard : Claim7 := { stood := { row := floatsNearestUptoRow, standIns := [], harness := (true, "0581c62d347277d94843a9787945c15b355f1b16ad76f7507559e623acae87c6"), looks := false }, kinds := [], alts := [], laidByText := true, laidKinds := [.data, .data, .data, .data, .data, .pinned], laidTests := true, laidLooks := .later }
def FloatsNearestUptoCardSaid : Prop := Claim7.holds Tryz.pinned (.plain (OpenSpec.upto floatsNearestSpec)) floatsNearestUptoCard

/-- THE SECOND FORM's CARD OF 'vernierlaw02.FloatsConverts'. -/
def floatsConvertsUptoCard : Claim7 := { stood := { row := floatsConvertsUptoRow, standIns := [], harness := (true, "0581c62d347277d94843a9787945c15b355f1b16ad76f7507559e623acae87c6"), looks := false }, kinds := [], alts := [], laidByText := true, laidKinds := [.data, .data, .data, .data, .data, .pinned], laidTests := true, laidLooks := .later }
def FloatsConvertsUptoCardSaid : Prop := Claim7.holds Tryz.pinned (.plain (OpenSpec.upto floatsConvertsSpec)) floatsConvertsUptoCard

/-- THE SECOND FORM's CARD OF 'vernierlaw02.FloatsRounds'. -/
def floatsRoundsUptoCard : Claim7 := { stood := { row := floatsRoundsUptoRow, standIns := [], harness := (true, "0581c62d347277d94843a9787945c15b355f1b16ad76f7507559e623acae87c6"), looks := false }, kinds := [], alts := [], laidByText := true, laidKinds := [.data, .data, .data, .data, .data, .pinned], laidTests := true, laidLooks := .later }
def FloatsRoundsUptoCardSaid : Prop := Claim7.holds Tryz.pinned (.plain (OpenSpec.upto floatsRoundsSpec)) floatsRoundsUptoCard

/-- THE SECOND FORM's CARD OF 'vernierlaw02.FloatsCounts'. -/
def floatsCountsUptoCard : Claim7 := { stood := { row := floatsCountsUptoRow, standIns := [], harness := (true, "0581c62d347277d94843a9787945c15b355f1b16ad76f7507559e623acae87c6"), looks := false }, kinds := [], alts := [], laidByText := true, laidKinds := [.data, .data, .data, .data, .data, .pinned], laidTests := true, laidLooks := .later }
def FloatsCountsUptoCardSaid : Prop := Claim7.holds Tryz.pinned (.plain (OpenSpec.upto floatsCountsSpec)) floatsCountsUptoCard

/-- THE SECOND FORM's CARD OF 'vernierlaw02.FloatsComputes'. -/
def floatsComputesUptoCard : Claim7 := { stood := { row := floatsComputesUptoRow, standIns := [], harness := (true, "0581c62d347277d94843a9787945c15b355f1b16ad76f7507559e623acae87c6"), looks := false }, kinds := [], alts := [], laidByText := true, laidKinds := [.data, .data, .data, .data, .data, .pinned], laidTests := true, laidLooks := .later }
def FloatsComputesUptoCardSaid : Prop := Claim7.holds Tryz.pinned (.plain (OpenSpec.upto floatsComputesSpec)) floatsComputesUptoCard
end Rows
end Go.Proofs.YtgabigepocfllaaGreatDoor
