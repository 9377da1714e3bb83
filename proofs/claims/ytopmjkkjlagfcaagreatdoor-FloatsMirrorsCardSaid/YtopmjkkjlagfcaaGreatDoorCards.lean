/-
  DERIVED. GIVEN WITH THE SEED: THE CARDS: each row of YtopmjkkjlagfcaaGreatDoorRows.lean that lists a variable, with what it lists TIED to the program's text (the seventh form; the later family's looks); each row that meets fmt, with fmt's text TOLD by the authors' own Lean function (tested against real Go, not proved from fmt's source: count such statements apart). THE CARD IS WHAT COUNTS. Prove the row's statement (the work); the ties are given (YtopmjkkjlagfcaaGreatDoorTie.lean); close each card by the builder's one call (the guide's Derived/Test/ToyasCard.lean, 'card_holds'). Laid BY PROGRAM, IN A SANDBOX (cutbox-door.mjs). By AI agents, Wed Nov 11 2026. No macro, syntax, notation, axiom, sorry.
-/
import Derived.Test.YtopmjkkjlagfcaaGreatDoorRows
import GoSem.ClaimSeven
namespace Go.Proofs.YtopmjkkjlagfcaaGreatDoor
namespace Rows

/-- THE TIED CARD OF 'vernierlaw02.FloatsEncodes'. -/
def floatsEncodesCard : Claim7 := { stood := { row := floatsEncodesRow, standIns := [], harness := (true, "a79cd01befe1652a540010342fba6917656014eb243498a59afb465a66e73147"), looks := false }, kinds := [], alts := [], laidByText := true, laidKinds := [.data, .data, .data, .data, .data, .pinned], laidTests := true, laidLooks := .later }
def FloatsEncodesCardSaid : Prop := Claim7.holds Tryz.pinned (.plain (OpenSpec.ofChange floatsEncodesSpec)) floatsEncodesCard

/-- THE TIED CARD OF 'vernierlaw02.FloatsMonotone'. -/
def floatsMonotoneCard : Claim7 := { stood := { row := floatsMonotoneRow, standIns := [], harness := (true, "a79cd01befe1652a540010342fba6917656014eb243498a59afb465a66e73147"), looks := false }, kinds := [], alts := [], laidByText := true, laidKinds := [.data, .data, .data, .data, .data, .pinned], laidTests := true, laidLooks := .later }
def FloatsMonotoneCardSaid : Prop := Claim7.holds Tryz.pinned (.plain (OpenSpec.ofChange floatsMonotoneSpec)) floatsMonotoneCard

/-- THE TIED CARD OF 'vernierlaw02.FloatsOrders'. -/
def floatsOrdersCard : Claim7 := { stood := { row := floatsOrdersRow, standIns := [], harness := (true, "a79cd01befe1652a540010342fba6917656014eb243498a59afb465a66e73147"), looks := false }, kinds := [], alts := [], laidByText := true, laidKinds := [.data, .data, .data, .data, .data, .pinned], laidTests := true, laidLooks := .later }
def FloatsOrdersCardSaid : Prop := Claim7.holds Tryz.pinned (.plain (OpenSpec.ofChange floatsOrdersSpec)) floatsOrdersCard

/-- THE TIED CARD OF 'vernierlaw02.FloatsNearest'. -/
def floatsNearestCard : Claim7 := { stood := { row := floatsNearestRow, standIns := [], harness := (true, "a79cd01befe1652a540010342fba6917656014eb243498a59afb465a66e73147"), looks := false }, kinds := [], alts := [], laidByText := true, laidKinds := [.data, .data, .data, .data, .data, .pinned], laidTests := true, laidLooks := .later }
def FloatsNearestCardSaid : Prop := Claim7.holds Tryz.pinned (.plain (OpenSpec.ofChange floatsNearestSpec)) floatsNearestCard

/-- THE TIED CARD OF 'vernierlaw02.FloatsMirrors'. -/
def floatsMirrorsCard : Claim7 := { stood := { row := floatsMirrorsRow, standIns := [], harness := (true, "a79cd01befe1652a540010342fba6917656014eb243498a59afb465a66e73147"), looks := false }, kinds := [], alts := [], laidByText := true, laidKinds := [.data, .data, .data, .data, .data, .pinned], laidTests := true, laidLooks := .later }
def FloatsMirrorsCardSaid : Prop := Claim7.holds Tryz.pinned (.plain (OpenSpec.ofChange floatsMirrorsSpec)) floatsMirrorsCard

/-- THE TIED CARD OF 'vernierlaw02.FloatsWords'. -/
def floatsWordsCard : Claim7 := { stood := { row := floatsWordsRow, standIns := [], harness := (true, "a79cd01befe1652a540010342fba6917656014eb243498a59afb465a66e73147"), looks := false }, kinds := [], alts := [], laidByText := true, laidKinds := [.data, .data, .data, .data, .data, .pinned], laidTests := true, laidLooks := .later }
def FloatsWordsCardSaid : Prop := Claim7.holds Tryz.pinned (.plain (OpenSpec.ofChange floatsWordsSpec)) floatsWordsCard

/-- THE SECOND FORM's CARD OF 'vernierlaw02.FloatsEncodes'. -/
def floatsEncodesUptoCard : Claim7 := { stood := { row := floatsEncodesUptoRow, standIns := [], harness := (true, "a79cd01befe1652a540010342fba6917656014eb243498a59afb465a66e73147"), looks := false }, kinds := [], alts := [], laidByText := true, laidKinds := [.data, .data, .data, .data, .data, .pinned], laidTests := true, laidLooks := .later }
def FloatsEncodesUptoCardSaid : Prop := Claim7.holds Tryz.pinned (.plain (OpenSpec.upto floatsEncodesSpec)) floatsEncodesUptoCard

/-- THE SECOND FORM's CARD OF 'vernierlaw02.FloatsMonotone'. -/
def floatsMonotoneUptoCard : Claim7 := { stood := { row := floatsMonotoneUptoRow, standIns := [], harness := (true, "a79cd01befe1652a540010342fba6917656014eb243498a59afb465a66e73147"), looks := false }, kinds := [], alts := [], laidByText := true, laidKinds := [.data, .data, .data, .data, .data, .pinned], laidTests := true, laidLooks := .later }
def FloatsMonotoneUptoCardSaid : Prop := Claim7.holds Tryz.pinned (.plain (OpenSpec.upto floatsMonotoneSpec)) floatsMonotoneUptoCard

/-- THE SECOND FORM's CARD OF 'vernierlaw02.FloatsOrders'. -/
def floatsOrdersUptoCard : Claim7 := { stood := { row := floatsOrdersUptoRow, standIns := [], harness := (true, "a79cd01befe1652a540010342fba6917656014eb243498a59afb465a66e73147"), looks := false }, kinds := [], alts := [], laidByText := true, laidKinds := [.data, .data, .data, .data, .data, .pinned], laidTests := true, laidLooks := .later }
def FloatsOrdersUptoCardSaid : Prop := Claim7.holds Tryz.pinned (.plain (OpenSpec.upto floatsOrdersSpec)) floatsOrdersUptoCard

/-- THE SECOND FORM's CARD OF 'vernierlaw02.FloatsNearest'. -/
def floatsNearestUptoCard : Claim7 := { stood := { row := floatsNearestUptoRow, standIns := [], harness := (true, "a79cd01befe1652a540010342fba6917656014eb243498a59afb465a66e73147"), looks := false }, kinds := [], alts := [], laidByText := true, laidKinds := [.data, .data, .data, .data, .data, .pinned], laidTests := true, laidLooks := .later }
def FloatsNearestUptoCardSaid : Prop := Claim7.holds Tryz.pinned (.plain (OpenSpec.upto floatsNearestSpec)) floatsNearestUptoCard

/-- THE SECOND FORM's CARD OF 'vernierlaw02.FloatsMirrors'. -/
def floatsMirrorsUptoCard : Claim7 := { stood := { row := floatsMirrorsUptoRow, standIns := [], harness := (true, "a79cd01befe1652a540010342fba6917656014eb243498a59afb465a66e73147"), looks := false }, kinds := [], alts := [], laidByText := true, laidKinds := [.data, .data, .data, .data, .data, .pinned], laidTests := true, laidLooks := .later }
def FloatsMirrorsUptoCardSaid : Prop := Claim7.holds Tryz.pinned (.plain (OpenSpec.upto floatsMirrorsSpec)) floatsMirrorsUptoCard

/-- THE SECOND FORM's CARD OF 'vernierlaw02.FloatsWords'. -/
def floatsWordsUptoCard : Claim7 := { stood := { row := floatsWordsUptoRow, standIns := [], harness := (true, "a79cd01befe1652a540010342fba6917656014eb243498a59afb465a66e73147"), looks := false }, kinds := [], alts := [], laidByText := true, laidKinds := [.data, .data, .data, .data, .data, .pinned], laidTests := true, laidLooks := .later }
def FloatsWordsUptoCardSaid : Prop := Claim7.holds Tryz.pinned (.plain (OpenSpec.upto floatsWordsSpec)) floatsWordsUptoCard
end Rows
end Go.Proofs.YtopmjkkjlagfcaaGreatDoor
