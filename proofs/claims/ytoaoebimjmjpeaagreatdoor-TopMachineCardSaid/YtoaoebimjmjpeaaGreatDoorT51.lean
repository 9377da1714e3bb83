/- TopMachine: the row's closed facts. -/
import Derived.JoinedOf
import Derived.Test.YtoaoebimjmjpeaaGreatDoorCards
import Derived.Test.YtoaoebimjmjpeaaGreatDoorT17
namespace Go.Proofs.YtoaoebimjmjpeaaGreatDoor
open Go.ChangeShapes Go.WideShapes Go.ChangeAt Go.RowKit Vn
set_option maxRecDepth 100000
set_option maxHeartbeats 8000000
theorem machine_facts:joinedFacts Tryz.prog 4 Tryz.f4 Rows.topMachineSpec Rows.topMachineRow=true:=by
 unfold joinedFacts;simp only [Bool.and_eq_true]
 repeat' apply And.intro
 all_goals (as_aux_lemma=>kernel_rfl)
end Go.Proofs.YtoaoebimjmjpeaaGreatDoor
