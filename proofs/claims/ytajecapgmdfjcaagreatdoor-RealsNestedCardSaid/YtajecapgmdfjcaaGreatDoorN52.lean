/- RealsNested: what its row says of the program's form. -/
import Derived.OpenShut
import Derived.Stop.Joined
import Derived.JoinedOf
import Derived.Test.YtajecapgmdfjcaaGreatDoorRows
namespace Go.Proofs.YtajecapgmdfjcaaGreatDoor
theorem law_facts : joinedFacts Tryz.pinned.checked.prog 4 Tryz.f4 Rows.realsNestedSpec Rows.realsNestedRow = true := by kernel_rfl
end Go.Proofs.YtajecapgmdfjcaaGreatDoor
