/- FloatsCounts: what its row says of the program's form. -/
import Derived.OpenShut
import Derived.Stop.Joined
import Derived.JoinedOf
import Derived.Test.YtgabigepocfllaaGreatDoorRows
namespace Go.Proofs.YtgabigepocfllaaGreatDoor
set_option maxRecDepth 100000
set_option maxHeartbeats 8000000
theorem law_facts:joinedFacts Tryz.pinned.checked.prog 8 Tryz.f8 Rows.floatsCountsSpec Rows.floatsCountsRow=true:=by kernel_rfl
end Go.Proofs.YtgabigepocfllaaGreatDoor
