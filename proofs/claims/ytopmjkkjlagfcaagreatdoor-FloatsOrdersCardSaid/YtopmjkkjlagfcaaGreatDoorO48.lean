/- exact: Parse of whatever text (that is no longer than memory's words say); what Text prints is read as the same number. -/
import Derived.Test.YtopmjkkjlagfcaaGreatDoorO19
import Derived.Test.YtopmjkkjlagfcaaGreatDoorO46
import Derived.Test.YtopmjkkjlagfcaaGreatDoorO39
namespace Go.Proofs.YtopmjkkjlagfcaaGreatDoor
open Go.RowKit Vn
set_option maxRecDepth 100000
set_option maxHeartbeats 8000000



end Go.Proofs.YtopmjkkjlagfcaaGreatDoor
