/- floats: add. -/
import Derived.Test.YtgabigepocfllaaGreatDoorP35
namespace Go.Proofs.YtgabigepocfllaaGreatDoor
open Go.RowKit Vn
set_option maxRecDepth 100000
set_option maxHeartbeats 8000000

end Go.Proofs.YtgabigepocfllaaGreatDoor
