/- A list of nodes, opened. -/
import Derived.Test.YtajecapgmdfjcaaGreatDoorN19
import Derived.Test.YtajecapgmdfjcaaGreatDoorN41
namespace Go.Proofs.YtajecapgmdfjcaaGreatDoor
open Go.ChangeShapes Go.WideShapes Go.ChangeAt Go.RowKit Vn
section
variable {H : Type} {enc : TypeId × Value → H} {W : World} {base b0 : Nat} {sp : Nat → Bool} {held : Bool}
end
end Go.Proofs.YtajecapgmdfjcaaGreatDoor
