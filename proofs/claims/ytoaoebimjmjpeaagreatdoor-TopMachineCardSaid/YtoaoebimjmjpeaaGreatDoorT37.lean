/- A run of which everything is known: the example of the language's chapter, reckoned. -/
import Derived.KernelRfl
import Derived.Test.YtoaoebimjmjpeaaGreatDoorT36
namespace Go.Proofs.YtoaoebimjmjpeaaGreatDoor
open Go.RowKit Vn
set_option maxRecDepth 100000
set_option maxHeartbeats 8000000
noncomputable def zAll (j:Nat):ZHd:=zRun OQ zT0 zF0 zCtF zIm 69 33 j
def zYes (r:Option (ZX×ZT ZB×Nat)):Bool:=match r with
 | some (x,_,_)=>zsXX x (.c (.v (.bool true)))
 | none=>false
theorem known_run:zYes ((zAll 60).call 6 [] .e 0)=true:=by kernel_rfl
end Go.Proofs.YtoaoebimjmjpeaaGreatDoor
