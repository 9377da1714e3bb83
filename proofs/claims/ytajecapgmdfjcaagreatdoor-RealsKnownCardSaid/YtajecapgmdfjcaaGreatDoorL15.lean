/- exact: Parse of the text of one. -/
import Derived.Test.YtajecapgmdfjcaaGreatDoorL11
import Derived.Test.YtajecapgmdfjcaaGreatDoorL14
namespace Go.Proofs.YtajecapgmdfjcaaGreatDoor
open Go.RowKit Vn
def WM (w : World) : Prop := ∃ m : Int, w.cell? ⟨3, 0, none⟩ = some (.int .i64 m)
theorem WM.ext {w w' : World} (h : WM w) (k : Ext w w') : WM w' := by
 obtain ⟨m, hm⟩ := h
 exact ⟨m, k.cell hm⟩
theorem Ext.drewN (w : World) (n : Nat) : Ext w (w.drewN n) := ⟨rfl, rfl, rfl, Nat.le_refl _, fun _ _ => rfl⟩
end Go.Proofs.YtajecapgmdfjcaaGreatDoor
