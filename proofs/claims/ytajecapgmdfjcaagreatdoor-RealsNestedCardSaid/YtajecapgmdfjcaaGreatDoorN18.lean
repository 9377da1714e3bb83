/- exact: Twos of an integer: is it 0? -/
import Derived.Shelf.Spec.TrailingZeros
import Derived.Lib.SmallJoins
import Derived.Lib.ItoaNum
import Derived.Test.YtajecapgmdfjcaaGreatDoorN10
namespace Go.Proofs.YtajecapgmdfjcaaGreatDoor
open Go.RowKit Vn
structure Tabs (w : World) : Prop where
 tz : ∀ j, j < 32 → w.cell? ⟨4, j, none⟩ = some (.int .u8 (Lib.deBruijn32tab.getD j 0))
 p10 : Lib.TabIs Tryz.prog w "internal/strconv.uint64pow10" .u64 Lib.pow10Tab
theorem Tabs.ext {w w' : World} (h : Tabs w) (k : Ext w w') : Tabs w' := ⟨fun j hj => k.cell (h.tz j hj), Joins.tab_stays (g := 2) (by kernel_rfl) h.p10 k (Nat.le_refl _)⟩
end Go.Proofs.YtajecapgmdfjcaaGreatDoor
