/- exact: Parse of whatever text (that is no longer than memory's words say); what Text prints is read as the same number. -/
import Derived.Test.YtajecapgmdfjcaaGreatDoorL35
import Derived.Test.YtajecapgmdfjcaaGreatDoorL32
namespace Go.Proofs.YtajecapgmdfjcaaGreatDoor
open Go.RowKit Vn
theorem Parse_c (l : List UInt8) (w : World) (hw : WM w) (hl : l.length ≤ 9223372036854775807) :
  Calls Tryz.prog 64 #[.string (ba l)] w fun e w' => ParsePost (parseV l) w e w' := by
 have hs : (Lib.trimPrefix l [45]).length ≤ l.length := by
  unfold Lib.trimPrefix
  split
  ·rw [List.length_drop]; omega
  ·exact Nat.le_refl _
 have h1 : (pCut l).1.length ≤ (Lib.trimPrefix l [45]).length := by
  unfold pCut Lib.cut
  split
  ·exact List.length_take_le' _ _
  ·exact Nat.le_refl _
 have h2 : (pCut l).2.1.length ≤ (Lib.trimPrefix l [45]).length := by
  unfold pCut Lib.cut
  split
  ·show (List.drop _ _).length ≤ _
   rw [List.length_drop]; omega
  ·exact Nat.zero_le _
 refine Parse_x l (Lib.trimPrefix l [45]) (pCut l).1 (pCut l).2.1 (pNeg l) (pCut l).2.2 (parseBad (pNeg l) (pCut l).2.2 (pCut l).1 (pCut l).2.1) (parseV l) w hw (by omega) (by omega) (hid fun w => ?_) (hid fun w _ => ?_) rfl rfl
 ·exact (Tryz.sCutPrefix (ba l) ⟨#[45]⟩ w).mono fun e w' ⟨h1, h2⟩ => ⟨h1, h2 ▸ Below.refl _ _⟩
 ·exact sCut1_c (ba (Lib.trimPrefix l [45])) w (by rw [ba_size]; omega)
end Go.Proofs.YtajecapgmdfjcaaGreatDoor
