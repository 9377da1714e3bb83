/- exact: row of the text of one. -/
import Derived.Test.YtpdjenblkgaffaaGreatDoorM14
import Derived.Test.YtpdjenblkgaffaaGreatDoorM25
namespace Go.Proofs.YtpdjenblkgaffaaGreatDoor
open Go.RowKit Vn

theorem trim_one : Lib.trimS [49] [48, 49, 50, 51, 52, 53, 54, 55, 56, 57] = [] := by decide
set_option maxRecDepth 100000 in
theorem row_one (w : World) :
   Calls Tryz.prog 92 #[.string ⟨#[49]⟩] w fun e w' => e = .returned (.bool true) ∧ Ext w w' := by
  have C : Hid (∀ w, Calls Tryz.prog 118 #[.string ⟨#[49]⟩, .string ⟨#[48, 49, 50, 51, 52, 53, 54, 55, 56, 57]⟩] w fun e w' => e = .returned (.string ⟨#[]⟩) ∧ Ext w w') := hid fun w =>
    (Tryz.sTrim ⟨#[49]⟩ ⟨#[48, 49, 50, 51, 52, 53, 54, 55, 56, 57]⟩ w (by decide) (by decide) (ascii_of_all (by decide))).mono fun e w' ⟨h1, h2⟩ => ⟨h1.trans (by rw [show (ByteArray.mk #[49]).data.toList = [49] from rfl, show (ByteArray.mk #[48, 49, 50, 51, 52, 53, 54, 55, 56, 57]).data.toList = [48, 49, 50, 51, 52, 53, 54, 55, 56, 57] from rfl, trim_one]), h2⟩
  go_enter Tryz.func92, Tryz.ntmps92
  go_wp2_with (go_at_call 118; refine (C.out _).mono ?_; rintro e w1 ⟨rfl, hE⟩)
  refine bodyPost_ret (v := .bool true) (by simp [results, Tryz.results92, go_sem]; decide) rfl ⟨rfl, hE⟩
end Go.Proofs.YtpdjenblkgaffaaGreatDoor
