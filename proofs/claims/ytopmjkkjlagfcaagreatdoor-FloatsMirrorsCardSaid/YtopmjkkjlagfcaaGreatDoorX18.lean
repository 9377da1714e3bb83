/- exact: row of the text of one. -/
import Derived.Test.YtopmjkkjlagfcaaGreatDoorX11
import Derived.Test.YtopmjkkjlagfcaaGreatDoorX17
namespace Go.Proofs.YtopmjkkjlagfcaaGreatDoor
open Go.RowKit Vn
set_option maxRecDepth 100000
set_option maxHeartbeats 8000000
theorem trim_one:Lib.trimS [49] [48,49,50,51,52,53,54,55,56,57]=[]:=by decide
theorem row_one (w:World) :
  Calls Tryz.prog 105 #[.string ⟨#[49]⟩] w fun e w'=>e=.returned (.bool true)∧Ext w w':=by
 have C:Hid (∀ w,Calls Tryz.prog 160 #[.string ⟨#[49]⟩,.string ⟨#[48,49,50,51,52,53,54,55,56,57]⟩] w fun e w'=>e=.returned (.string ⟨#[]⟩)∧Ext w w'):=hid fun w =>
  (Tryz.sTrim ⟨#[49]⟩ ⟨#[48,49,50,51,52,53,54,55,56,57]⟩ w (by decide) (by decide) (ascii_of_all (by decide))).mono fun e w' ⟨h1,h2⟩=>⟨h1.trans (by rw [show (ByteArray.mk #[49]).data.toList=[49] from rfl,show (ByteArray.mk #[48,49,50,51,52,53,54,55,56,57]).data.toList=[48,49,50,51,52,53,54,55,56,57] from rfl,trim_one]),h2⟩
 go_enter Tryz.func105,Tryz.ntmps105
 go_wp2_with (go_at_call 160;refine (C.o _).mono ?_;rintro e w1 ⟨rfl,hE⟩)
 refine bodyPost_ret (v:=.bool true) (by simp [results,Tryz.results105,go_sem];decide) rfl ⟨rfl,hE⟩
end Go.Proofs.YtopmjkkjlagfcaaGreatDoor
