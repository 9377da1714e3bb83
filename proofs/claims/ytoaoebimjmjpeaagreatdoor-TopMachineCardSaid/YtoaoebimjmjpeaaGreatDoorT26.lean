/- strconv.FormatUint of a number below 100, in base ten. -/
import Derived.Test.YtoaoebimjmjpeaaGreatDoorT05
import Derived.Test.YtoaoebimjmjpeaaGreatDoorT11
namespace Go.Proofs.YtoaoebimjmjpeaaGreatDoor
open Go.RowKit Vn
set_option maxRecDepth 100000
set_option maxHeartbeats 8000000
theorem ifmt_c (u:Nat) (w:World) (hu:u<100) :
  Calls Tryz.prog 256 #[.int .u64 u,.int .i64 10] w fun e w'=>e=.returned (.string ⟨(Lib.decDigits u).toArray⟩)∧w'=w:=by
 have h1:(u:Int)<100:=by omega
 have h2:IntKind.i64.wrap (u:Int)=u:=IntWalk.i64_in _ (by omega);have C:∀ w,Calls Tryz.prog 305 #[.int .i64 u] w fun e w'=>e=.returned (.string ⟨(Lib.decDigits u).toArray⟩)∧w'=w:=fun w=>Any.internal_strconv_small Tryz.lays283 u hu w
 go_enter Tryz.func256,Tryz.ntmps256
 go_wp2_with (go_at_call 305;refine (C _).mono ?_;rintro e w' ⟨rfl,rfl⟩)
 refine bodyPost_ret (v:=.string ⟨(Lib.decDigits u).toArray⟩) (by simp [results,Tryz.results256,go_sem]) rfl ⟨rfl,rfl⟩
end Go.Proofs.YtoaoebimjmjpeaaGreatDoor
