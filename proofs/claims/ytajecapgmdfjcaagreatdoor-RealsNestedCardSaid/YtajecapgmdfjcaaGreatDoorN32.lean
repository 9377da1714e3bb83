/- strconv.FormatUint of a number below 100, in base ten. -/
import Derived.Test.YtajecapgmdfjcaaGreatDoorN07
import Derived.Test.YtajecapgmdfjcaaGreatDoorN14
namespace Go.Proofs.YtajecapgmdfjcaaGreatDoor
open Go.RowKit Vn
theorem ifmt_c (u : Nat) (w : World) (hu : u < 100) :
  Calls Tryz.prog 94 #[.int .u64 u, .int .i64 10] w fun e w' => e = .returned (.string ⟨(Lib.decDigits u).toArray⟩) ∧ w' = w := by
 have h1 : (u : Int) < 100 := by omega
 have h2 : IntKind.i64.wrap (u : Int) = u := IntWalk.i64_in _ (by omega)
 have C : ∀ w, Calls Tryz.prog 135 #[.int .i64 u] w fun e w' => e = .returned (.string ⟨(Lib.decDigits u).toArray⟩) ∧ w' = w := fun w => Any.internal_strconv_small Tryz.lays283 u hu w
 go_enter Tryz.func94, Tryz.ntmps94
 go_wp2_with (go_at_call 135; refine (C _).mono ?_; rintro e w' ⟨rfl, rfl⟩)
 refine bodyPost_ret (v := .string ⟨(Lib.decDigits u).toArray⟩) (by simp [results, Tryz.results94, go_sem]) rfl ⟨rfl, rfl⟩
end Go.Proofs.YtajecapgmdfjcaaGreatDoor
