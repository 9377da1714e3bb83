/- strconv.FormatUint of a number below 100, in base ten. -/
import Derived.Test.YtpdjenblkgaffaaGreatDoorM14
import Derived.Test.YtpdjenblkgaffaaGreatDoorM24
namespace Go.Proofs.YtpdjenblkgaffaaGreatDoor
open Go.RowKit Vn

theorem ifmt_c (u : Nat) (w : World) (hu : u < 100) :
   Calls Tryz.prog 109 #[.int .u64 u, .int .i64 10] w fun e w' => e = .returned (.string ⟨(Lib.decDigits u).toArray⟩) ∧ w' = w := by
  have h1 : (u : Int) < 100 := by omega
  have h2 : IntKind.i64.wrap (u : Int) = u := IntWalk.i64_in _ (by omega)
  have C : ∀ w, Calls Tryz.prog 123 #[.int .i64 u] w fun e w' => e = .returned (.string ⟨(Lib.decDigits u).toArray⟩) ∧ w' = w := fun w => Any.internal_strconv_small Tryz.lays283 u hu w
  go_enter Tryz.func109, Tryz.ntmps109
  go_wp2_with (go_at_call 123; refine (C _).mono ?_; rintro e w' ⟨rfl, rfl⟩)
  refine bodyPost_ret (v := .string ⟨(Lib.decDigits u).toArray⟩) (by simp [results, Tryz.results109, go_sem]) rfl ⟨rfl, rfl⟩

theorem fmt_c (u : Nat) (w : World) (hu : u < 100) :
   Calls Tryz.prog 84 #[.int .u64 u, .int .i64 10] w fun e w' => e = .returned (.string ⟨(Lib.decDigits u).toArray⟩) ∧ w' = w := by
  go_enter Tryz.func84, Tryz.ntmps84
  go_wp2_with (go_at_call 109; refine (ifmt_c u _ hu).mono ?_; rintro e w' ⟨rfl, rfl⟩)
  refine bodyPost_ret (v := .string ⟨(Lib.decDigits u).toArray⟩) (by simp [results, Tryz.results84, go_sem]) rfl ⟨rfl, rfl⟩
end Go.Proofs.YtpdjenblkgaffaaGreatDoor
