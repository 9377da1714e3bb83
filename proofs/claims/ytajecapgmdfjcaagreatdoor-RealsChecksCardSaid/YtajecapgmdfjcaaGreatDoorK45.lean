/- The reference: IsInt, in the words of reckoning. -/
import Derived.Test.YtajecapgmdfjcaaGreatDoorK41
import Derived.Test.YtajecapgmdfjcaaGreatDoorK44
namespace Go.Proofs.YtajecapgmdfjcaaGreatDoor
open Go.RowKit Vn
section
variable {K : Nat} {q : Rat}
theorem cRIsInt (sx : SmQ K q) (hK : K ≤ 10000000) : Cal Tryz.prog OQ 167 [rA q] (.c (.v (.bool (decide (q.den = 1))))) :=
 calA [.r q] (r := .s (.bool (decide (q.den = 1)))) (by kernel_rfl) rfl fun w vs _ hv => by
  obtain ⟨x, rfl, hx⟩ := one_arg hv; exact (risint_c x q K w hx sx (by omega)).mono fun _ _ ⟨h1, h2⟩ => ⟨_, h1, rfl, h2⟩
end
end Go.Proofs.YtajecapgmdfjcaaGreatDoor
