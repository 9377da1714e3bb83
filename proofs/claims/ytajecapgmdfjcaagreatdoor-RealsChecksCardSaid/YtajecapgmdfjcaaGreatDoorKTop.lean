/- RealsChecks (vernierlaw03): for every input the law returns true and its arguments read afterwards as they read before; the listed package variables hold what the program's text lays. -/
import Derived.SevenTiedAt
import Derived.Test.YtajecapgmdfjcaaGreatDoorCards
import Derived.Test.YtajecapgmdfjcaaGreatDoorTie
import Derived.Test.YtajecapgmdfjcaaGreatDoorK51
import Derived.Test.YtajecapgmdfjcaaGreatDoorK52
namespace Go.Proofs.YtajecapgmdfjcaaGreatDoor
open Go.ChangeShapes Go.WideShapes Go.ChangeAt Go.RowKit Vn

theorem realsChecks_holds : Rows.RealsChecksSaid :=
  OpenClaim.holds_of_wide 3 Tryz.f3 rfl rfl rfl rfl rfl rfl rfl ⟨rfl, rfl, rfl, rfl, rfl⟩ rfl rfl rfl rfl rfl (by kernel_rfl) Tryz.func3 law_facts
    (of_decide_eq_true (by kernel_rfl)) (by unfold Func.isWrapper; first | (rw [if_pos (by decide +kernel)]; kernel_rfl) | (rw [if_neg (by decide +kernel)]; exact ⟨rfl, rfl⟩))
    (fun os started H enc _ => law_lifted os started H enc)

theorem realsChecksCard_holds : Rows.RealsChecksCardSaid :=
  Claim7.holds_tied_plain_at .later [] [.data, .data, .data, .data, .data, .pinned] true (true, "d0562e1b0cd334a5a8c1f26f5a3855255e0f61c6e02ac6783dddcce2840b1304") false
    realsChecks_holds (fun _ h => by cases h) (by kernel_rfl) (fun _ h => by cases h) realsChecks_row_tie rfl ⟨rfl, rfl⟩ (by kernel_rfl) rfl
    (fun f fn hf hfn => by
      obtain rfl : f = 3 := Option.some.inj ((show Tryz.prog.funcNamed "vernier/vernierlaw03.RealsChecks" = some 3 by kernel_rfl).symm.trans hf) |>.symm
      obtain rfl : fn = Tryz.f3 := (Option.some.inj (Tryz.func3.symm.trans hfn)).symm
      exact ⟨by kernel_rfl, fun j t ht => by
        rw [Tryz.params3] at ht
        have hm : t ∈ [22] := by simpa using Array.mem_of_getElem? ht
        have hall : ([22].all fun u => !Tryz.prog.wantsStandIn u) = true := by kernel_rfl
        exact (show Tryz.prog.wantsStandIn t = false by simpa using List.all_eq_true.1 hall t hm)⟩)
    (by kernel_rfl)
end Go.Proofs.YtajecapgmdfjcaaGreatDoor
