/- RealsNested (vernierlaw03): for every input the law returns true and its arguments read afterwards as they read before; the listed package variables hold what the program's text lays. -/
import Derived.SevenTiedAt
import Derived.Test.YtajecapgmdfjcaaGreatDoorCards
import Derived.Test.YtajecapgmdfjcaaGreatDoorTie
import Derived.Test.YtajecapgmdfjcaaGreatDoorN51
import Derived.Test.YtajecapgmdfjcaaGreatDoorN52
namespace Go.Proofs.YtajecapgmdfjcaaGreatDoor
open Go.ChangeShapes Go.WideShapes Go.ChangeAt Go.RowKit Vn

theorem realsNested_holds : Rows.RealsNestedSaid :=
  OpenClaim.holds_of_wide 4 Tryz.f4 rfl rfl rfl rfl rfl rfl rfl ⟨rfl, rfl, rfl, rfl, rfl⟩ rfl rfl rfl rfl rfl (by kernel_rfl) Tryz.func4 law_facts
    (of_decide_eq_true (by kernel_rfl)) (by unfold Func.isWrapper; first | (rw [if_pos (by decide +kernel)]; kernel_rfl) | (rw [if_neg (by decide +kernel)]; exact ⟨rfl, rfl⟩))
    (fun os started H enc _ => law_lifted os started H enc)

theorem realsNestedCard_holds : Rows.RealsNestedCardSaid :=
  Claim7.holds_tied_plain_at .later [] [.data, .data, .data, .data, .data, .pinned] true (true, "d0562e1b0cd334a5a8c1f26f5a3855255e0f61c6e02ac6783dddcce2840b1304") false
    realsNested_holds (fun _ h => by cases h) (by kernel_rfl) (fun _ h => by cases h) realsNested_row_tie rfl ⟨rfl, rfl⟩ (by kernel_rfl) rfl
    (fun f fn hf hfn => by
      obtain rfl : f = 4 := Option.some.inj ((show Tryz.prog.funcNamed "vernier/vernierlaw03.RealsNested" = some 4 by kernel_rfl).symm.trans hf) |>.symm
      obtain rfl : fn = Tryz.f4 := (Option.some.inj (Tryz.func4.symm.trans hfn)).symm
      exact ⟨by kernel_rfl, fun j t ht => by
        rw [Tryz.params4] at ht
        have hm : t ∈ [28, 28, 28] := by simpa using Array.mem_of_getElem? ht
        have hall : ([28, 28, 28].all fun u => !Tryz.prog.wantsStandIn u) = true := by kernel_rfl
        exact (show Tryz.prog.wantsStandIn t = false by simpa using List.all_eq_true.1 hall t hm)⟩)
    (by kernel_rfl)
end Go.Proofs.YtajecapgmdfjcaaGreatDoor
