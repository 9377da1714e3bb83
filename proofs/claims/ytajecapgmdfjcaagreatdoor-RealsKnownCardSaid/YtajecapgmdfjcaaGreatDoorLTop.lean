/- RealsKnown (vernierlaw03): the law, which takes no input, returns true; the listed package variables hold what the program's text lays. -/
import Derived.SevenTiedAt
import Derived.Test.YtajecapgmdfjcaaGreatDoorCards
import Derived.Test.YtajecapgmdfjcaaGreatDoorTie
import Derived.Test.YtajecapgmdfjcaaGreatDoorL51
import Derived.Test.YtajecapgmdfjcaaGreatDoorL52
namespace Go.Proofs.YtajecapgmdfjcaaGreatDoor
open Go.ChangeShapes Go.WideShapes Go.ChangeAt Go.RowKit Vn

theorem realsKnown_holds : Rows.RealsKnownSaid :=
  OpenClaim.holds_of_wide 5 Tryz.f5 rfl rfl rfl rfl rfl rfl rfl ⟨rfl, rfl, rfl, rfl, rfl⟩ rfl rfl rfl rfl rfl (by kernel_rfl) Tryz.func5 law_facts
    (of_decide_eq_true (by kernel_rfl)) (by unfold Func.isWrapper; first | (rw [if_pos (by decide +kernel)]; kernel_rfl) | (rw [if_neg (by decide +kernel)]; exact ⟨rfl, rfl⟩))
    (fun os started H enc _ => law_lifted os started H enc)

theorem realsKnownCard_holds : Rows.RealsKnownCardSaid :=
  Claim7.holds_tied_plain_at .later [] [.data, .data, .data, .data, .data, .data, .pinned] true (true, "d0562e1b0cd334a5a8c1f26f5a3855255e0f61c6e02ac6783dddcce2840b1304") false
    realsKnown_holds (fun _ h => by cases h) (by kernel_rfl) (fun _ h => by cases h) realsKnown_row_tie rfl ⟨rfl, rfl⟩ (by kernel_rfl) rfl
    (fun f fn hf hfn => by
      obtain rfl : f = 5 := Option.some.inj ((show Tryz.prog.funcNamed "vernier/vernierlaw03.RealsKnown" = some 5 by kernel_rfl).symm.trans hf) |>.symm
      obtain rfl : fn = Tryz.f5 := (Option.some.inj (Tryz.func5.symm.trans hfn)).symm
      exact ⟨by kernel_rfl, fun j t ht => by
        rw [Tryz.params5] at ht
        simp at ht⟩)
    (by kernel_rfl)
end Go.Proofs.YtajecapgmdfjcaaGreatDoor
