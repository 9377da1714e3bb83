/- FloatsRounds (vernierlaw02): for every input the law returns true and its arguments read afterwards as they read before; the listed package variables hold what the program's text lays. -/
import Derived.SevenTiedAt
import Derived.Test.YtgabigepocfllaaGreatDoorCards
import Derived.Test.YtgabigepocfllaaGreatDoorTie
import Derived.Test.YtgabigepocfllaaGreatDoorQ54
import Derived.Test.YtgabigepocfllaaGreatDoorQ55
namespace Go.Proofs.YtgabigepocfllaaGreatDoor
open Go.ChangeShapes Go.WideShapes Go.ChangeAt Go.RowKit Vn

theorem floatsRounds_holds : Rows.FloatsRoundsSaid :=
  OpenClaim.holds_of_wide 7 Tryz.f7 rfl rfl rfl rfl rfl rfl rfl ⟨rfl, rfl, rfl, rfl, rfl⟩ rfl rfl rfl rfl rfl (by kernel_rfl) Tryz.func7 law_facts
    (of_decide_eq_true (by kernel_rfl)) (by unfold Func.isWrapper; first | (rw [if_pos (by decide +kernel)]; kernel_rfl) | (rw [if_neg (by decide +kernel)]; exact ⟨rfl, rfl⟩))
    (fun os started H enc _ => law_lifted os started H enc)

theorem floatsRoundsCard_holds : Rows.FloatsRoundsCardSaid :=
  Claim7.holds_tied_plain_at .later [] [.data, .data, .data, .data, .data, .pinned] true (true, "0581c62d347277d94843a9787945c15b355f1b16ad76f7507559e623acae87c6") false
    floatsRounds_holds (fun _ h => by cases h) (by kernel_rfl) (fun _ h => by cases h) floatsRounds_row_tie rfl ⟨rfl, rfl⟩ (by kernel_rfl) rfl
    (fun f fn hf hfn => by
      obtain rfl : f = 7 := Option.some.inj ((show Tryz.prog.funcNamed "vernier/vernierlaw02.FloatsRounds" = some 7 by kernel_rfl).symm.trans hf) |>.symm
      obtain rfl : fn = Tryz.f7 := (Option.some.inj (Tryz.func7.symm.trans hfn)).symm
      exact ⟨by kernel_rfl, fun j t ht => by
        rw [Tryz.params7] at ht
        have hm : t ∈ [36] := by simpa using Array.mem_of_getElem? ht
        have hall : ([36].all fun u => !Tryz.prog.wantsStandIn u) = true := by kernel_rfl
        exact (show Tryz.prog.wantsStandIn t = false by simpa using List.all_eq_true.1 hall t hm)⟩)
    (by kernel_rfl)
end Go.Proofs.YtgabigepocfllaaGreatDoor
