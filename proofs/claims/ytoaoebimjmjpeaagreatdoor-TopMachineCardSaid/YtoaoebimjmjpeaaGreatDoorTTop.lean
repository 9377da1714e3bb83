/- TopMachine (verniertop): for every input the law returns true and its argument reads afterwards as it read before; the listed package variables hold what the program's text lays. -/
import Derived.Test.YtoaoebimjmjpeaaGreatDoorT52
namespace Go.Proofs.YtoaoebimjmjpeaaGreatDoor
open Go.ChangeShapes Go.WideShapes Go.ChangeAt Go.RowKit Vn
theorem topMachineCard_holds : Rows.TopMachineCardSaid :=
  Claim7.holds_tied_plain_at .later [] [.data, .data, .data, .data, .data, .data, .data, .widerDeep, .data, .pinned] true (true, "6093890f4f2989376c294491fe2acf3ee9f753fa2a21372b32bd4c83d1fbb09e") true
    topMachine_holds (fun _ h => by cases h) card_wf (fun _ h => by cases h) topMachine_row_tie rfl ⟨rfl, rfl⟩ card_main rfl
    (fun f fn hf hfn => by
      obtain rfl : f = 4 := Option.some.inj (card_func.symm.trans hf) |>.symm
      obtain rfl : fn = Tryz.f4 := (Option.some.inj (Tryz.func4.symm.trans hfn)).symm
      exact ⟨card_looks, fun j t ht => by
        rw [Tryz.params4] at ht
        have hm : t ∈ [63] := by simpa using Array.mem_of_getElem? ht
        exact (show Tryz.prog.wantsStandIn t = false by simpa using List.all_eq_true.1 card_stand t hm)⟩)
    card_goes
end Go.Proofs.YtoaoebimjmjpeaaGreatDoor
