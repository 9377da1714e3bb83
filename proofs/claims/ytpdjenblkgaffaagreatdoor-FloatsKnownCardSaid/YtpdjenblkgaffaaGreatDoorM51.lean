/- What the laws' walks share: the law returns true; numbers held against each other. -/
import Derived.Test.YtpdjenblkgaffaaGreatDoorM18
import Derived.Test.YtpdjenblkgaffaaGreatDoorM34
namespace Go.Proofs.YtpdjenblkgaffaaGreatDoor
open Go.RowKit Vn

def TruePost (w : World) (e : Ending) (w' : World) : Prop := e = .returned (.bool true) ∧ Ext w w'
theorem cmpQ_not {q r : Rat} (h : ¬ 0 < cmpQ q r) : q ≤ r := by
  unfold cmpQ at h
  split at h
  · rename_i k; exact Rat.le_of_lt k
  · split at h
    · omega
    · rename_i k; exact Rat.not_lt.1 k
theorem cmpQ_self (q : Rat) : cmpQ q q = 0 := by
  have : ¬ q < q := Rat.lt_irrefl
  simp [cmpQ, this]
theorem sign_neg {q : Rat} : q.num.sign < 0 ↔ q < 0 := by
  rw [Int.sign_neg_iff]; exact num_neg_iff
end Go.Proofs.YtpdjenblkgaffaaGreatDoor
