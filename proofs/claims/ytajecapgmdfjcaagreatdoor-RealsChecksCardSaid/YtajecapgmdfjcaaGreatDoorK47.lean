/- The reference's texts: the parts of whatever text. -/
import Derived.Lib.CutLaws
import Derived.Test.YtajecapgmdfjcaaGreatDoorK32
namespace Go.Proofs.YtajecapgmdfjcaaGreatDoor
open Go.RowKit Vn
theorem pre47 (b : UInt8) (l : List UInt8) : [47].isPrefixOf (b :: l) = (47 == b) := by simp [List.isPrefixOf]
theorem idx_hit : ∀ {l : List UInt8} {k : Nat} (h : k < l.length), (∀ j (hj : j < l.length), j < k → l[j] ≠ 47) → l[k] = 47 → Lib.index l [47] = k
 | [], _, h, _, _ => by simp at h
 | b :: l, 0, _, _, h2 => by
  have h2 : b = 47 := h2
  subst h2; rfl
 | b :: l, k + 1, h, h1, h2 => by
  have hb : b ≠ 47 := h1 0 (by simp) (by omega)
  have ih := idx_hit (l := l) (k := k) (by simpa using h) (fun j hj hk => h1 (j + 1) (by simpa using hj) (by omega)) h2
  unfold Lib.index
  rw [pre47, ih, show ((47 : UInt8) == b) = false from beq_eq_false_iff_ne.2 (fun e => hb e.symm), show (((k : Nat) : Int) == -1) = false from beq_eq_false_iff_ne.2 (by omega)]
  simp
theorem idx_miss : ∀ {l : List UInt8}, (∀ j (hj : j < l.length), l[j] ≠ 47) → Lib.index l [47] = -1
 | [], _ => rfl
 | b :: l, h1 => by
  have hb : b ≠ 47 := h1 0 (by simp)
  have ih := idx_miss (l := l) (fun j hj => h1 (j + 1) (by simpa using hj))
  unfold Lib.index
  rw [pre47, ih, show ((47 : UInt8) == b) = false from beq_eq_false_iff_ne.2 (fun e => hb e.symm)]
  rfl
theorem u8_int {b c : UInt8} : ((b.toNat : Int) = (c.toNat : Int)) ↔ b = c := ⟨fun h => UInt8.toNat_inj.1 (by omega), fun h => by rw [h]⟩
theorem bytes_ext {S : ByteArray} {l : List UInt8} (h : S.data.toList = l) : S = ba l := by
 apply ByteArray.ext
 show S.data = l.toArray
 rw [← h]
def RowsR (l : List UInt8) (X Y : ByteArray) (Z : Bool) : Prop := X = ba (pCut l).1 ∧ Y = (if (pCut l).2.2 = true then ba (pCut l).2.1 else ⟨#[49]⟩) ∧ Z = !parseBad (pNeg l) (pCut l).2.2 (pCut l).1 (pCut l).2.1
theorem rows_hit {l : List UInt8} {T : ByteArray} {k : Nat} (hT : T = ba (Lib.trimPrefix l [45])) (h : k < T.data.toList.length) (h1 : ∀ j (hj : j < T.data.toList.length), j < k → T.data.toList[j] ≠ 47) (h2 : T.data.toList[k] = 47) :
  ba (pCut l).1 = T.extract 0 k ∧ ba (pCut l).2.1 = T.extract (k + 1) T.size ∧ (pCut l).2.2 = true := by
 have := Lib.cutB_hit T ⟨#[47]⟩ k (idx_hit h h1 h2)
 subst hT
 exact this
theorem rows_miss {l : List UInt8} {T : ByteArray} (hT : T = ba (Lib.trimPrefix l [45])) (h1 : ∀ j (hj : j < T.data.toList.length), T.data.toList[j] ≠ 47) :
  ba (pCut l).1 = T ∧ (pCut l).2.1 = [] ∧ (pCut l).2.2 = false := by
 have h0 := idx_miss h1
 subst hT
 have e : pCut l = (Lib.trimPrefix l [45], [], false) := by
  have h0 : Lib.index (Lib.trimPrefix l [45]) [47] = -1 := h0
  unfold pCut Lib.cut
  rw [h0]; rfl
 rw [e]; exact ⟨rfl, rfl, rfl⟩
theorem bad_hit {l : List UInt8} {neg : Bool} {U V : ByteArray} (hn : pNeg l = neg) (hU : ba (pCut l).1 = U) (hV : ba (pCut l).2.1 = V) (hb : (pCut l).2.2 = true) :
  parseBad (pNeg l) (pCut l).2.2 (pCut l).1 (pCut l).2.1 = (!rowB U.data.toList || (neg && U.data.toList == [48]) || (!rowB V.data.toList || V.data.toList == [48] || V.data.toList == [49])) := by
 subst hn hU hV
 unfold parseBad
 rw [hb, Bool.true_and]; rfl
theorem bad_miss {l : List UInt8} {neg : Bool} {T : ByteArray} (hn : pNeg l = neg) (hT : ba (pCut l).1 = T) (hb : (pCut l).2.2 = false) :
  parseBad (pNeg l) (pCut l).2.2 (pCut l).1 (pCut l).2.1 = (!rowB T.data.toList || (neg && T.data.toList == [48])) := by
 subst hn hT
 unfold parseBad
 rw [hb, Bool.false_and, Bool.or_false]; rfl
end Go.Proofs.YtajecapgmdfjcaaGreatDoor
