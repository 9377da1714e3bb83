/-
 THE SHELF AT THIS DUMP, the part on bits (the kit's printer wrote it).
-/
import Derived.Shelf.Small.Bits
import Derived.Shelf.Small.Wraps
import Derived.Test.YtopmjkkjlagfcaaGreatDoorProg
import Derived.Lib.BitFns
import Derived.Test.YtopmjkkjlagfcaaGreatDoorW04
import Derived.Test.YtopmjkkjlagfcaaGreatDoorW03
namespace Go.Proofs
open Go.Shelf
def Tryz.lays128_ren : Go.Shelf.Ren := ⟨fun | 128 => 224 | n => n, fun | 3 => 3 | 4 => 4 | 5 => 5 | 9 => 9 | 46 => 152 | 51 => 171 | n => n, fun  | n => n⟩
theorem Tryz.lays128 : Go.Proofs.Lays.n128 Tryz.prog Tryz.lays128_ren := {
 mixed := by kernel_rfl
 f128 := Tryz.func224.trans (congrArg some (by kernel_rfl))
 t3 := Tryz.underlying3
 a3 := Tryz.isAgg3
 z3 := Tryz.sizeOf3
 v3 := Tryz.zeroValue3
 t4 := Tryz.underlying4
 a4 := Tryz.isAgg4
 z4 := Tryz.sizeOf4
 v4 := Tryz.zeroValue4
 t5 := Tryz.underlying5
 a5 := Tryz.isAgg5
 z5 := Tryz.sizeOf5
 v5 := Tryz.zeroValue5
 t9 := Tryz.underlying9
 a9 := Tryz.isAgg9
 z9 := Tryz.sizeOf9
 v9 := Tryz.zeroValue9
 t46 := Tryz.underlying152
 a46 := Tryz.isAgg152
 z46 := Tryz.sizeOf152
 v46 := Tryz.zeroValue152
 t51 := Tryz.underlying171
 a51 := Tryz.isAgg171
 z51 := Tryz.sizeOf171
 v51 := Tryz.zeroValue171 }
theorem Tryz.bits_Len32 (x : Int) (w : World) (h0 : 0 ≤ x) (h1 : x ≤ 4294967295) :
  Calls Tryz.prog 224 #[.int .u32 x] w fun e w' => e = .returned (.int .i64 (Lib.bitLen x.toNat)) ∧ w' = w := Any.bits_Len32 Tryz.lays128 x w h0 h1
def Tryz.lays133_ren : Go.Shelf.Ren := ⟨fun | 128 => 224 | 133 => 199 | n => n, fun | 3 => 3 | 4 => 4 | 5 => 5 | 9 => 9 | 46 => 152 | 51 => 171 | n => n, fun  | n => n⟩
theorem Tryz.lays133 : Go.Proofs.Lays.n133 Tryz.prog Tryz.lays133_ren := {
 mixed := by kernel_rfl
 f128 := Tryz.func224.trans (congrArg some (by kernel_rfl))
 f133 := Tryz.func199.trans (congrArg some (by kernel_rfl))
 t3 := Tryz.underlying3
 a3 := Tryz.isAgg3
 z3 := Tryz.sizeOf3
 v3 := Tryz.zeroValue3
 t4 := Tryz.underlying4
 a4 := Tryz.isAgg4
 z4 := Tryz.sizeOf4
 v4 := Tryz.zeroValue4
 t5 := Tryz.underlying5
 a5 := Tryz.isAgg5
 z5 := Tryz.sizeOf5
 v5 := Tryz.zeroValue5
 t9 := Tryz.underlying9
 a9 := Tryz.isAgg9
 z9 := Tryz.sizeOf9
 v9 := Tryz.zeroValue9
 t46 := Tryz.underlying152
 a46 := Tryz.isAgg152
 z46 := Tryz.sizeOf152
 v46 := Tryz.zeroValue152
 t51 := Tryz.underlying171
 a51 := Tryz.isAgg171
 z51 := Tryz.sizeOf171
 v51 := Tryz.zeroValue171 }
theorem Tryz.bits_LeadingZeros32 (x : Int) (w : World) (h0 : 0 ≤ x) (h1 : x ≤ 4294967295) :
  Calls Tryz.prog 199 #[.int .u32 x] w fun e w' => e = .returned (.int .i64 (32 - (Lib.bitLen x.toNat : Int))) ∧ w' = w := Any.bits_LeadingZeros32 Tryz.lays133 x w h0 h1
def Tryz.lays129_ren : Go.Shelf.Ren := ⟨fun | 129 => 181 | n => n, fun | 3 => 3 | 4 => 4 | 5 => 5 | 9 => 9 | 46 => 152 | 53 => 27 | n => n, fun  | n => n⟩
theorem Tryz.lays129 : Go.Proofs.Lays.n129 Tryz.prog Tryz.lays129_ren := {
 mixed := by kernel_rfl
 f129 := Tryz.func181.trans (congrArg some (by kernel_rfl))
 t3 := Tryz.underlying3
 a3 := Tryz.isAgg3
 z3 := Tryz.sizeOf3
 v3 := Tryz.zeroValue3
 t4 := Tryz.underlying4
 a4 := Tryz.isAgg4
 z4 := Tryz.sizeOf4
 v4 := Tryz.zeroValue4
 t5 := Tryz.underlying5
 a5 := Tryz.isAgg5
 z5 := Tryz.sizeOf5
 v5 := Tryz.zeroValue5
 t9 := Tryz.underlying9
 a9 := Tryz.isAgg9
 z9 := Tryz.sizeOf9
 v9 := Tryz.zeroValue9
 t46 := Tryz.underlying152
 a46 := Tryz.isAgg152
 z46 := Tryz.sizeOf152
 v46 := Tryz.zeroValue152
 t53 := Tryz.underlying27
 a53 := Tryz.isAgg27
 z53 := Tryz.sizeOf27
 v53 := Tryz.zeroValue27 }
theorem Tryz.bits_Len64 (x : Int) (w : World) (h0 : 0 ≤ x) (h1 : x ≤ 18446744073709551615) :
  Calls Tryz.prog 181 #[.int .u64 x] w fun e w' => e = .returned (.int .i64 (Lib.bitLen x.toNat)) ∧ w' = w := Any.bits_Len64 Tryz.lays129 x w h0 h1
end Go.Proofs

/- What the library's functions on bits return. -/
namespace Go.Proofs.YtopmjkkjlagfcaaGreatDoor
open Go.RowKit Vn
theorem bitLenAux_eq : ∀ (k x : Nat), x < 2 ^ k → Lib.bitLenAux k x = bl x := by
 intro k
 induction k with
 | zero => intro x hx; have h0 : x = 0 := (by simpa using hx); subst h0; rfl
 | succ k ih =>
  intro x hx
  rcases Nat.eq_zero_or_pos x with h0 | h0
  ·subst h0; simp [Lib.bitLenAux, bl_zero]
  ·have h1 := ih (x / 2) (by rw [Nat.pow_succ] at hx; omega)
   have h2 : bl x = bl (x / 2) + 1 := by
    rcases Nat.eq_zero_or_pos (x / 2) with h3 | h3
    ·have : x = 1 := by omega
     subst this; rfl
    ·have a1 := bl_lt (x / 2)
     have a2 := bl_le h3
     have a3 := bl_pos h3
     have := bl_unique (n := x) (k := bl (x / 2)) (by
      have : 2 ^ bl (x / 2) = 2 ^ (bl (x / 2) - 1) * 2 := by rw [← Nat.pow_succ]; congr 1; omega
      omega) (by rw [Nat.pow_succ]; omega)
     omega
   simp only [Lib.bitLenAux]
   rw [if_neg (by omega), h1, h2]; omega
theorem len32_c (d : Nat) (w : World) (h1 : d < 4294967296) :
  Calls Tryz.prog 224 #[.int .u32 d] w fun e w' => e = .returned (.int .i64 (bl d)) ∧ Ext w w' := by
 refine (Tryz.bits_Len32 d w (by omega) (by omega)).mono ?_
 rintro e w' ⟨rfl, rfl⟩
 refine ⟨?_, Below.refl _ _⟩
 rw [Int.toNat_natCast]; unfold Lib.bitLen
 rw [bitLenAux_eq 64 d (by omega)]
theorem lz32_c (d : Nat) (w : World) (h0 : 0 < d) (h1 : d < 4294967296) :
  Calls Tryz.prog 199 #[.int .u32 d] w fun e w' => ∃ L : Nat, e = .returned (.int .i64 L) ∧ L < 32 ∧ 2147483648 ≤ d * 2 ^ L ∧ d * 2 ^ L < 4294967296 ∧ Ext w w' := by
 refine (Tryz.bits_LeadingZeros32 d w (by omega) (by omega)).mono ?_
 rintro e w' ⟨rfl, rfl⟩
 rw [Int.toNat_natCast]; unfold Lib.bitLen
 rw [bitLenAux_eq 64 d (by omega)]
 have a1 := bl_lt d
 have a2 := bl_le h0
 have a3 := bl_pos h0
 have a4 : bl d ≤ 32 := bl_le_of_lt h1
 refine ⟨32 - bl d, ?_, by omega, ?_, ?_, Below.refl _ _⟩
 ·have : (32 - (bl d : Int)) = ((32 - bl d : Nat) : Int) := by omega
  rw [this]
 ·have := Nat.mul_le_mul_right (2 ^ (32 - bl d)) a2
  rw [← Nat.pow_add, show bl d - 1 + (32 - bl d) = 31 by omega] at this
  exact this
 ·have := Nat.mul_lt_mul_of_pos_right a1 (show 0 < 2 ^ (32 - bl d) from Nat.pow_pos (by decide))
  rw [← Nat.pow_add, show bl d + (32 - bl d) = 32 by omega] at this
  exact this
end Go.Proofs.YtopmjkkjlagfcaaGreatDoor
