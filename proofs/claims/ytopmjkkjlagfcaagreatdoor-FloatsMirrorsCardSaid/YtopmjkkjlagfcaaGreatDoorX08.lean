/- What the library's functions on bits return. -/
import Derived.Lib.BitFns
import Derived.Test.YtopmjkkjlagfcaaGreatDoorX04
import Derived.Test.YtopmjkkjlagfcaaGreatDoorX07
namespace Go.Proofs.YtopmjkkjlagfcaaGreatDoor
open Go.RowKit Vn
set_option maxRecDepth 100000
set_option maxHeartbeats 8000000
theorem bitLenAux_eq:∀ (k x:Nat),x<2^k→Lib.bitLenAux k x=bl x:=by
 intro k
 induction k with
 | zero=>intro x hx;have h0:x=0:=(by simpa using hx);subst h0;rfl
 | succ k ih =>
  intro x hx
  rcases Nat.eq_zero_or_pos x with h0 | h0
  ·subst h0;simp [Lib.bitLenAux,bl_zero]
  ·have h1:=ih (x/2) (by rw [Nat.pow_succ] at hx;omega);have h2:bl x=bl (x/2)+1:=by
    rcases Nat.eq_zero_or_pos (x/2) with h3 | h3
    ·have:x=1:=by omega
     subst this;rfl
    ·have a1:=bl_lt (x/2);have a2:=bl_le h3;have a3:=bl_pos h3
     have:=bl_unique (n:=x) (k:=bl (x/2)) (by
      have:2^bl (x/2)=2^(bl (x/2)-1)*2:=by rw [←Nat.pow_succ];congr 1;omega
      omega) (by rw [Nat.pow_succ];omega)
     omega
   simp only [Lib.bitLenAux];rw [if_neg (by omega),h1,h2];omega
theorem len32_c (d:Nat) (w:World) (h1:d<4294967296) :
  Calls Tryz.prog 224 #[.int .u32 d] w fun e w'=>e=.returned (.int .i64 (bl d))∧Ext w w':=by
 refine (Tryz.bits_Len32 d w (by omega) (by omega)).mono ?_;rintro e w' ⟨rfl,rfl⟩;refine ⟨?_,Below.refl _ _⟩;rw [Int.toNat_natCast];unfold Lib.bitLen;rw [bitLenAux_eq 64 d (by omega)]
theorem lz32_c (d:Nat) (w:World) (h0:0<d) (h1:d<4294967296) :
  Calls Tryz.prog 199 #[.int .u32 d] w fun e w'=>∃ L:Nat,e=.returned (.int .i64 L)∧L<32∧2147483648≤d*2^L∧d*2^L<4294967296∧Ext w w':=by
 refine (Tryz.bits_LeadingZeros32 d w (by omega) (by omega)).mono ?_;rintro e w' ⟨rfl,rfl⟩;rw [Int.toNat_natCast];unfold Lib.bitLen;rw [bitLenAux_eq 64 d (by omega)];have a1:=bl_lt d;have a2:=bl_le h0;have a3:=bl_pos h0;have a4:bl d≤32:=bl_le_of_lt h1;refine ⟨32-bl d,?_,by omega,?_,?_,Below.refl _ _⟩
 ·have:(32-(bl d:Int))=((32-bl d:Nat):Int):=by omega
  rw [this]
 ·have:=Nat.mul_le_mul_right (2^(32-bl d)) a2
  rw [←Nat.pow_add,show bl d-1+(32-bl d)=31 by omega] at this
  exact this
 ·have:=Nat.mul_lt_mul_of_pos_right a1 (show 0<2^(32-bl d) from Nat.pow_pos (by decide))
  rw [←Nat.pow_add,show bl d+(32-bl d)=32 by omega] at this
  exact this
end Go.Proofs.YtopmjkkjlagfcaaGreatDoor
