/- The reference's numbers: Log, Int64. -/
import Derived.Test.YtoaoebimjmjpeaaGreatDoorT46
import Derived.Test.YtoaoebimjmjpeaaGreatDoorT44
namespace Go.Proofs.YtoaoebimjmjpeaaGreatDoor
open Go.RowKit Vn
set_option maxRecDepth 100000
set_option maxHeartbeats 8000000
theorem Sm.bl {K n:Nat} (h:Sm K n):bl n≤K:=bl_le_of_lt h
theorem dv_drop_le (B:Nat) (hB:0<B) (l:List Nat) (k:Nat) (h:k≤l.length):dv B (l.drop k)≤dv B l:=by
 rw [dv_take_drop B l k h];have h1:1*dv B (l.drop k)≤B^k*dv B (l.drop k):=Nat.mul_le_mul_right _ (Nat.pow_pos hB)
 omega
def TopI (s:Int) (l:List Nat) (k:Nat):Int:=s*(dv 1000000000 (l.drop k):Nat)
theorem TopI.step {s:Int} {l:List Nat} {j:Nat} (h:j<l.length):1000000000*TopI s l (j+1)+s*((l.getD j 0:Nat):Int)=TopI s l j:=by
 unfold TopI;rw [dv_drop 1000000000 l j h,Int.natCast_add,Int.natCast_mul,Int.mul_add,Int.mul_left_comm]
 exact Int.add_comm _ _
theorem TopI.range {s N:Int} {l:List Nat} (hs:s=1∨s = -1) (hN:N=s*(dv 1000000000 l:Nat)) (h0 : -9223372036854775808≤N) (h1:N<9223372036854775808) {j:Nat} (h:j≤l.length) : -9223372036854775808≤TopI s l j∧TopI s l j<9223372036854775808:=by
 have h2:=dv_drop_le 1000000000 (by decide) l j h;unfold TopI
 rcases hs with rfl | rfl<;>omega
theorem TopI.mid {s N:Int} {l:List Nat} (hs:s=1∨s = -1) (hN:N=s*(dv 1000000000 l:Nat)) (h0 : -9223372036854775808≤N) (h1:N<9223372036854775808) {j:Nat} (h:j<l.length) : -9223372036854775808≤1000000000*TopI s l (j+1)∧1000000000*TopI s l (j+1)<9223372036854775808:=by
 have h2:=TopI.range hs hN h0 h1 (Nat.le_of_lt h);have h3:=TopI.step (s:=s) h;have h4:=dv_drop 1000000000 l j h;unfold TopI at *
 rcases hs with rfl | rfl<;>omega


end Go.Proofs.YtoaoebimjmjpeaaGreatDoor
