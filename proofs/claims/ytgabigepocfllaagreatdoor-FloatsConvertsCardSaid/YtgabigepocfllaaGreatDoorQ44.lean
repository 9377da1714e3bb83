/- FloatsConverts: the law of an operation's cells. -/
import Derived.Test.YtgabigepocfllaaGreatDoorQ43
namespace Go.Proofs.YtgabigepocfllaaGreatDoor
open Go.RowKit Vn
set_option maxRecDepth 100000
set_option maxHeartbeats 8000000
theorem cConvertsL {E P M E' P':Int} {i0 i1 j0 j1:Nat} {c0 c1:Int} (hi0:i0<18446744073709551616) (hi1:i1<18446744073709551616) (_hj0:j0<18446744073709551616) (_hj1:j1<18446744073709551616) :
  Cal Tryz.prog OQ 6 ([.m [.int .i64 E,.int .i64 P,.int .i64 M,.int .u64 (i0:Nat),.int .u64 (i1:Nat),.int .u64 (j0:Nat),.int .u64 (j1:Nat),.int .u64 c0,.int .u64 c1],.m [.int .i64 E',.int .i64 P']].map Arg.av) (bA true):=by
 have hi:=w_cells hi0 hi1;have h:=cConverts (E:=E) (P:=P) (E':=E') (P':=P') (M:=M) (b0:=(j0:Nat)) (b1:=(j1:Nat)) (c0:=c0) (c1:=c1) hi.1;unfold opC3 at h;rw [hi.2] at h
 exact h
end Go.Proofs.YtgabigepocfllaaGreatDoor
