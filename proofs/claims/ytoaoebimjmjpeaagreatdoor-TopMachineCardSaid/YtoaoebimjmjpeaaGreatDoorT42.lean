/- floats: round. -/
import Derived.Test.YtoaoebimjmjpeaaGreatDoorT41
namespace Go.Proofs.YtoaoebimjmjpeaaGreatDoor
open Go.RowKit Vn
set_option maxRecDepth 100000
set_option maxHeartbeats 8000000
def rdF (b:Nat) (l:Int):Nat:=(max (l+b-1) 0).toNat
def rdK (P b:Nat) (l:Int):Int:=2-(b:Int)-P+rdF b l
def rdT (P b:Nat) (l:Int) (q:Rat):Rat:=absQ q*(2:Rat)^(-(rdK P b l))
def rdN (P b:Nat) (l:Int) (q:Rat):Nat:=(rdT P b l q).floor.toNat
def roundR (E P b m:Nat) (q:Rat) (l:Int):Nat×Nat :=
 endR E P b m (decide (q.num<0)) (rdN P b l q) (rdF b l) (decide ((rdT P b l q).den=1)) (cmpQ ((rdT P b l q-(rdN P b l q:Nat))*2) 1) (decide (l<1-(b:Int)))
theorem rdT_nonneg (P b:Nat) (l:Int) (q:Rat):0≤rdT P b l q:=by
 unfold rdT;have h1:=p2_pos (-(rdK P b l));have h2:0≤absQ q:=by
  rw [absQ_eq];split
  ·rename_i h;have:=num_neg_iff.1 h;grind
  ·rename_i h;exact Rat.num_nonneg.1 (by omega)
 have:=Rat.mul_nonneg h2 (Rat.le_of_lt h1)
 exact this
theorem rdN_floor (P b:Nat) (l:Int) (q:Rat):(rdT P b l q).floor=((rdN P b l q:Nat):Int):=by
 unfold rdN
 have:0≤(rdT P b l q).floor:=by rw [Rat.le_floor_iff];exact rdT_nonneg P b l q
 omega
theorem rdN_lt {P b:Nat} {l:Int} {q:Rat} (h:IsLog (absQ q) l):rdN P b l q<2^P:=by
 have h1:rdT P b l q<(2:Rat)^(P:Int):=by
  unfold rdT;have h2:absQ q*(2:Rat)^(-(rdK P b l))<(2:Rat)^(l+1)*(2:Rat)^(-(rdK P b l)):=(Rat.mul_lt_mul_right (p2_pos _)).2 h.2;rw [←p2_add] at h2;have h3:(2:Rat)^(l+1 + -(rdK P b l))≤(2:Rat)^(P:Int):=p2_mono (by unfold rdK rdF;omega)
  grind
 have h2:(rdT P b l q).floor<((2^P:Nat):Int):=by
  rw [Rat.floor_lt_iff];rw [p2_nat] at h1
  exact h1
 rw [rdN_floor] at h2
 omega
theorem rdN_ge {P b:Nat} {l:Int} {q:Rat} (hP:1≤P) (h:IsLog (absQ q) l):rdF b l=0∨2^(P-1)≤rdN P b l q:=by
 rcases Nat.eq_zero_or_pos (rdF b l) with h0 | h0
 ·exact .inl h0
 ·right
  have h1:(2:Rat)^(((P-1:Nat):Int))≤rdT P b l q:=by
   unfold rdT;have h2:(2:Rat)^l*(2:Rat)^(-(rdK P b l))≤absQ q*(2:Rat)^(-(rdK P b l)):=Rat.mul_le_mul_of_nonneg_right h.1 (Rat.le_of_lt (p2_pos _));rw [←p2_add] at h2;have h3:((P-1:Nat):Int)=l + -(rdK P b l):=by unfold rdK;unfold rdF at *;omega
   rw [h3];exact h2
  have h2:((2^(P-1):Nat):Int)≤(rdT P b l q).floor:=by
   rw [Rat.le_floor_iff];rw [p2_nat] at h1
   exact h1
  rw [rdN_floor] at h2
  omega
theorem sign_neg {q:Rat}:q.num.sign<0↔q<0:=by
 rw [Int.sign_neg_iff];exact num_neg_iff

end Go.Proofs.YtoaoebimjmjpeaaGreatDoor
