/- exact, floats: the logarithm of the size of a number that is not 0. -/
import Derived.Test.YtgabigepocfllaaGreatDoorP27
namespace Go.Proofs.YtgabigepocfllaaGreatDoor
open Go.RowKit Vn
set_option maxRecDepth 100000
set_option maxHeartbeats 8000000
theorem absQ_parts (q:Rat):(absQ q).num.natAbs=q.num.natAbs∧(absQ q).den=q.den:=by
 rw [absQ_eq];split
 ·simp [Rat.neg_num,Rat.neg_den]
 ·exact ⟨rfl,rfl⟩
theorem cmpQ_self (q:Rat):cmpQ q q=0:=by
 have:¬ q<q:=Rat.lt_irrefl
 simp [cmpQ,this]
theorem sign_neg {q:Rat}:q.num.sign<0↔q<0:=by
 rw [Int.sign_neg_iff];exact num_neg_iff
theorem cmpQ_lt {q r:Rat}:cmpQ q r<0↔q<r:=by
 unfold cmpQ
 split
 ·rename_i h;exact ⟨fun _=>h,fun _=>by decide⟩
 ·rename_i h
  split
  ·exact ⟨fun k=>absurd k (by decide),fun k=>absurd k h⟩
  ·exact ⟨fun k=>absurd k (by decide),fun k=>absurd k h⟩
theorem cmpQ_gt {q r:Rat}:0<cmpQ q r↔r<q:=by
 unfold cmpQ
 split
 ·rename_i h;exact ⟨fun k=>absurd k (by decide),fun k=>absurd k (by grind)⟩
 ·split
  ·rename_i h1 h;exact ⟨fun _=>h,fun _=>by decide⟩
  ·rename_i h1 h;exact ⟨fun k=>absurd k (by decide),fun k=>absurd k h⟩
end Go.Proofs.YtgabigepocfllaaGreatDoor
