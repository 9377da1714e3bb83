/- Plain: decimal digits in groups of nine. -/
import Derived.Lib.ItoaNum
namespace Go.Proofs.YtgabigepocfllaaGreatDoor
set_option maxRecDepth 100000
set_option maxHeartbeats 8000000
def padk:Nat→Nat→List UInt8
 | 0,_=>[]
 | k+1,r=>padk k (r/10)++[UInt8.ofNat (48+r%10)]
theorem dec_big {n:Nat} (h:¬ n<10):Lib.decDigits n=Lib.decDigits (n/10)++[UInt8.ofNat (48+n%10)]:=by
 rw [Lib.decDigits,dif_neg h]
theorem dec_split:∀ (k m r:Nat),0<m→r<10^k→Lib.decDigits (m*10^k+r)=Lib.decDigits m++padk k r
 | 0,m,r,_,hr=>by
  have:r=0:=by omega
  subst this
  simp [padk]
 | k+1,m,r,hm,hr=>by
  have e1:m*10^(k+1)=m*10^k*10:=by rw [Nat.pow_succ,Nat.mul_assoc]
  have h10:1≤m*10^k:=Nat.mul_pos hm (Nat.pow_pos (by decide));have e2:(m*10^(k+1)+r)/10=m*10^k+r/10:=by omega
  have e3:(m*10^(k+1)+r)%10=r%10:=by omega
  have hr2:r/10<10^k:=by rw [Nat.pow_succ] at hr;omega
  rw [dec_big (by omega),e2,e3,dec_split k m (r/10) hm hr2,padk,List.append_assoc]
theorem padk_zero:∀ k,padk k 0=List.replicate k 48
 | 0=>rfl
 | k+1=>by
  rw [padk,Nat.zero_div,padk_zero k,List.replicate_succ']
  rfl
theorem padk_eq:∀ (k r:Nat),1≤k→r<10^k→padk k r=List.replicate (k-(Lib.decDigits r).length) 48++Lib.decDigits r
 | 0,_,h,_=>by omega
 | k+1,r,_,hr=>by
  by_cases h:r<10
  ·rw [padk,show r/10=0 by omega,padk_zero,Lib.decDigits_one h,Nat.mod_eq_of_lt h]
   simp
  ·have hr2:r/10<10^k:=by rw [Nat.pow_succ] at hr;omega
   have hk:1≤k:=by
    rcases Nat.eq_zero_or_pos k with e | e
    ·subst e;omega
    ·exact e
   rw [padk,padk_eq k (r/10) hk hr2,dec_big h];rw [List.length_append,List.length_singleton,Nat.add_sub_add_right,List.append_assoc]
theorem dec_len_pow {r k:Nat} (hk:1≤k) (hr:r<10^k):(Lib.decDigits r).length≤k:=by
 rw [Lib.decDigits_length]
 rcases Nat.eq_zero_or_pos r with e | e
 ·subst e;rw [Lib.nDigits_small (by decide)];exact hk
 ·rcases Nat.lt_or_ge k (Lib.nDigits r) with h | h
  ·exfalso
   have h1:∀ (j u:Nat),0<u→u<10^j→Lib.nDigits u≤j:=by
    intro j
    induction j with
    | zero=>intro u h0 h1;omega
    | succ j ih =>
     intro u h0 h1
     by_cases h2:u<10
     ·rw [Lib.nDigits_small h2];omega
     ·rw [Lib.nDigits_big h2]
      have:=ih (u/10) (by omega) (by rw [Nat.pow_succ] at h1;omega)
      omega
   have:=h1 k r e hr
   omega
  ·exact h
def Groups (n m:Nat) (ds:List (List UInt8)):Prop :=
 (0<m→Lib.decDigits n=Lib.decDigits m++ds.reverse.flatten)∧(m=0→Lib.decDigits n=ds.reverse.flatten)
theorem Groups.start (n:Nat) (h:0<n):Groups n n []:=⟨fun _=>by simp,fun e=>by omega⟩
theorem Groups.last {n m:Nat} {ds:List (List UInt8)} (h:Groups n m ds) (hm:0<m) (hq:m/1000000000=0):Groups n 0 (ds++[Lib.decDigits (m%1000000000)]):=by
 refine ⟨fun h=>by omega,fun _ => ?_⟩;rw [h.1 hm,Nat.mod_eq_of_lt (by omega)]
 simp
theorem Groups.next {n m:Nat} {ds:List (List UInt8)} (h:Groups n m ds) (hq:0<m/1000000000) :
  Groups n (m/1000000000) (ds++[List.replicate (9-(Lib.decDigits (m%1000000000)).length) 48++Lib.decDigits (m%1000000000)]):=by
 refine ⟨fun _ => ?_,fun h=>by omega⟩;have hm:0<m:=by omega
 have e:=dec_split 9 (m/1000000000) (m%1000000000) hq (by omega);rw [show m/1000000000*10^9+m%1000000000=m by omega,padk_eq 9 _ (by decide) (by omega)] at e;rw [h.1 hm,e]
 simp
end Go.Proofs.YtgabigepocfllaaGreatDoor
