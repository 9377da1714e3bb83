/- Plain: what Cmp and Next return is what the reference's return. -/
import Derived.Test.YtopmjkkjlagfcaaGreatDoorO37
import Derived.Test.YtopmjkkjlagfcaaGreatDoorO39
namespace Go.Proofs.YtopmjkkjlagfcaaGreatDoor
open Go.RowKit Vn
set_option maxRecDepth 100000
set_option maxHeartbeats 8000000
theorem wval_mag_int {E P b n:Nat} (hk:wkind E P n=1):wval E P b n=0:=by
 have h:wf E P n=0∧wr P n=0:=by
  unfold wkind at hk
  split at hk
  ·split at hk
   ·cases hk
   ·split at hk<;>cases hk
  ·split at hk
   ·assumption
   ·cases hk
 unfold wval wfr;rw [if_pos h.1,h.2]
 simp
theorem wval_inf {E P n:Nat} (hE:2≤E) (hP:1≤P) (hk:wkind E P n=3):wval E P (bias E) n=if wn E P n=true then -((2:Rat)^((bias E:Int)+1)) else (2:Rat)^((bias E:Int)+1):=by
 have h:wf E P n=2^E-1∧wr P n=0:=by
  unfold wkind at hk
  split at hk
  ·split at hk
   ·exact ⟨by assumption,by assumption⟩
   ·split at hk<;>cases hk
  ·split at hk<;>cases hk
 apply wval_neg
 have h2:2^E=2*2^(E-1):=by rw [←Nat.pow_succ'];congr 1;omega
 have h3:2^1≤2^(E-1):=Nat.pow_le_pow_right (by decide) (by omega);unfold wfr;rw [h.1,h.2,if_neg (by omega),Nat.zero_add,←p2_nat,←p2_add]
 congr 1
 unfold bias
 omega
theorem place_le {E P n m:Nat} (hE:2≤E) (hP:1≤P) (hn:wkind E P n≤3) (hm:wkind E P m≤3) :
  placeQ P (bias E) (wkind E P n) (wn E P n) (wvalK E P (bias E) n)≤placeQ P (bias E) (wkind E P m) (wn E P m) (wvalK E P (bias E) m)↔wval E P (bias E) n≤wval E P (bias E) m:=by
 have hg:=grQ_lt P (bias E);have hg0:=grQ_nonneg P (bias E);have key:∀ n,wkind E P n≤3→(wkind E P n=3∧placeQ P (bias E) (wkind E P n) (wn E P n) (wvalK E P (bias E) n)=(if wn E P n=true then -(grQ P (bias E)+1) else grQ P (bias E)+1)∧wval E P (bias E) n=(if wn E P n=true then -((2:Rat)^((bias E:Int)+1)) else (2:Rat)^((bias E:Int)+1))) ∨
   (placeQ P (bias E) (wkind E P n) (wn E P n) (wvalK E P (bias E) n)=wval E P (bias E) n∧wval E P (bias E) n≤grQ P (bias E) ∧ -(grQ P (bias E))≤wval E P (bias E) n):=by
  intro n hn
  by_cases h3:wkind E P n=3
  ·left
   refine ⟨h3,?_,wval_inf hE hP h3⟩;unfold placeQ;rw [if_pos h3]
  ·right
   have hw:wvalK E P (bias E) n=wval E P (bias E) n:=by
    unfold wvalK
    by_cases h2:wkind E P n=2
    ·rw [if_pos h2]
    ·obtain ⟨k,hk,hk1,hk2⟩:=wkind_nat E P n;have h1:wkind E P n=1:=by omega
     rw [if_neg h2,if_neg (by omega),if_neg (by omega),wval_mag_int h1]
   have hf:wf E P n≠2^E-1:=by
    intro h
    unfold wkind at hn h3;rw [if_pos h] at hn h3
    by_cases hr:wr P n=0
    ·rw [if_pos hr] at h3;exact h3 rfl
    ·rw [if_neg hr] at hn
     split at hn<;>omega
   have hl:=wval_le hE hP hf;have ha:=absQ_ge (wval E P (bias E) n);refine ⟨?_,by grind,by grind⟩;unfold placeQ;rw [if_neg h3,hw]
 rcases key n hn with ⟨_,a1,a2⟩ | ⟨a1,a2,a3⟩<;>rcases key m hm with ⟨_,b1,b2⟩ | ⟨b1,b2,b3⟩
 ·rw [a1,a2,b1,b2]
  split<;>split<;>constructor<;>intro h<;>grind
 ·rw [a1,a2,b1]
  split<;>constructor<;>intro h<;>grind
 ·rw [a1,b1,b2]
  split<;>constructor<;>intro h<;>grind
 ·rw [a1,b1]
theorem cmpQ_le_iff {a b c d:Rat} (h1:a≤b↔c≤d) (h2:b≤a↔d≤c):cmpQ a b=cmpQ c d:=by
 unfold cmpQ
 by_cases k1:a<b
 ·have:c<d:=by
   refine Rat.not_le.1 (fun h => ?_)
   exact Rat.not_le.2 k1 (h2.2 h)
  rw [if_pos k1,if_pos this]
 ·have k2:b≤a:=Rat.not_lt.1 k1;have k3:¬ c<d:=Rat.not_lt.2 (h2.1 k2);rw [if_neg k1,if_neg k3]
  by_cases k4:b<a
  ·have:d<c:=by
    refine Rat.not_le.1 (fun h => ?_)
    exact Rat.not_le.2 k4 (h1.2 h)
   rw [if_pos k4,if_pos this]
  ·have:¬ d<c:=Rat.not_lt.2 (h1.1 (Rat.not_lt.1 k4))
   rw [if_neg k4,if_neg this]
theorem cmpw_same {E P n1 n2 k1 k2:Nat} (hE:2≤E) (hP:1≤P) (hk1:wkind E P n1=k1) (hk2:wkind E P n2=k2) :
  cmpR E P n1 n2 k1 k2=rcmpR P (bias E) k1 (wn E P n1) (wvalK E P (bias E) n1) k2 (wn E P n2) (wvalK E P (bias E) n2):=by
 unfold cmpR rcmpR
 by_cases h:anyNan [k1,k2]=true
 ·rw [if_pos h,if_pos h]
 ·rw [if_neg h,if_neg h];have h3:k1≤3∧k2≤3:=by
   unfold anyNan at h
   simp at h
   omega
  rw [←hk1,←hk2]
  congr 1
  have i1:=place_le (n:=n1) (m:=n2) hE hP (by omega) (by omega);have i2:=place_le (n:=n2) (m:=n1) hE hP (by omega) (by omega);have j1:=rank_le_iff (E:=E) (P:=P) (b:=bias E) (i:=n1) (j:=n2) hP;have j2:=rank_le_iff (E:=E) (P:=P) (b:=bias E) (i:=n2) (j:=n1) hP;refine cmpQ_le_iff ?_ ?_
  ·rw [i1,j1,Rat.intCast_le_intCast]
  ·rw [i2,j2,Rat.intCast_le_intCast]
end Go.Proofs.YtopmjkkjlagfcaaGreatDoor
