/- Plain: a number rounded by its two neighbouring multiples of the step is rounded as its size is by halves. -/
import Derived.Test.YtgabigepocfllaaGreatDoorQ37
import Derived.Test.YtgabigepocfllaaGreatDoorQ34
import Derived.Test.YtgabigepocfllaaGreatDoorQ36
namespace Go.Proofs.YtgabigepocfllaaGreatDoor
open Go.RowKit Vn
set_option maxRecDepth 100000
set_option maxHeartbeats 8000000
def choQ (m:Nat) (low high step:Rat) (c:Int):Rat :=
 if m=3 then high else if m=4 then low
 else if m=2 then (if 0<cmpQ (absQ low) (absQ high) then high else low)
 else if c<0 then low else if 0<c then high
 else if m=1 then (if 0<cmpQ (absQ low) (absQ high) then low else high)
 else if (low/(step+step)).den=1 then low else high
section
variable {low high step:Rat} {c:Int} {o:Bool}
theorem cho0:choQ 0 low high step c=(if c<0 then low else if 0<c then high else if (low/(step+step)).den=1 then low else high):=rfl
theorem cho1:choQ 1 low high step c=(if c<0 then low else if 0<c then high else if 0<cmpQ (absQ low) (absQ high) then low else high):=rfl
theorem cho2:choQ 2 low high step c=(if 0<cmpQ (absQ low) (absQ high) then high else low):=rfl
theorem cho3:choQ 3 low high step c=high:=rfl
theorem cho4:choQ 4 low high step c=low:=rfl
theorem up0:upB 0 o c=(if c=0 then o else decide (0≤c)):=rfl
theorem up1:upB 1 o c=decide (0≤c):=rfl
theorem up2:upB 2 o c=false:=rfl
theorem up3:upB 3 o c=true:=rfl
theorem up4:upB 4 o c=false:=rfl
end
theorem choQ_same (m:Nat) (v step:Rat) (c:Int):choQ m v v step c=v:=by
 unfold choQ;repeat' split
 all_goals rfl
def lowQ (x step:Rat):Rat:=(((x/step).floor:Int):Rat)*step
def highQ (x step:Rat):Rat := -(((-(x/step)).floor:Int):Rat)*step
def midQ (a b:Rat):Rat:=(a+b)*(2:Rat)^(-1:Int)
def mulQ (m:Nat) (x step:Rat):Rat:=choQ m (lowQ x step) (highQ x step) step (cmpQ x (midQ (lowQ x step) (highQ x step)))
theorem mul_le_r {a b s:Rat} (hs:0<s):a*s≤b*s↔a≤b:=by
 constructor
 ·intro h
  refine Rat.not_lt.1 (fun k => ?_)
  exact Rat.not_lt.2 h ((Rat.mul_lt_mul_right hs).2 k)
 ·intro h;exact Rat.mul_le_mul_of_nonneg_right h (Rat.le_of_lt hs)
theorem half_p2:(2:Rat)^(-1:Int)=1/2:=by decide +kernel
theorem floor_one {t:Rat} {n:Int} (h1:(n:Rat)≤t) (h2:t<(n:Rat)+1):t.floor=n:=by
 have a:n≤t.floor:=by rw [Rat.le_floor_iff];exact h1
 have b:t.floor<n+1:=by rw [Rat.floor_lt_iff];rw [Rat.intCast_add];exact h2
 omega
theorem half_even (n:Nat):(((n:Nat):Rat)/2).den=1↔n%2=0:=by
 constructor
 ·intro h
  have h1:=den_one h;generalize (((n:Nat):Rat)/2).floor=z at h1;have h2:((n:Nat):Rat)=((2*z:Int):Rat):=by rw [Rat.intCast_mul];grind
  have h3:(((n:Nat):Int):Rat)=((2*z:Int):Rat):=h2;rw [Rat.intCast_inj] at h3
  omega
 ·intro h
  have:((n:Nat):Rat)/2=(((n/2:Nat):Int):Rat):=by
   have e:n=2*(n/2):=by omega
   have e2:((n:Nat):Rat)=2*((n/2:Nat):Rat):=by
    have:((n:Nat):Rat)=((2*(n/2):Nat):Rat):=by rw [←e]
    rw [this,Rat.natCast_mul];rfl
   have e3:((n/2:Nat):Rat)=(((n/2:Nat):Int):Rat):=rfl;rw [e2,←e3];grind
  rw [this];rfl
theorem mulQ_eq {m:Nat} (hm:m≤4) {t s:Rat} {n:Nat} (neg:Bool) (hs:0<s) (h1:((n:Nat):Rat)≤t) (h2:t<((n:Nat):Rat)+1) :
  mulQ m (sgnQ neg*(t*s)) s=sgnQ neg*(((endN m neg n (decide (t.den=1)) (cmpQ ((t-(n:Nat))*2) 1):Nat):Rat)*s):=by
 have hs0:s≠0:=by grind
 have ex:sgnQ neg*(t*s)/s=sgnQ neg*t:=by rw [Rat.div_def,Rat.mul_assoc,Rat.mul_assoc,Rat.mul_inv_cancel _ hs0,Rat.mul_one]
 have n0:(0:Rat)≤((n:Nat):Rat):=by exact_mod_cast Nat.zero_le n
 have en:((n:Nat):Rat)=(((n:Nat):Int):Rat):=rfl;unfold mulQ lowQ highQ midQ;rw [ex,half_p2]
 by_cases hd:t.den=1
 ·have hf:t.floor=(n:Int):=floor_one (n:=(n:Int)) h1 h2;have ht:t=((n:Nat):Rat):=by have:=den_one hd;rw [hf] at this;exact this.symm
  unfold endN;rw [if_pos (decide_eq_true hd)];subst ht
  cases neg with
  | false =>
   have e1:sgnQ false*((n:Nat):Rat)=(((n:Nat):Int):Rat):=by unfold sgnQ;rw [if_neg (by decide)];grind
   have e2:(-(sgnQ false*((n:Nat):Rat)))=((-((n:Nat):Int):Int):Rat):=by rw [e1,Rat.intCast_neg]
   rw [e2,e1,Rat.floor_intCast,Rat.floor_intCast,Rat.intCast_neg];have e3 : -(-(((n:Nat):Int):Rat))=(((n:Nat):Int):Rat):=by grind
   rw [e3,choQ_same,←en];unfold sgnQ;rw [if_neg (by decide)];grind
  | true =>
   have e1:sgnQ true*((n:Nat):Rat)=((-((n:Nat):Int):Int):Rat):=by unfold sgnQ;rw [if_pos rfl,Rat.intCast_neg];grind
   have e2:(-(sgnQ true*((n:Nat):Rat)))=(((n:Nat):Int):Rat):=by rw [e1,Rat.intCast_neg];grind
   rw [e2,e1,Rat.floor_intCast,Rat.floor_intCast,Rat.intCast_neg];rw [choQ_same,←en];unfold sgnQ;rw [if_pos rfl];grind
 ·have hlt:((n:Nat):Rat)<t:=by
   rcases Rat.le_iff_lt_or_eq.1 h1 with h | h
   ·exact h
   ·exact absurd (by rw [←h];rfl) hd
  unfold endN;rw [if_neg (by rw [decide_eq_false hd];decide)];have e1:((n+1:Nat):Rat)=((n:Nat):Rat)+1:=by rw [Rat.natCast_add];rfl
  have s2:s+s≠0:=by grind
  have hq:∀ z:Rat,z*s/(s+s)=z/2:=by
   intro z
   have:s+s=s*2:=by grind
   rw [this,Rat.div_def,Rat.inv_mul_rev,Rat.div_def]
   have:=Rat.mul_inv_cancel s hs0
   grind
  cases neg with
  | false =>
   have e0:sgnQ false=1:=by unfold sgnQ;rw [if_neg (by decide)]
   simp only [e0,Rat.one_mul];have f1:t.floor=(n:Int):=floor_one (n:=(n:Int)) h1 h2;have f2:(-t).floor = -((n:Int)+1):=floor_one (n := -((n:Int)+1)) (by rw [Rat.intCast_neg,Rat.intCast_add,←en];show -(((n:Nat):Rat)+1) ≤ -t;grind) (by rw [Rat.intCast_neg,Rat.intCast_add,←en];show -t < -(((n:Nat):Rat)+1)+1;grind);rw [f1,f2,Rat.intCast_neg,Rat.intCast_add,←en];have hb1:absQ (((n:Nat):Rat)*s)=((n:Nat):Rat)*s:=absQ_nonneg (Rat.mul_nonneg n0 (Rat.le_of_lt hs));have e3 : -(-(((n:Nat):Rat)+((1:Int):Rat)))*s=(((n:Nat):Rat)+1)*s:=by
    have:((1:Int):Rat)=1:=rfl
    rw [this];grind
   rw [e3];have hb2:absQ ((((n:Nat):Rat)+1)*s)=(((n:Nat):Rat)+1)*s:=absQ_nonneg (Rat.mul_nonneg (by grind) (Rat.le_of_lt hs));have hc0:¬ 0<cmpQ (absQ (((n:Nat):Rat)*s)) (absQ ((((n:Nat):Rat)+1)*s)):=by
    rw [hb1,hb2,cmpQ_gt];intro h;grind
   have hmid:cmpQ (t*s) ((((n:Nat):Rat)*s+(((n:Nat):Rat)+1)*s)*(1/2))=cmpQ ((t-(n:Nat))*2) 1:=by
    have k:(((n:Nat):Rat)*s+(((n:Nat):Rat)+1)*s)*(1/2)=(((n:Nat):Rat)+1/2)*s:=by grind
    rw [k];refine cmpQ_le_iff ?_ ?_
    ·rw [mul_le_r hs];constructor<;>intro h<;>grind
    ·rw [mul_le_r hs];constructor<;>intro h<;>grind
   rw [hmid];have hev:((((n:Nat):Rat)*s/(s+s)).den=1)↔n%2=0:=by rw [hq];exact half_even n
   generalize cmpQ ((t-(n:Nat))*2) 1=c;rw [show modeN m false=m from rfl]
   rcases (show m=0∨m=1∨m=2∨m=3∨m=4 by omega) with rfl | rfl | rfl | rfl | rfl
   ·rw [cho0,up0]
    rcases Int.lt_trichotomy c 0 with h | h | h
    ·rw [if_pos h,if_neg (show ¬ c=0 by omega),decide_eq_false (show ¬ 0≤c by omega),if_neg (show ¬ false=true by decide)]
    ·subst h;rw [if_neg (show ¬ (0:Int)<0 by decide),if_neg (show ¬ (0:Int)<0 by decide),if_pos (show (0:Int)=0 from rfl)]
     by_cases h':n%2=0
     ·rw [if_pos (hev.2 h'),decide_eq_false (show ¬ n%2=1 by omega),if_neg (show ¬ false=true by decide)]
     ·rw [if_neg (fun k=>h' (hev.1 k)),decide_eq_true (show n%2=1 by omega),if_pos rfl,e1]
    ·rw [if_neg (show ¬ c<0 by omega),if_pos h,if_neg (show ¬ c=0 by omega),decide_eq_true (show 0≤c by omega),if_pos rfl,e1]
   ·rw [cho1,up1,if_neg hc0]
    rcases Int.lt_trichotomy c 0 with h | h | h
    ·rw [if_pos h,decide_eq_false (show ¬ 0≤c by omega),if_neg (show ¬ false=true by decide)]
    ·subst h;rw [if_neg (show ¬ (0:Int)<0 by decide),if_neg (show ¬ (0:Int)<0 by decide),decide_eq_true (show (0:Int)≤0 by omega),if_pos rfl,e1]
    ·rw [if_neg (show ¬ c<0 by omega),if_pos h,decide_eq_true (show 0≤c by omega),if_pos rfl,e1]
   ·rw [cho2,up2,if_neg hc0,if_neg (show ¬ false=true by decide)]
   ·rw [cho3,up3,if_pos rfl,e1]
   ·rw [cho4,up4,if_neg (show ¬ false=true by decide)]
  | true =>
   have e0:sgnQ true = -1:=by unfold sgnQ;rw [if_pos rfl]
   rw [e0];have i1:((1:Int):Rat)=1:=rfl;have f2:(-1*t).floor = -((n:Int)+1):=floor_one (n := -((n:Int)+1)) (by rw [Rat.intCast_neg,Rat.intCast_add,←en,i1];grind) (by rw [Rat.intCast_neg,Rat.intCast_add,←en,i1];grind);have f1:(-(-1*t)).floor=(n:Int):=floor_one (n:=(n:Int)) (by rw [←en];grind) (by rw [←en];grind);rw [f1,f2,Rat.intCast_neg,Rat.intCast_add,←en,i1];have hb1:absQ (-((n:Nat):Rat)*s)=((n:Nat):Rat)*s:=by
    rw [show -((n:Nat):Rat)*s = -(((n:Nat):Rat)*s) by grind,absQ_neg];exact absQ_nonneg (Rat.mul_nonneg n0 (Rat.le_of_lt hs))
   have hb2:absQ (-(((n:Nat):Rat)+1)*s)=(((n:Nat):Rat)+1)*s:=by
    rw [show -(((n:Nat):Rat)+1)*s = -((((n:Nat):Rat)+1)*s) by grind,absQ_neg];exact absQ_nonneg (Rat.mul_nonneg (by grind) (Rat.le_of_lt hs))
   have hc0:0<cmpQ (absQ (-(((n:Nat):Rat)+1)*s)) (absQ (-((n:Nat):Rat)*s)):=by
    rw [hb1,hb2,cmpQ_gt];grind
   have hmid:cmpQ (-1*(t*s)) ((-(((n:Nat):Rat)+1)*s + -((n:Nat):Rat)*s)*(1/2)) = -cmpQ ((t-(n:Nat))*2) 1:=by
    have k:(-(((n:Nat):Rat)+1)*s + -((n:Nat):Rat)*s)*(1/2) = -((((n:Nat):Rat)+1/2)*s):=by grind
    rw [k,show -1*(t*s) = -(t*s) by grind];have k2:∀ a b:Rat,cmpQ (-a) (-b) = -cmpQ a b:=by
     intro a b
     unfold cmpQ
     by_cases h:a<b
     ·rw [if_neg (show ¬ -a < -b by grind),if_pos (show -b < -a by grind),if_pos h];rfl
     ·by_cases h2:b<a
      ·rw [if_pos (show -a < -b by grind),if_neg h,if_pos h2]
      ·rw [if_neg (show ¬ -a < -b by grind),if_neg (show ¬ -b < -a by grind),if_neg h,if_neg h2];rfl
    rw [k2]
    congr 1
    refine cmpQ_le_iff ?_ ?_
    ·rw [mul_le_r hs];constructor<;>intro h<;>grind
    ·rw [mul_le_r hs];constructor<;>intro h<;>grind
   rw [hmid];have hev:((-(((n:Nat):Rat)+1)*s/(s+s)).den=1)↔n%2=1:=by
    rw [hq,show -(((n:Nat):Rat)+1)/2 = -(((n+1:Nat):Rat)/2) by rw [e1];grind,Rat.neg_den,half_even]
    omega
   have r0 : -((n:Nat):Rat)*s = -1*(((n:Nat):Rat)*s):=by grind
   have r1 : -(((n:Nat):Rat)+1)*s = -1*(((n+1:Nat):Rat)*s):=by rw [e1];grind
   generalize cmpQ ((t-(n:Nat))*2) 1=c;rw [r0,r1] at hc0;rw [r1] at hev;rw [r0,r1]
   rcases (show m=0∨m=1∨m=2∨m=3∨m=4 by omega) with rfl | rfl | rfl | rfl | rfl
   ·rw [show modeN 0 true=0 from rfl,cho0,up0]
    rcases Int.lt_trichotomy c 0 with h | h | h
    ·rw [if_neg (show ¬ -c<0 by omega),if_pos (show 0 < -c by omega),if_neg (show ¬ c=0 by omega),decide_eq_false (show ¬ 0≤c by omega),if_neg (show ¬ false=true by decide)]
    ·subst h;rw [if_neg (show ¬ -(0:Int)<0 by decide),if_neg (show ¬ (0:Int) < -0 by decide),if_pos (show (0:Int)=0 from rfl)]
     by_cases h':n%2=1
     ·rw [if_pos (hev.2 h'),decide_eq_true h',if_pos rfl]
     ·rw [if_neg (fun k=>h' (hev.1 k)),decide_eq_false h',if_neg (show ¬ false=true by decide)]
    ·rw [if_pos (show -c<0 by omega),if_neg (show ¬ c=0 by omega),decide_eq_true (show 0≤c by omega),if_pos rfl]
   ·rw [show modeN 1 true=1 from rfl,cho1,up1,if_pos hc0]
    rcases Int.lt_trichotomy c 0 with h | h | h
    ·rw [if_neg (show ¬ -c<0 by omega),if_pos (show 0 < -c by omega),decide_eq_false (show ¬ 0≤c by omega),if_neg (show ¬ false=true by decide)]
    ·subst h;rw [if_neg (show ¬ -(0:Int)<0 by decide),if_neg (show ¬ (0:Int) < -0 by decide),decide_eq_true (show (0:Int)≤0 by omega),if_pos rfl]
    ·rw [if_pos (show -c<0 by omega),decide_eq_true (show 0≤c by omega),if_pos rfl]
   ·rw [show modeN 2 true=2 from rfl,cho2,up2,if_pos hc0,if_neg (show ¬ false=true by decide)]
   ·rw [show modeN 3 true=4 from rfl,cho3,up4,if_neg (show ¬ false=true by decide)]
   ·rw [show modeN 4 true=3 from rfl,cho4,up3,if_pos rfl]
theorem cmpQ_mono {a a' b:Rat} (h:a≤a'):cmpQ a b≤cmpQ a' b:=by
 unfold cmpQ
 by_cases h1:a<b
 ·rw [if_pos h1];repeat' split
  all_goals omega
 ·rw [if_neg h1,if_neg (by grind:¬ a'<b)]
  by_cases h2:b<a
  ·rw [if_pos h2,if_pos (by grind)];omega
  ·rw [if_neg h2];split<;>omega
theorem upB_mono {m:Nat} {o:Bool} {c c':Int} (h:c≤c') (hu:upB m o c=true):upB m o c'=true:=by
 unfold upB at hu ⊢
 by_cases h0:m=0
 ·rw [if_pos h0] at hu ⊢
  by_cases h1:c=0
  ·rw [if_pos h1] at hu
   split
   ·exact hu
   ·exact decide_eq_true (by omega)
  ·rw [if_neg h1] at hu
   have:=of_decide_eq_true hu
   rw [if_neg (by omega)];exact decide_eq_true (by omega)
 ·rw [if_neg h0] at hu ⊢
  by_cases h1:m=1
  ·rw [if_pos h1] at hu ⊢
   have:=of_decide_eq_true hu
   exact decide_eq_true (by omega)
  ·rw [if_neg h1] at hu ⊢;exact hu
def stN (m n:Nat) (t:Rat):Nat:=endN m false n (decide (t.den=1)) (cmpQ ((t-(n:Nat))*2) 1)
theorem stN_le (m n:Nat) (t:Rat):n≤stN m n t∧stN m n t≤n+1:=by
 unfold stN endN;split
 ·omega
 ·split<;>omega
theorem endN_st (m:Nat) (neg:Bool) (n:Nat) (t:Rat):endN m neg n (decide (t.den=1)) (cmpQ ((t-(n:Nat))*2) 1)=stN (modeN m neg) n t:=by
 unfold stN endN;rw [show modeN (modeN m neg) false=modeN m neg from rfl]
theorem stN_mono {m n n':Nat} {t t':Rat} (h1:((n:Nat):Rat)≤t) (_h2:t<((n:Nat):Rat)+1) (h1':((n':Nat):Rat)≤t') (h2':t'<((n':Nat):Rat)+1) (h:t≤t'):stN m n t≤stN m n' t':=by
 have hn:n≤n':=by
  have h3:((n:Nat):Rat)<((n'+1:Nat):Rat):=by rw [Rat.natCast_add];show _<((n':Nat):Rat)+1;grind
  rw [Rat.natCast_lt_natCast] at h3;omega
 have a:=stN_le m n t;have b:=stN_le m n' t'
 rcases Nat.lt_or_eq_of_le hn with h3 | h3
 ·omega
 ·subst h3
  by_cases hd:t.den=1
  ·have:stN m n t=n:=by unfold stN endN;rw [if_pos (decide_eq_true hd)]
   omega
  ·by_cases hd':t'.den=1
   ·exfalso
    have hf:t'.floor=(n:Int):=by
     have a:(n:Int)≤t'.floor:=by rw [Rat.le_floor_iff];exact h1'
     have b:t'.floor<(n:Int)+1:=by rw [Rat.floor_lt_iff];rw [Rat.intCast_add];exact h2'
     omega
    have e:=den_one hd';rw [hf] at e;have e:((n:Nat):Rat)=t':=e
    have:t=((n:Nat):Rat):=by grind
    exact hd (by rw [this];rfl)
   ·unfold stN endN;rw [if_neg (show ¬ decide (t.den=1)=true by rw [decide_eq_false hd];decide),if_neg (show ¬ decide (t'.den=1)=true by rw [decide_eq_false hd'];decide)];have hc:cmpQ ((t-(n:Nat))*2) 1≤cmpQ ((t'-(n:Nat))*2) 1:=cmpQ_mono (by grind)
    split
    ·rename_i hu
     rw [if_pos (upB_mono hc hu)];exact Nat.le_refl _
    ·split<;>omega
def szR (P b m:Nat) (q:Rat) (l:Int):Rat:=((stN m (rdN P b l q) (rdT P b l q):Nat):Rat)*(2:Rat)^(rdK P b l)
theorem szR_nonneg (P b m:Nat) (q:Rat) (l:Int):0≤szR P b m q l:=steps_nonneg _ _
theorem szR_mono {P b m:Nat} {q r:Rat} {l k:Int} (hP:1≤P) (hl:IsLog (absQ q) l) (hk:IsLog (absQ r) k) (h:absQ q≤absQ r):szR P b m q l≤szR P b m r k:=by
 have hlk:l≤k:=by
  have:(2:Rat)^l<(2:Rat)^(k+1):=lelt (Rat.le_trans hl.1 h) hk.2
  rw [p2_lt_iff] at this;omega
 have hF:rdF b l≤rdF b k:=by unfold rdF;omega
 rcases Nat.lt_or_eq_of_le hF with hf | hf
 ·have h1:=rdN_lt (P:=P) (b:=b) hl;have h2:=(stN_le m (rdN P b l q) (rdT P b l q)).2;have h3:=(rdN_ge (b:=b) hP hk);have h4:=(stN_le m (rdN P b k r) (rdT P b k r)).1;have h5:2^(P-1)≤stN m (rdN P b k r) (rdT P b k r):=by rcases h3 with h3 | h3;omega;exact Nat.le_trans h3 h4
  unfold szR;have a1:((stN m (rdN P b l q) (rdT P b l q):Nat):Rat)*(2:Rat)^(rdK P b l)≤(2:Rat)^((P:Int)+rdK P b l):=by
   rw [p2_add,p2_nat]
   exact Rat.mul_le_mul_of_nonneg_right (by rw [Rat.natCast_le_natCast];omega) (Rat.le_of_lt (p2_pos _))
  have a2:(2:Rat)^(((P-1:Nat):Int)+rdK P b k)≤((stN m (rdN P b k r) (rdT P b k r):Nat):Rat)*(2:Rat)^(rdK P b k):=by
   rw [p2_add,p2_nat]
   exact Rat.mul_le_mul_of_nonneg_right (by rw [Rat.natCast_le_natCast];exact h5) (Rat.le_of_lt (p2_pos _))
  have a3:(2:Rat)^((P:Int)+rdK P b l)≤(2:Rat)^(((P-1:Nat):Int)+rdK P b k):=p2_mono (by unfold rdK;omega)
  exact Rat.le_trans a1 (Rat.le_trans a3 a2)
 ·have hK:rdK P b l=rdK P b k:=by unfold rdK;rw [hf]
  have ht:rdT P b l q≤rdT P b k r:=by
   unfold rdT;rw [hK]
   exact Rat.mul_le_mul_of_nonneg_right h (Rat.le_of_lt (p2_pos _))
  have f1:=floor_le_rd P b l q;have f2:=floor_le_rd P b k r
  have:=stN_mono (m:=m) f1.1 f1.2 f2.1 f2.2 ht
  unfold szR;rw [hK]
  exact Rat.mul_le_mul_of_nonneg_right (by rw [Rat.natCast_le_natCast];exact this) (Rat.le_of_lt (p2_pos _))
def vR (P b m:Nat) (q:Rat) (l:Int):Rat:=if szR P b m q l≤grQ P b then szR P b m q l else if m=2∨m=4 then grQ P b else (2:Rat)^((b:Int)+1)
theorem vR_nonneg (P b m:Nat) (q:Rat) (l:Int):0≤vR P b m q l:=by
 unfold vR;split
 ·exact szR_nonneg _ _ _ _ _
 ·split
  ·exact grQ_nonneg _ _
  ·exact Rat.le_of_lt (p2_pos _)
theorem vR_mono {P b m:Nat} {q r:Rat} {l k:Int} (hP:1≤P) (hl:IsLog (absQ q) l) (hk:IsLog (absQ r) k) (h:absQ q≤absQ r):vR P b m q l≤vR P b m r k:=by
 have h1:=szR_mono (b:=b) (m:=m) hP hl hk h;have h2:=Rat.le_of_lt (grQ_lt P b);unfold vR
 by_cases c:szR P b m r k≤grQ P b
 ·rw [if_pos c,if_pos (Rat.le_trans h1 c)];exact h1
 ·rw [if_neg c]
  by_cases d:szR P b m q l≤grQ P b
  ·rw [if_pos d];split
   ·exact d
   ·exact Rat.le_trans d h2
  ·rw [if_neg d];exact Rat.le_refl
theorem inf_wn {E P:Nat} (hP:1≤P) (s:Bool):wn E P (infw E P s)=s:=by
 have e:infw E P s=wordN E P s 0 (2^E-1):=by unfold infw wordN;rw [Nat.zero_add]
 rw [e]
 exact wordN_wn _ (by have:=infZ_lt (E:=E) hP;unfold infZ at this;omega)
theorem rq_wval {E P m:Nat} {q:Rat} (hE:2≤E) (hP:1≤P) (h0:q≠0) :
  wval E P (bias E) (rq E P m q).1=(if decide (q.num<0)=true then -1 else 1)*vR P (bias E) (modeN m (decide (q.num<0))) q (lgQ q):=by
 have hl:=lg_is h0;unfold rq rnd;rw [if_neg h0];have hN:=endN_le (P:=P) (b:=bias E) (m:=m) hl (decide (q.num<0)) (decide ((rdT P (bias E) (lgQ q) q).den=1)) (cmpQ ((rdT P (bias E) (lgQ q) q-(rdN P (bias E) (lgQ q) q:Nat))*2) 1);have hge:rdF (bias E) (lgQ q)=0∨2^(P-1)≤endN m (decide (q.num<0)) (rdN P (bias E) (lgQ q) q) (decide ((rdT P (bias E) (lgQ q) q).den=1)) (cmpQ ((rdT P (bias E) (lgQ q) q-(rdN P (bias E) (lgQ q) q:Nat))*2) 1):=by
  rcases rdN_ge (b:=bias E) hP hl with h | h
  ·exact .inl h
  ·exact .inr (Nat.le_trans h hN.2)
 have e:=endN_st m (decide (q.num<0)) (rdN P (bias E) (lgQ q) q) (rdT P (bias E) (lgQ q) q);have hk:rdK P (bias E) (lgQ q)=2-((bias E:Nat):Int)-P+(rdF (bias E) (lgQ q):Nat):=rfl;unfold vR
 by_cases c:szR P (bias E) (modeN m (decide (q.num<0))) q (lgQ q)≤grQ P (bias E)
 ·rw [if_pos c];have c':=c;unfold szR at c';rw [←e,hk] at c'
  have:=round_val (E:=E) (m:=m) (by omega) hP hl _ rfl (by rw [hk];exact c') (end_fits (by omega) hP hN.1 hge c')
  rw [this.1,e];rfl
 ·rw [if_neg c];have c':=c;unfold szR at c';rw [←e,hk] at c';unfold roundR endR;rw [if_neg c']
  by_cases d:modeN m (decide (q.num<0))=2∨modeN m (decide (q.num<0))=4
  ·rw [if_pos d,if_pos d];have hb:1≤bias E:=by
    have h4:=two_bias (E:=E) (by omega)
    have:2^2≤2^E:=Nat.pow_le_pow_right (by decide) hE
    omega
   have hp:2^P=2*2^(P-1):=by rw [←Nat.pow_succ'];congr 1;omega
   have hp1:0<2^(P-1):=Nat.pow_pos (by decide)
   show wval E P (bias E) (wordN E P _ (2^P-1) (2*bias E-1))=_
   rw [wordN_val hP _ (great_fits hE hP) (by omega) (.inr (by omega))];unfold grQ;rw [show 2-((bias E:Nat):Int)-P+((2*bias E-1:Nat):Int)=((bias E:Nat):Int)-P+1 by omega]
  ·rw [if_neg d,if_neg d]
   show wval E P (bias E) (infw E P _)=_
   rw [wval_inf hE hP (inf_kind hP _),inf_wn hP]
   split<;>grind
theorem rq_zero (E P m:Nat):rq E P m 0=(0,0):=by unfold rq rnd;rw [if_pos rfl]
theorem rq_mono {E P m:Nat} {q r:Rat} (hE:2≤E) (hP:1≤P) (h:q≤r):wval E P (bias E) (rq E P m q).1≤wval E P (bias E) (rq E P m r).1:=by
 have pos:∀ x:Rat,x≠0→¬ x<0→wval E P (bias E) (rq E P m x).1=vR P (bias E) (modeN m false) x (lgQ x):=by
  intro x h0 hx
  rw [rq_wval hE hP h0,decide_eq_false (fun k=>hx (num_neg_iff.1 k)),if_neg (by decide),Rat.one_mul]
 have neg:∀ x:Rat,x<0→wval E P (bias E) (rq E P m x).1 = -vR P (bias E) (modeN m true) x (lgQ x):=by
  intro x hx
  rw [rq_wval hE hP (by grind),decide_eq_true (num_neg_iff.2 hx),if_pos rfl];grind
 have zero:wval E P (bias E) (rq E P m 0).1=0:=by rw [rq_zero];exact wval_zero _ _ _
 by_cases hq:q<0
 ·rw [neg q hq];have a:=vR_nonneg P (bias E) (modeN m true) q (lgQ q)
  by_cases hr:r<0
  ·rw [neg r hr];have e1:absQ q = -q:=by rw [←absQ_neg,absQ_nonneg (by grind)]
   have e2:absQ r = -r:=by rw [←absQ_neg,absQ_nonneg (by grind)]
   have:=vR_mono (b:=bias E) (m:=modeN m true) hP (lg_is (show r≠0 by grind)) (lg_is (show q≠0 by grind)) (by rw [e1,e2];grind)
   grind
  ·by_cases h0:r=0
   ·rw [h0,zero];grind
   ·rw [pos r h0 hr];have b:=vR_nonneg P (bias E) (modeN m false) r (lgQ r)
    grind
 ·have hr:¬ r<0:=by grind
  by_cases h0:q=0
  ·rw [h0,zero]
   by_cases h1:r=0
   ·rw [h1,zero];exact Rat.le_refl
   ·rw [pos r h1 hr];exact vR_nonneg _ _ _ _ _
  ·have h1:r≠0:=by grind
   rw [pos q h0 hq,pos r h1 hr];refine vR_mono hP (lg_is h0) (lg_is h1) ?_;rw [absQ_nonneg (by grind),absQ_nonneg (by grind)];exact h
section
variable {E P m b:Nat} {q r:Rat} {K:Nat}
theorem cRoundF (hF:Fmt E P) (hm:m≤4) (sx:SmQ K q) (hK:K≤12000):Cal Tryz.prog OQ 16 [fA E P,iA (m:Nat),nA q] (res3 (rq E P m q)):=by
 refine fn_call TK MX Tryz.func16 rfl (by kernel_rfl) (by kernel_rfl) (by kernel_rfl) rfl rfl ?_
 conv=>whnf
 refine ⟨_,cWith0 hF hm,?_⟩
 conv=>whnf
 refine ⟨_,cRoundQ hF hm sx hK,?_⟩
 conv=>whnf
 rfl
theorem cRoundBad {E P M:Int} (h:¬ ((0≤M∧M≤4)∧Fmt E P)):Cal Tryz.prog OQ 16 [fA E P,iA M,nA q] (.t [wA 0,iA 0,iA 2]):=by
 refine fn_call TK MX Tryz.func16 rfl (by kernel_rfl) (by kernel_rfl) (by kernel_rfl) rfl rfl ?_
 conv=>whnf
 refine ⟨_,cWithBad (a:=.c (.v (.slice none 0 0))) rfl h,?_⟩
 conv=>whnf
 rfl
def hasI (E P:Nat) (q:Rat):Bool:=decide ((q*(2:Rat)^(-(max (lgQ q) (1-(bias E:Int))-P+1))).den=1)
def hasB (E P:Nat) (q:Rat):Bool:=if q=0 then true else hasI E P q&&decide (cmpQ (absQ q) (grQ P (bias E))≤0)
theorem signZ (q:Rat):(q.num.sign==0)=decide (q=0):=by
 rw [Bool.eq_iff_iff];simp [Int.sign_eq_zero_iff_zero,Rat.num_eq_zero]
theorem cHasF (hF:Fmt E P) (sx:SmQ K q) (hK:K≤12000):Cal Tryz.prog OQ 18 [fA E P,nA q] (bA (hasB E P q)):=by
 have hb:=(fmt_n hF).2.2.2.2.2;have hP:=(fmt_n hF).2.2.2.1;refine fn_call TK MX Tryz.func18 rfl (by kernel_rfl) (by kernel_rfl) (by kernel_rfl) rfl rfl ?_;unfold hasB
 conv=>whnf
 refine ⟨_,cWith0 (m:=0) hF (by decide),?_⟩
 conv=>whnf
 refine ⟨_,cSign,?_⟩
 conv=>whnf
 rw [signZ]
 by_cases h:q=0
 ·rw [dT h,if_pos h]
  conv=>whnf
  rfl
 ·rw [dF h,if_neg h]
  conv=>whnf
  have hl:=(lg_is h).bound sx.absQ;refine ⟨_,cLogF sx (by omega) (fun e=>h (Rat.num_eq_zero.1 e)) (lg_is h),?_⟩
  conv=>whnf
  refine ⟨_,cStepM hF hb (by omega),?_⟩
  conv=>whnf
  rw [IntWalk.i64_in (0-(max (lgQ q) (1-(bias E:Int))-P+1)) (by omega),Int.zero_sub];refine ⟨_,cShiftF sx (by omega) (by omega) (by omega),?_⟩
  conv=>whnf
  refine ⟨_,cIsInt,?_⟩
  conv=>whnf
  rw [show decide ((q*(2:Rat)^(-(max (lgQ q) (1-(bias E:Int))-P+1))).den=1)=hasI E P q from rfl]
  cases hi:hasI E P q
  ·conv=>whnf
   rfl
  ·conv=>whnf
   refine ⟨_,cAbs,?_⟩
   conv=>whnf
   refine ⟨_,cGreatM hF hb,?_⟩
   conv=>whnf
   refine ⟨_,cCmp (K:=16000) (sx.absQ.mono (by omega)) (grQ_sm ⟨(fmt_n hF).2.2.1,hP⟩ hb) (by decide),?_⟩
   conv=>whnf
   rfl
theorem cMaxN (sx:SmQ K q) (sy:SmQ K r) (hK:K≤20000000):Cal Tryz.prog OQ 15 [nA q,nA r] (nA (if cmpQ q r<0 then r else q)):=by
 refine fn_call TK MX Tryz.func15 rfl (by kernel_rfl) (by kernel_rfl) (by kernel_rfl) rfl rfl ?_
 conv=>whnf
 refine ⟨_,cCmp sx sy hK,?_⟩
 conv=>whnf
 by_cases h:cmpQ q r<0
 ·rw [dT h,if_pos h]
  conv=>whnf
  rfl
 ·rw [dF h,if_neg h]
  conv=>whnf
  rfl
end
section
variable {E P m:Nat} {q r:Rat}
theorem rq_eq (h0:q≠0):rq E P m q=endR E P (bias E) m (decide (q.num<0)) (rdN P (bias E) (lgQ q) q) (rdF (bias E) (lgQ q)) (decide ((rdT P (bias E) (lgQ q) q).den=1)) (cmpQ ((rdT P (bias E) (lgQ q) q-(rdN P (bias E) (lgQ q) q:Nat))*2) 1) (decide (lgQ q<1-((bias E:Nat):Int))):=by
 unfold rq rnd;rw [if_neg h0];rfl
abbrev szQ (E P m:Nat) (q:Rat):Rat:=szR P (bias E) (modeN m (decide (q.num<0))) q (lgQ q)
theorem below_log {b:Nat} (h0:q≠0):absQ q<(2:Rat)^(1-(b:Int))↔lgQ q<1-(b:Int):=by
 have hl:=lg_is h0
 constructor
 ·intro h
  have:(2:Rat)^lgQ q<(2:Rat)^(1-(b:Int)):=lelt hl.1 h
  rwa [p2_lt_iff] at this
 ·intro h
  exact ltle hl.2 (p2_mono (by omega))
theorem cmp_zero {a b:Rat} (h:cmpQ a b=0):a=b:=by
 unfold cmpQ at h
 by_cases h1:a<b
 ·rw [if_pos h1] at h;cases h
 ·rw [if_neg h1] at h
  by_cases h2:b<a
  ·rw [if_pos h2] at h;cases h
  ·grind
theorem sz_exact:(cmpQ q (sgnQ (decide (q.num<0))*szQ E P m q)==0)=decide ((rdT P (bias E) (lgQ q) q).den=1):=by
 have hs:sgnQ (decide (q.num<0))*absQ q=q:=absQ_sign q;have hp:=p2_pos (rdK P (bias E) (lgQ q));have hab:=absQ_back P (bias E) q (lgQ q);rw [Bool.eq_iff_iff,beq_iff_eq,decide_eq_true_iff]
 constructor
 ·intro h
  have h:=cmp_zero h;have e:absQ q=szQ E P m q:=by
   have h1:sgnQ (decide (q.num<0))*absQ q=sgnQ (decide (q.num<0))*szQ E P m q:=by rw [hs];exact h
   unfold sgnQ at h1
   split at h1<;>grind
  rw [hab] at e;unfold szQ szR at e;have e2:rdT P (bias E) (lgQ q) q=((stN (modeN m (decide (q.num<0))) (rdN P (bias E) (lgQ q) q) (rdT P (bias E) (lgQ q) q):Nat):Rat):=by
   have h0:(2:Rat)^(rdK P (bias E) (lgQ q))≠0:=by grind
   generalize (2:Rat)^(rdK P (bias E) (lgQ q))=s at *
   have h2:=congrArg (· * s⁻¹) e;simp only [Rat.mul_assoc,Rat.mul_inv_cancel s h0,Rat.mul_one] at h2
   exact h2
  rw [e2];rfl
 ·intro d
  have e:=den_one d;rw [rdN_floor] at e;have e:((rdN P (bias E) (lgQ q) q:Nat):Rat)=rdT P (bias E) (lgQ q) q:=e;have es:szQ E P m q=absQ q:=by
   rw [hab,←e];unfold szQ szR stN endN;rw [if_pos (decide_eq_true d)]
  rw [es,hs,cmpQ_self]
end
section
variable {q r:Rat} {K:Nat}
theorem cRCeil (sx:SmQ K q) (hK:K≤10000000):Cal Tryz.prog OQ 204 [rA q] (rA (-(((-q).floor:Int):Rat))):=by
 refine fn_call TK MX Tryz.func204 rfl (by kernel_rfl) (by kernel_rfl) (by kernel_rfl) rfl rfl ?_
 conv=>whnf
 refine ⟨_,cRNeg,?_⟩
 conv=>whnf
 refine ⟨_,cRFloor sx.neg hK,?_⟩
 conv=>whnf
 refine ⟨_,cRNeg,?_⟩
 conv=>whnf
 rfl
theorem cRHalf (sx:SmQ K q) (sy:SmQ K r) (hK:K≤3000000):Cal Tryz.prog OQ 206 [rA q,rA r] (rA (midQ q r)):=by
 refine fn_call TK MX Tryz.func206 rfl (by kernel_rfl) (by kernel_rfl) (by kernel_rfl) rfl rfl ?_
 conv=>whnf
 refine ⟨_,cRAdd sx sy (by omega),?_⟩
 conv=>whnf
 refine ⟨_,cRShift (k := -1) (sx.add sy) (by omega) (by decide) (by decide),?_⟩
 conv=>whnf
 rfl
end
theorem cRChosen {m:Nat} {lo hi st:Rat} {c:Int} {K:Nat} (s1:SmQ K lo) (s2:SmQ K hi) (s3:SmQ K st) (hK:K≤1000000) (h0:st+st≠0) (hm:m≤4):Cal Tryz.prog OQ 205 [iA (m:Nat),rA lo,rA hi,rA st,iA c] (rA (choQ m lo hi st c)):=by
 refine fn_callB [(1,[(0,6),(1,7),(4,11),(5,12)]),(3,[(0,7),(1,6),(2,11),(3,12)])] TK MX Tryz.func205 rfl (by kernel_rfl) (by kernel_rfl) (by kernel_rfl) rfl rfl ?_
 conv=>whnf
 refine ⟨_,cRAbs,?_⟩
 conv=>whnf
 refine ⟨_,cRAbs,?_⟩
 conv=>whnf
 refine ⟨_,cRCmp s1.absQ s2.absQ (by omega),?_⟩
 conv=>whnf
 by_cases hc:0<cmpQ (absQ lo) (absQ hi)
 ·rw [dT (show cmpQ (absQ lo) (absQ hi)>0 from hc)]
  conv=>whnf
  rcases (show m=0∨m=1∨m=2∨m=3∨m=4 by omega) with rfl | rfl | rfl | rfl | rfl
  ·conv=>whnf
   rw [cho0]
   by_cases c1:c<0
   ·rw [dT c1,if_pos c1]
    conv=>whnf
    rfl
   ·rw [dF c1,if_neg c1]
    conv=>whnf
    by_cases c2:0<c
    ·rw [dT (show c>0 from c2),if_pos c2]
     conv=>whnf
     rfl
    ·rw [dF (show ¬ c>0 from c2),if_neg c2]
     conv=>whnf
     refine ⟨_,cRAdd s3 s3 (by omega),?_⟩
     conv=>whnf
     refine ⟨_,cROver (K:=K+K+1) (s1.mono (by omega)) (s3.add s3) (by omega) h0,?_⟩
     conv=>whnf
     refine ⟨_,cRIsInt (s1.div (s3.add s3) h0) (by omega),?_⟩
     conv=>whnf
     by_cases hd:(lo/(st+st)).den=1
     ·rw [dT hd,if_pos hd]
      conv=>whnf
      rfl
     ·rw [dF hd,if_neg hd]
      conv=>whnf
      rfl
  ·conv=>whnf
   rw [cho1,if_pos hc]
   by_cases c1:c<0
   ·rw [dT c1,if_pos c1]
    conv=>whnf
    rfl
   ·rw [dF c1,if_neg c1]
    conv=>whnf
    by_cases c2:0<c
    ·rw [dT (show c>0 from c2),if_pos c2]
     conv=>whnf
     rfl
    ·rw [dF (show ¬ c>0 from c2),if_neg c2]
     conv=>whnf
     rfl
  ·conv=>whnf
   rw [cho2,if_pos hc]
   rfl
  ·conv=>whnf
   rw [cho3]
   rfl
  ·conv=>whnf
   rw [cho4]
   rfl
 ·rw [dF (show ¬ cmpQ (absQ lo) (absQ hi)>0 from hc)]
  conv=>whnf
  rcases (show m=0∨m=1∨m=2∨m=3∨m=4 by omega) with rfl | rfl | rfl | rfl | rfl
  ·conv=>whnf
   rw [cho0]
   by_cases c1:c<0
   ·rw [dT c1,if_pos c1]
    conv=>whnf
    rfl
   ·rw [dF c1,if_neg c1]
    conv=>whnf
    by_cases c2:0<c
    ·rw [dT (show c>0 from c2),if_pos c2]
     conv=>whnf
     rfl
    ·rw [dF (show ¬ c>0 from c2),if_neg c2]
     conv=>whnf
     refine ⟨_,cRAdd s3 s3 (by omega),?_⟩
     conv=>whnf
     refine ⟨_,cROver (K:=K+K+1) (s1.mono (by omega)) (s3.add s3) (by omega) h0,?_⟩
     conv=>whnf
     refine ⟨_,cRIsInt (s1.div (s3.add s3) h0) (by omega),?_⟩
     conv=>whnf
     by_cases hd:(lo/(st+st)).den=1
     ·rw [dT hd,if_pos hd]
      conv=>whnf
      rfl
     ·rw [dF hd,if_neg hd]
      conv=>whnf
      rfl
  ·conv=>whnf
   rw [cho1,if_neg hc]
   by_cases c1:c<0
   ·rw [dT c1,if_pos c1]
    conv=>whnf
    rfl
   ·rw [dF c1,if_neg c1]
    conv=>whnf
    by_cases c2:0<c
    ·rw [dT (show c>0 from c2),if_pos c2]
     conv=>whnf
     rfl
    ·rw [dF (show ¬ c>0 from c2),if_neg c2]
     conv=>whnf
     rfl
  ·conv=>whnf
   rw [cho2,if_neg hc]
   rfl
  ·conv=>whnf
   rw [cho3]
   rfl
  ·conv=>whnf
   rw [cho4]
   rfl
section
variable {E P m:Nat} {q:Rat} {K:Nat}
def lg0 (b:Nat) (q:Rat):Int:=if q=0 then -(b:Int) else lgQ q
def stE (E P:Nat) (q:Rat):Int:=rdK P (bias E) (lg0 (bias E) q)
theorem lg0_sm {b:Nat} (hb:b≤1023) (sx:SmQ K q) : -(K:Int)-1024≤lg0 b q∧lg0 b q≤K+1024:=by
 unfold lg0
 split
 ·omega
 ·rename_i h0
  have:=(lg_is h0).bound sx.absQ
  omega
theorem stE_sm (hF:Fmt E P) (sx:SmQ K q) (hK:K≤100000):(stE E P q).natAbs<K+4000:=by
 have hb:=(fmt_n hF).2.2.2.2.2;have hP:=(fmt_n hF).2.2.2.1
 have:=lg0_sm hb sx
 unfold stE rdK rdF
 omega
theorem cRStep (hF:Fmt E P) (sx:SmQ K q) (hK:K≤100000):Cal Tryz.prog OQ 139 [fA E P,rA q] (rA ((2:Rat)^(stE E P q))):=by
 have hb:=(fmt_n hF).2.2.2.2.2;have hP:=(fmt_n hF).2.2.2.1;refine fn_callB [(3,[(0,3),(3,2),(7,4)])] TK MX Tryz.func139 rfl (by kernel_rfl) (by kernel_rfl) (by kernel_rfl) rfl rfl ?_
 conv=>whnf
 refine ⟨_,cRBelow hF sx (by omega),?_⟩
 conv=>whnf
 by_cases h:absQ q<(2:Rat)^(1-(bias E:Int))
 ·rw [dT h]
  conv=>whnf
  refine ⟨_,cRLeast hF,?_⟩
  conv=>whnf
  have e:stE E P q=2-(bias E:Int)-P:=by
   unfold stE lg0 rdK rdF
   by_cases h0:q=0
   ·rw [if_pos h0];omega
   ·rw [if_neg h0];have:=(below_log h0).1 h;omega
  rw [e]
  rfl
 ·rw [dF h]
  conv=>whnf
  have h0:q≠0:=by
   rintro rfl
   exact h (by rw [absQ_nonneg Rat.le_refl];exact p2_pos _)
  have hl:=(lg_is h0).bound sx.absQ;have hlg:¬ lgQ q<1-(bias E:Int):=fun k=>h ((below_log h0).2 k);refine ⟨_,cRLog sx (by omega) h0 (lg_is h0),?_⟩
  conv=>whnf
  rw [IntWalk.i64_in (lgQ q-(P:Int)) (by omega),IntWalk.i64_in (lgQ q-(P:Int)+1) (by omega)];refine ⟨_,cRTwo (by omega) (by omega),?_⟩
  conv=>whnf
  have e:stE E P q=lgQ q-P+1:=by
   unfold stE lg0 rdK rdF;rw [if_neg h0];omega
  rw [e]
  rfl
end
section
variable {E P m n f:Nat} {q:Rat} {K:Nat}
theorem wv_carry {b:Nat} (hP:1≤P):wv P b (2^P) f=wv P b (2^(P-1)) (f+1):=by
 unfold wv;have e:2^P=2^(P-1)*2:=by rw [←Nat.pow_succ];congr 1;omega
 rw [e,Rat.natCast_mul,show 2-(b:Int)-P+((f+1:Nat):Int)=2-(b:Int)-P+(f:Int)+1 by omega,p2_succ]
 have:((2:Nat):Rat)=2:=rfl
 rw [this];grind
theorem field_fits (hE:2≤E) (hP:1≤P) (h:f=0∨2^(P-1)≤n) (hf:n+f*2^(P-1)<2^(E+P-1)):f+1≤2^E-1:=by
 have h4:2^2≤2^E:=Nat.pow_le_pow_right (by decide) hE
 rcases h with h | h
 ·omega
 ·rw [pow_EP hP,Nat.mul_comm (2^(P-1))] at hf;have hp:0<2^(P-1):=Nat.pow_pos (by decide);have h1:(f+1)*2^(P-1)<2^E*2^(P-1):=by rw [Nat.add_mul];omega
  have:=Nat.lt_of_mul_lt_mul_right h1
  omega
theorem cRWordV {neg:Bool} (hF:Fmt E P) (hn:n≤2^P) (h:f=0∨2^(P-1)≤n) (hf:n+f*2^(P-1)<2^(E+P-1)):Cal Tryz.prog OQ 82 [fA E P,bA neg,rA (wv P (bias E) n f)] (wA (wordN E P neg n f)):=by
 have hE:=(fmt_n hF).1;have hP:1≤P:=by have:=(fmt_n hF).2.2.1;omega
 have hpp:2^P=2*2^(P-1):=by rw [←Nat.pow_succ'];congr 1;omega
 have hp:0<2^(P-1):=Nat.pow_pos (by decide)
 rcases Nat.lt_or_eq_of_le hn with h1 | h1
 ·rw [←codeN_word _ hf]
  exact cRWord0 hF h1 h (field_fits hE hP h hf)
 ·subst h1;have hf':2^(P-1)+(f+1)*2^(P-1)<2^(E+P-1):=by rw [Nat.add_mul];omega
  have e:wordN E P neg (2^P) f=wordN E P neg (2^(P-1)) (f+1):=by
   rw [wordN_eq neg hf,wordN_eq neg hf',Nat.add_mul];omega
  rw [wv_carry hP,e,←codeN_word _ hf']
  exact cRWord0 hF (by omega) (.inr (Nat.le_refl _)) (field_fits hE hP (.inr (Nat.le_refl _)) hf')
theorem cRMultiple (hF:Fmt E P) (hm:m≤4) (sx:SmQ K q) (hK:K≤12000):Cal Tryz.prog OQ 122 [fA E P,iA (m:Nat),rA q] (rA (mulQ m q ((2:Rat)^(stE E P q)))):=by
 have ss:SmQ 20000 ((2:Rat)^(stE E P q)):=(p2_sm (stE_sm hF sx (by omega))).mono (by omega);have sx':SmQ 20000 q:=sx.mono (by omega);have hs:=p2_pos (stE E P q);refine fn_callB [(3,[(0,8),(2,7),(4,8),(6,7),(10,9),(11,10)]),(4,[(1,9),(2,10),(3,7),(4,5),(5,9),(6,10),(10,6)])] TK MX Tryz.func122 rfl (by kernel_rfl) (by kernel_rfl) (by kernel_rfl) rfl rfl ?_
 conv=>whnf
 refine ⟨_,cRStep hF sx (by omega),?_⟩;unfold mulQ lowQ highQ;generalize (2:Rat)^(stE E P q)=st at *
 have hs0:st≠0:=by grind
 have st2:st+st≠0:=by grind
 conv=>whnf
 refine ⟨_,cROver sx' ss (by decide) hs0,?_⟩;have s1:=sx'.div ss hs0
 conv=>whnf
 refine ⟨_,cRFloor s1 (by decide),?_⟩;have s2:=s1.floor;have s3:=(s1.neg).floor.neg
 conv=>whnf
 refine ⟨_,cRTimes s2 (ss.mono (by decide)) (by decide),?_⟩;have s4:=s2.mul ss;have s5:=s3.mul ss
 conv=>whnf
 refine ⟨_,cRCeil s1 (by decide),?_⟩
 conv=>whnf
 refine ⟨_,cRTimes s3 (ss.mono (by decide)) (by decide),?_⟩
 conv=>whnf
 generalize ((q/st).floor:Rat)*st=lo at *
 generalize -(((-(q/st)).floor:Int):Rat)*st=hi at *
 refine ⟨_,cRHalf s4 s5 (by decide),?_⟩
 conv=>whnf
 refine ⟨_,cRCmp (K:=200000) (sx'.mono (by decide)) (((s4.add s5).mul_p2 (-1) 2 (by decide)).mono (by decide)) (by decide),?_⟩
 conv=>whnf
 refine ⟨_,cRChosen s4 s5 (ss.mono (by decide)) (by decide) st2 hm,?_⟩
 conv=>whnf
 rfl
theorem mulQ_zero {s:Rat}:mulQ m 0 s=0:=by
 unfold mulQ lowQ highQ;have e1:(0:Rat)/s=0:=by rw [Rat.div_def,Rat.zero_mul]
 have e2:(-(0:Rat))=0:=by decide +kernel
 have e3:(((0:Rat).floor:Int):Rat)=0:=by decide +kernel
 rw [e1,e2,e3,e2,Rat.zero_mul,choQ_same]
theorem mulQ_sz (hm:m≤4) (h0:q≠0):mulQ m q ((2:Rat)^(stE E P q))=sgnQ (decide (q.num<0))*szQ E P m q:=by
 have e:stE E P q=rdK P (bias E) (lgQ q):=by unfold stE lg0;rw [if_neg h0]
 have f1:=floor_le_rd P (bias E) (lgQ q) q;have h:=mulQ_eq hm (t:=rdT P (bias E) (lgQ q) q) (s:=(2:Rat)^(rdK P (bias E) (lgQ q))) (n:=rdN P (bias E) (lgQ q) q) (decide (q.num<0)) (p2_pos _) f1.1 f1.2;rw [←absQ_back,show sgnQ (decide (q.num<0))*absQ q=q from absQ_sign q] at h;rw [e,h,endN_st]
 rfl
theorem cRStays {neg:Bool} (hm:m≤4):Cal Tryz.prog OQ 202 [iA (m:Nat),bA neg] (bA (decide (modeN m neg=2∨modeN m neg=4))):=by
 refine fn_call TK MX Tryz.func202 rfl (by kernel_rfl) (by kernel_rfl) (by kernel_rfl) rfl rfl ?_
 rcases (show m=0∨m=1∨m=2∨m=3∨m=4 by omega) with rfl | rfl | rfl | rfl | rfl<;>cases neg<;>(conv=>whnf)<;>rfl
end
section
variable {E P m n f:Nat} {q:Rat} {K:Nat}
def resW (E P m:Nat) (neg:Bool) (n f:Nat) (ex tiny:Bool):Nat×Nat :=
 if wv P (bias E) n f≤grQ P (bias E) then (wordN E P neg n f,endF ex tiny)
 else if modeN m neg=2∨modeN m neg=4 then (wordN E P neg (2^P-1) (2*bias E-1),20) else (infw E P neg,20)
theorem grQ_wv (hE:2≤E):grQ P (bias E)=wv P (bias E) (2^P-1) (2*bias E-1):=by
 have:=bias_pos hE
 unfold grQ wv
 congr 2
 omega
theorem cRResult {s:Int} {neg ex tiny:Bool} {y:Rat} (hF:Fmt E P) (hm:m≤4) (hs:decide (s<0)=neg) (hy:y=sgnQ neg*wv P (bias E) n f) (sy:SmQ K y) (hK:K≤100000) (hn:n≤2^P) (h:f=0∨2^(P-1)≤n) :
  Cal Tryz.prog OQ 199 [fA E P,iA (m:Nat),iA s,rA y,bA ex,bA tiny] (resA (resW E P m neg n f ex tiny)):=by
 have hE:=(fmt_n hF).1;have hP:1≤P:=by have:=(fmt_n hF).2.2.1;omega
 have hay:absQ y=wv P (bias E) n f:=by rw [hy];exact absQ_signed (wv_nonneg _ _ _ _) neg
 refine fn_callB [(5,[(0,6),(2,6),(6,12)]),(12,[(0,6),(2,9),(6,12)])] TK MX Tryz.func199 rfl (by kernel_rfl) (by kernel_rfl) (by kernel_rfl) rfl rfl ?_
 conv=>whnf
 refine ⟨_,cRBeyond hF sy (by omega),?_⟩
 conv=>whnf
 rw [hay,hs];unfold resW
 by_cases hg:wv P (bias E) n f≤grQ P (bias E)
 ·rw [dF (Rat.not_lt.2 hg),if_pos hg];have hfit:=end_fits (E:=E) (by omega) hP hn h hg
  cases ex
  ·cases tiny
   ·conv=>whnf
    refine ⟨_,cRAbs,?_⟩;rw [hay]
    conv=>whnf
    refine ⟨_,cRWordV hF hn h hfit,?_⟩
    conv=>whnf
    rfl
   ·conv=>whnf
    refine ⟨_,cRAbs,?_⟩;rw [hay]
    conv=>whnf
    refine ⟨_,cRWordV hF hn h hfit,?_⟩
    conv=>whnf
    rfl
  ·conv=>whnf
   refine ⟨_,cRAbs,?_⟩;rw [hay]
   conv=>whnf
   refine ⟨_,cRWordV hF hn h hfit,?_⟩
   conv=>whnf
   rfl
 ·rw [dT (Rat.not_le.1 hg),if_neg hg]
  conv=>whnf
  refine ⟨_,cRStays hm,?_⟩
  conv=>whnf
  by_cases hc:modeN m neg=2∨modeN m neg=4
  ·rw [dT hc,if_pos hc]
   conv=>whnf
   refine ⟨_,cRGreatest hF,?_⟩
   conv=>whnf
   rw [grQ_wv hE];have hp:2^P=2*2^(P-1):=by rw [←Nat.pow_succ'];congr 1;omega
   have hp1:0<2^(P-1):=Nat.pow_pos (by decide);refine ⟨_,cRWordV hF (by omega) (.inr (by omega)) (great_fits hE hP),?_⟩
   conv=>whnf
   rfl
  ·rw [dF hc,if_neg hc]
   conv=>whnf
   refine ⟨_,cRInf hF,?_⟩
   conv=>whnf
   rfl
theorem szQ_wv:szQ E P m q=wv P (bias E) (stN (modeN m (decide (q.num<0))) (rdN P (bias E) (lgQ q) q) (rdT P (bias E) (lgQ q) q)) (rdF (bias E) (lgQ q)):=rfl
theorem sgn_lt:decide (q.num.sign<0)=decide (q.num<0):=by
 have:q.num.sign<0↔q.num<0:=Int.sign_neg_iff
 simp only [this]
theorem szQ_sm (hF:Fmt E P) (sx:SmQ K q) (hK:K≤12000) (h0:q≠0):SmQ 30000 (sgnQ (decide (q.num<0))*szQ E P m q):=by
 have hP:=(fmt_n hF).2.2.2.1;have hl:=(lg_is h0).bound sx.absQ;have hb:=(fmt_n hF).2.2.2.2.2;have h1:=rdN_lt (P:=P) (b:=bias E) (lg_is h0);have h2:=(stN_le (modeN m (decide (q.num<0))) (rdN P (bias E) (lgQ q) q) (rdT P (bias E) (lgQ q) q)).2;have h3:2^P≤2^113:=Nat.pow_le_pow_right (by decide) hP;have hz:SmQ 20200 (szQ E P m q):=by
  unfold szQ szR
  exact ((SmQ.nat (K:=114) (by decide) (by have:2^114=2*2^113:=(by decide);omega)).mul_p2 _ 20000 (by unfold rdK rdF;omega)).mono (by decide)
 unfold sgnQ
 split
 ·have : -1*szQ E P m q = -szQ E P m q:=by grind
  rw [this];exact hz.neg.mono (by decide)
 ·rw [Rat.one_mul];exact hz.mono (by decide)
theorem cRRounded (hF:Fmt E P) (hm:m≤4) (sx:SmQ K q) (hK:K≤12000):Cal Tryz.prog OQ 117 [fA E P,iA (m:Nat),rA q] (resA (rq E P m q)):=by
 have hE:=(fmt_n hF).1;have hP:1≤P:=by have:=(fmt_n hF).2.2.1;omega
 have sx':SmQ 30000 q:=sx.mono (by omega);refine fn_callB [(2,[(0,3),(2,5),(4,8),(5,5),(6,8),(9,3),(10,5),(15,6)])] TK MX Tryz.func117 rfl (by kernel_rfl) (by kernel_rfl) (by kernel_rfl) rfl rfl ?_
 conv=>whnf
 refine ⟨_,cRMultiple hF hm sx hK,?_⟩
 conv=>whnf
 refine ⟨_,cRSign,?_⟩
 conv=>whnf
 by_cases h0:q=0
 ·subst h0;rw [mulQ_zero,rq_zero];refine ⟨_,cRCmp sx' (SmQ.zero _ (by decide)) (by decide),?_⟩
  conv=>whnf
  refine ⟨_,cRBelow hF sx' (by decide),?_⟩
  conv=>whnf
  rw [cmpQ_self];refine ⟨_,cRResult (n:=0) (f:=0) (neg:=false) hF hm rfl (by unfold wv;grind) (SmQ.zero 1 (by decide)) (by decide) (Nat.zero_le _) (.inl rfl),?_⟩;have e:resW E P m false 0 0 ((0:Int)==0) (decide (absQ 0<(2:Rat)^(1-(bias E:Int))))=(0,0):=by
   unfold resW wv;have hz:((0:Nat):Rat)*(2:Rat)^(2-((bias E:Nat):Int)-P+((0:Nat):Int))=0:=by
    have:((0:Nat):Rat)=0:=rfl
    rw [this,Rat.zero_mul]
   rw [hz,if_pos (grQ_nonneg _ _)]
   have:wordN E P false 0 0=0:=by rw [wordN_eq false (by simp;exact Nat.pow_pos (by decide))];simp
   rw [this];rfl
  rw [e]
  conv=>whnf
  rfl
 ·rw [mulQ_sz hm h0];have sz:=szQ_sm (m:=m) hF sx hK h0;refine ⟨_,cRCmp sx' sz (by decide),?_⟩
  conv=>whnf
  refine ⟨_,cRBelow hF sx' (by decide),?_⟩
  conv=>whnf
  rw [sz_exact];have hst:=stN_le (modeN m (decide (q.num<0))) (rdN P (bias E) (lgQ q) q) (rdT P (bias E) (lgQ q) q);have hlt:=rdN_lt (P:=P) (b:=bias E) (lg_is h0);refine ⟨_,cRResult (n:=stN (modeN m (decide (q.num<0))) (rdN P (bias E) (lgQ q) q) (rdT P (bias E) (lgQ q) q)) (f:=rdF (bias E) (lgQ q)) (neg:=decide (q.num<0)) hF hm sgn_lt (by rw [szQ_wv]) sz (by decide) (by omega) (by
   rcases rdN_ge (b:=bias E) hP (lg_is h0) with h | h
   ·exact .inl h
   ·exact .inr (by omega)),?_⟩
  have e:resW E P m (decide (q.num<0)) (stN (modeN m (decide (q.num<0))) (rdN P (bias E) (lgQ q) q) (rdT P (bias E) (lgQ q) q)) (rdF (bias E) (lgQ q)) (decide ((rdT P (bias E) (lgQ q) q).den=1)) (decide (absQ q<(2:Rat)^(1-(bias E:Int))))=rq E P m q:=by
   rw [rq_eq h0];unfold resW endR wv;rw [endN_st]
   have:decide (absQ q<(2:Rat)^(1-(bias E:Int)))=decide (lgQ q<1-((bias E:Nat):Int)):=by simp only [below_log h0]
   rw [this]
  rw [e]
  conv=>whnf
  rfl
theorem ask_good {E P M:Int} (h:(0≤M∧M≤4)∧Fmt E P):askZ E P M=0:=by
 unfold askZ fmtZ;rw [if_pos h.1,if_pos h.2]
theorem ask_bad {E P M:Int} (h:¬ ((0≤M∧M≤4)∧Fmt E P)):askZ E P M=2:=by
 unfold askZ fmtZ
 by_cases h1:0≤M∧M≤4
 ·rw [if_pos h1,if_neg (fun k=>h ⟨h1,k⟩)]
 ·rw [if_neg h1]
theorem cRRound (hF:Fmt E P) (hm:m≤4) (sx:SmQ K q) (hK:K≤12000):Cal Tryz.prog OQ 39 [fA E P,iA (m:Nat),rA q] (res3 (rq E P m q)):=by
 refine fn_call TK MX Tryz.func39 rfl (by kernel_rfl) (by kernel_rfl) (by kernel_rfl) rfl rfl ?_
 conv=>whnf
 refine ⟨_,cRAsked,?_⟩;rw [ask_good ⟨⟨by omega,by omega⟩,hF⟩]
 conv=>whnf
 refine ⟨_,cRRounded hF hm sx hK,?_⟩
 conv=>whnf
 rfl
theorem cRRoundBad {E P M:Int} (h:¬ ((0≤M∧M≤4)∧Fmt E P)):Cal Tryz.prog OQ 39 [fA E P,iA M,rA q] (.t [wA 0,iA 0,iA 2]):=by
 refine fn_call TK MX Tryz.func39 rfl (by kernel_rfl) (by kernel_rfl) (by kernel_rfl) rfl rfl ?_
 conv=>whnf
 refine ⟨_,cRAsked,?_⟩;rw [ask_bad h]
 conv=>whnf
 rfl
end
end Go.Proofs.YtgabigepocfllaaGreatDoor
