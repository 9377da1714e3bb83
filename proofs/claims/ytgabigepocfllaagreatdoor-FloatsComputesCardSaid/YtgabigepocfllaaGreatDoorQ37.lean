/- Plain: what a sum that is rounded to the nearest value differs by is a value. -/
import Derived.Test.YtgabigepocfllaaGreatDoorQ25
import Derived.Test.YtgabigepocfllaaGreatDoorQ28
namespace Go.Proofs.YtgabigepocfllaaGreatDoor
open Go.RowKit Vn
set_option maxRecDepth 100000
set_option maxHeartbeats 8000000
theorem end_fits {E P n f:Nat} (hE:1≤E) (hP:1≤P) (hn:n≤2^P) (hf:f=0∨2^(P-1)≤n) (hg:((n:Nat):Rat)*(2:Rat)^(2-(bias E:Int)-P+(f:Nat))≤grQ P (bias E)):n+f*2^(P-1)<2^(E+P-1):=by
 rcases Nat.lt_or_ge n (2^P) with h | h
 ·exact rd_fits hE hP h hf hg
 ·obtain rfl:n=2^P:=by omega
  have h1:(2:Rat)^((P:Int)+(2-(bias E:Int)-P+(f:Nat)))≤grQ P (bias E):=by rw [p2_add,p2_nat];exact hg
  have h2:=grQ_lt P (bias E);have h3:(2:Rat)^((P:Int)+(2-(bias E:Int)-P+(f:Nat)))<(2:Rat)^((bias E:Int)+1):=by grind
  rw [p2_lt_iff] at h3;have h4:=two_bias hE;have h5:2^P=2*2^(P-1):=by rw [←Nat.pow_succ'];congr 1;omega
  rw [pow_EP hP,h4,h5];have h6:f+2≤2*bias E:=by omega
  have h7:(f+2)*2^(P-1)≤2*bias E*2^(P-1):=Nat.mul_le_mul_right _ h6;have h8:2^(P-1)*(2*bias E+2)=2*bias E*2^(P-1)+2*2^(P-1):=by rw [Nat.mul_add,Nat.mul_comm,Nat.mul_comm (2^(P-1)) 2]
  have h9:(f+2)*2^(P-1)=f*2^(P-1)+2*2^(P-1):=by rw [Nat.add_mul]
  have hp:0<2^(P-1):=Nat.pow_pos (by decide)
  omega
theorem inf_word (E P:Nat) (s:Bool):infw E P s=wordN E P s 0 (2^E-1):=by unfold infw wordN;rw [Nat.zero_add]
theorem inf_ok {E P:Nat} (hP:1≤P) (s:Bool):infw E P s<2^(E+P)∧valueR E P (infw E P s)=(0,4):=by
 have hp:0<2^(P-1):=Nat.pow_pos (by decide);have he:0<2^E:=Nat.pow_pos (by decide);have h0:0+(2^E-1)*2^(P-1)<2^(E+P-1):=by
  rw [Nat.zero_add,pow_EP hP,Nat.mul_comm (2^(P-1))]
  exact Nat.mul_lt_mul_of_pos_right (by omega) hp
 have hlt:infw E P s<2^(E+P):=by rw [inf_word];exact wordN_lt (by omega) s h0
 refine ⟨hlt,?_⟩;have e1:wf E P (infw E P s)=2^E-1:=by rw [inf_word,wordN_wf hP s h0,Nat.zero_add,Nat.mul_div_cancel _ hp]
 have e2:wr P (infw E P s)=0:=by rw [inf_word,wordN_wr hP s h0,Nat.zero_mod]
 have e3:wkind E P (infw E P s)=3:=by unfold wkind;rw [if_pos e1,if_pos e2]
 unfold valueR;rw [if_neg (fun k=>k hlt),if_pos (by rw [e3];decide)]
theorem great_fits {E P:Nat} (hE:2≤E) (hP:1≤P):2^P-1+(2*bias E-1)*2^(P-1)<2^(E+P-1):=by
 have h4:=two_bias (E:=E) (by omega);have h5:2^P=2*2^(P-1):=by rw [←Nat.pow_succ'];congr 1;omega
 have hb:1≤bias E:=by
  have:2^2≤2^E:=Nat.pow_le_pow_right (by decide) hE
  omega
 rw [pow_EP hP,h4,h5];obtain ⟨c,hc⟩:∃ c,bias E=c+1:=⟨bias E-1,by omega⟩;rw [hc,show 2*(c+1)-1=2*c+1 by omega];have hp:0<2^(P-1):=Nat.pow_pos (by decide);generalize 2^(P-1)=t at *
 have e1:(2*c+1)*t=2*(c*t)+t:=by rw [Nat.add_mul,Nat.mul_assoc,Nat.one_mul]
 have e2:t*(2*(c+1)+2)=2*(c*t)+4*t:=by
  rw [Nat.mul_add,Nat.mul_comm t (2*(c+1)),Nat.mul_assoc,Nat.add_mul];omega
 omega
theorem roundR_lt {E P m:Nat} {q:Rat} {l:Int} (hE:2≤E) (hP:1≤P) (hl:IsLog (absQ q) l):(roundR E P (bias E) m q l).1<2^(E+P):=by
 have hN:=endN_le (P:=P) (b:=bias E) (m:=m) hl (decide (q.num<0)) (decide ((rdT P (bias E) l q).den=1)) (cmpQ ((rdT P (bias E) l q-(rdN P (bias E) l q:Nat))*2) 1);have hge:rdF (bias E) l=0∨2^(P-1)≤endN m (decide (q.num<0)) (rdN P (bias E) l q) (decide ((rdT P (bias E) l q).den=1)) (cmpQ ((rdT P (bias E) l q-(rdN P (bias E) l q:Nat))*2) 1):=by
  rcases rdN_ge (b:=bias E) hP hl with h | h
  ·exact .inl h
  ·exact .inr (Nat.le_trans h hN.2)
 unfold roundR endR
 split
 ·rename_i hg
  exact wordN_lt (by omega) _ (end_fits (by omega) hP hN.1 hge hg)
 ·split
  ·exact wordN_lt (by omega) _ (great_fits hE hP)
  ·exact (inf_ok hP _).1
theorem rnd_lt {E P m:Nat} {q:Rat} {l:Int} (hE:2≤E) (hP:1≤P) (hl:q≠0→IsLog (absQ q) l):(rnd E P (bias E) m q l).1<2^(E+P):=by
 unfold rnd
 split
 ·exact Nat.pow_pos (by decide)
 ·rename_i h
  exact roundR_lt hE hP (hl h)
def mag (E P n:Nat):Nat:=n%2^(E+P-1)
theorem mag_lt (E P n:Nat):mag E P n<2^(E+P-1):=Nat.mod_lt _ (Nat.pow_pos (by decide))
theorem mag_parts {E P n:Nat} (hP:1≤P):wfr E P n+(max (wf E P n) 1-1)*2^(P-1)=mag E P n:=by
 have e3:mag E P n=wr P n+wf E P n*2^(P-1):=by
  unfold mag wr wf;rw [pow_EP hP,Nat.mod_mul,Nat.mul_comm]
 rw [e3];unfold wfr
 split
 ·rename_i h0;rw [h0];simp
 ·rename_i h0
  have:wf E P n=(max (wf E P n) 1-1)+1:=by omega
  conv=>rhs;rw [this,Nat.add_mul]
  omega
theorem wordN_mag {E P:Nat} (neg:Bool) {m:Nat} (h:m<2^(E+P-1)):wordN E P neg m 0=m+2^(E+P-1)*(if neg=true then 1 else 0):=by
 have:=wordN_eq (E:=E) (P:=P) neg (n:=m) (f:=0) (by omega)
 rw [this];omega
theorem word_split {E P n:Nat} (hEP:1≤E+P) (hn:n<2^(E+P)):n=wordN E P (wn E P n) (mag E P n) 0:=by
 rw [wordN_mag _ (mag_lt E P n)];have h2:2^(E+P)=2*2^(E+P-1):=by rw [←Nat.pow_succ'];congr 1;omega
 have hq:n/2^(E+P-1)<2:=by rw [Nat.div_lt_iff_lt_mul (Nat.pow_pos (by decide))];omega
 have hdm:=Nat.div_add_mod n (2^(E+P-1));unfold mag wn
 by_cases h0:n/2^(E+P-1)=0
 ·rw [h0] at hdm;simp only [h0]
  simp
  omega
 ·have h1:n/2^(E+P-1)=1:=Nat.le_antisymm (Nat.le_of_lt_succ hq) (Nat.pos_of_ne_zero h0);rw [h1] at hdm;simp only [h1]
  simp
  omega
theorem rankZ_mag (E P n:Nat):rankZ E P n=if wn E P n=true then -((mag E P n:Nat):Int) else ((mag E P n:Nat):Int):=rfl
/-! ### values -/
theorem wn_mag {E P n:Nat}:wn E P (mag E P n)=false:=by
 unfold wn mag;rw [Nat.div_eq_of_lt (Nat.mod_lt _ (Nat.pow_pos (by decide)))];rfl
theorem wr_mag {E P n:Nat} (hP:1≤P):wr P (mag E P n)=wr P n:=by
 unfold wr mag;rw [pow_EP hP,Nat.mod_mul_right_mod]
theorem wf_mag {E P n:Nat} (hP:1≤P):wf E P (mag E P n)=wf E P n:=by
 unfold wf mag;rw [pow_EP hP,Nat.mod_mul,Nat.add_mul_div_left _ _ (Nat.pow_pos (by decide)),Nat.div_eq_of_lt (Nat.mod_lt _ (Nat.pow_pos (by decide))),Nat.zero_add,Nat.mod_mod]
theorem wval_mag {E P b n:Nat} (hP:1≤P):wval E P b n=(if wn E P n=true then -1 else 1)*wval E P b (mag E P n):=by
 unfold wval;rw [wn_mag,if_neg Bool.false_ne_true,Rat.one_mul];unfold wfr;rw [wr_mag hP,wf_mag hP]
theorem wkind_mag {E P n:Nat} (hP:1≤P):wkind E P (mag E P n)=wkind E P n:=by
 unfold wkind;rw [wr_mag hP,wf_mag hP]
theorem mag_self {E P m:Nat} (h:m<2^(E+P-1)):mag E P m=m:=Nat.mod_eq_of_lt h
theorem wval_pos_eq {E P b m:Nat} (h:m<2^(E+P-1)):wval E P b m=((wfr E P m:Nat):Rat)*(2:Rat)^(2-(b:Int)-P+((max (wf E P m) 1-1:Nat):Int)):=by
 have e:wn E P m=false:=by
  have := @wn_mag E P m
  rwa [mag_self h] at this
 unfold wval;rw [e,if_neg (by decide),Rat.one_mul]
theorem wval_succ {E P b m:Nat} (hP:1≤P) (h:m+1<2^(E+P-1)):wval E P b m<wval E P b (m+1):=by
 have hp:=mag_parts (E:=E) (n:=m) hP;rw [mag_self (show m<2^(E+P-1) by omega)] at hp;have hN:=wfr_lt (E:=E) (n:=m) hP;have hf:max (wf E P m) 1-1=0∨2^(P-1)≤wfr E P m:=by
  by_cases h0:wf E P m=0
  ·left;omega
  ·right;unfold wfr;rw [if_neg h0];omega
 have e1:wordN E P false (wfr E P m+1) (max (wf E P m) 1-1)=m+1:=by
  rw [wordN_eq false (by omega),if_neg (by decide)];omega
 have e2:=wordN_val (E:=E) (b:=b) hP false (n:=wfr E P m+1) (f:=max (wf E P m) 1-1) (by omega) (by omega) (by omega);rw [e1,if_neg (by decide),Rat.one_mul] at e2;rw [wval_pos_eq (show m<2^(E+P-1) by omega),e2,Rat.mul_lt_mul_right (p2_pos _),Rat.natCast_lt_natCast]
 omega
theorem wval_lt {E P b:Nat} (hP:1≤P):∀ (d m:Nat),m+d+1<2^(E+P-1)→wval E P b m<wval E P b (m+d+1)
 | 0,m,h=>wval_succ hP h
 | d+1,m,h=>by
  have h1:=wval_lt (E:=E) (P:=P) (b:=b) hP d m (by omega);have h2:=wval_succ (E:=E) (P:=P) (b:=b) (m:=m+d+1) hP (by omega)
  exact ltle h1 (Rat.le_of_lt h2)
theorem wval_mono {E P b m m':Nat} (hP:1≤P) (h:m<m') (h':m'<2^(E+P-1)):wval E P b m<wval E P b m':=by
 have:=wval_lt (E:=E) (P:=P) (b:=b) hP (m'-m-1) m (by omega)
 rwa [show m+(m'-m-1)+1=m' by omega] at this
theorem wval_le_iff {E P b m m':Nat} (hP:1≤P) (hm:m<2^(E+P-1)) (hm':m'<2^(E+P-1)):wval E P b m≤wval E P b m'↔m≤m':=by
 constructor
 ·intro h
  rcases Nat.lt_or_ge m' m with h1 | h1
  ·exact absurd h (Rat.not_le.2 (wval_mono hP h1 hm))
  ·exact h1
 ·intro h
  rcases Nat.lt_or_ge m m' with h1 | h1
  ·exact Rat.le_of_lt (wval_mono hP h1 hm')
  ·rw [show m=m' by omega];exact Rat.le_refl
theorem wval_zero (E P b:Nat):wval E P b 0=0:=by
 unfold wval wfr wf wr
 simp
theorem wval_nonneg {E P b m:Nat} (hP:1≤P) (hm:m<2^(E+P-1)):0≤wval E P b m:=by
 have:=(wval_le_iff (b:=b) hP (Nat.lt_of_le_of_lt (Nat.zero_le _) hm) hm).2 (Nat.zero_le m)
 rwa [wval_zero] at this
theorem rank_le_iff {E P b i j:Nat} (hP:1≤P):wval E P b i≤wval E P b j↔rankZ E P i≤rankZ E P j:=by
 rw [wval_mag hP (n:=i),wval_mag hP (n:=j),rankZ_mag,rankZ_mag];have hi:=mag_lt E P i;have hj:=mag_lt E P j;have h1:=wval_le_iff (b:=b) hP hi hj;have h2:=wval_le_iff (b:=b) hP hj hi;have ni:=wval_nonneg (b:=b) hP hi;have nj:=wval_nonneg (b:=b) hP hj;have zi:=wval_le_iff (E:=E) (P:=P) (b:=b) hP hi (Nat.lt_of_le_of_lt (Nat.zero_le _) hi);have zj:=wval_le_iff (E:=E) (P:=P) (b:=b) hP hj (Nat.lt_of_le_of_lt (Nat.zero_le _) hj);rw [wval_zero] at zi zj;generalize wval E P b (mag E P i)=x at *
 generalize wval E P b (mag E P j)=y at *
 generalize mag E P i=m at *
 generalize mag E P j=k at *
 cases wn E P i<;>cases wn E P j<;>simp only [if_pos,Bool.false_eq_true,if_false,Rat.one_mul,Rat.neg_mul]
 ·rw [h1];omega
 ·constructor
  ·intro h
   have a1:x≤0:=by grind
   have a2:y≤0:=by grind
   have:=zi.1 a1
   have:=zj.1 a2
   omega
  ·intro h
   have a1:x≤0:=zi.2 (by omega);have a2:y≤0:=zj.2 (by omega)
   grind
 ·constructor
  ·intro h;omega
  ·intro h;grind
 ·constructor
  ·intro h
   have:y≤x:=by grind
   have:=h2.1 this
   omega
  ·intro h
   have:=h2.2 (by omega)
   grind
theorem or_low {P T N:Nat} (h:N<2^P):T*2^P ||| N=N+T*2^P:=by
 have:=Nat.two_pow_add_eq_or_of_lt h T
 rw [Nat.mul_comm T,←this];omega
theorem special_fits {E P N:Nat} (hP:1≤P) (h:N<2^(P-1)):N+(2^E-1)*2^(P-1)<2^(E+P-1):=by
 rw [pow_EP hP];have hE:0<2^E:=Nat.pow_pos (by decide);obtain ⟨c,hc⟩:∃ c,2^E=c+1:=⟨2^E-1,by omega⟩;rw [hc,Nat.add_sub_cancel,Nat.mul_comm,Nat.mul_add]
 omega
def infZ (E P:Nat):Nat:=(2^E-1)*2^(P-1)
theorem infZ_lt {E P:Nat} (hP:1≤P):infZ E P<2^(E+P-1):=by
 have:=special_fits (E:=E) (P:=P) (N:=0) hP (Nat.pow_pos (by decide))
 rwa [Nat.zero_add] at this
theorem wval_inf {E P n:Nat} (hE:2≤E) (hP:1≤P) (hk:wkind E P n=3):wval E P (bias E) n=if wn E P n=true then -((2:Rat)^((bias E:Int)+1)) else (2:Rat)^((bias E:Int)+1):=by
 have h:wf E P n=2^E-1∧wr P n=0:=by
  unfold wkind at hk
  split at hk
  ·split at hk
   ·exact ⟨by assumption,by assumption⟩
   ·split at hk<;>cases hk
  ·split at hk<;>cases hk
 have h2:2^E=2*2^(E-1):=by rw [←Nat.pow_succ'];congr 1;omega
 have h3:2^1≤2^(E-1):=Nat.pow_le_pow_right (by decide) (by omega);have hv:((wfr E P n:Nat):Rat)*(2:Rat)^(2-((bias E:Nat):Int)-P+((max (wf E P n) 1-1:Nat):Int))=(2:Rat)^((bias E:Int)+1):=by
  unfold wfr;rw [h.1,h.2,if_neg (by omega),Nat.zero_add,←p2_nat,←p2_add]
  congr 1
  unfold bias
  omega
 unfold wval;rw [hv]
 split<;>grind
theorem cmpQ_le_iff {a b c d:Rat} (h1:a≤b↔c≤d) (h2:b≤a↔d≤c):cmpQ a b=cmpQ c d:=by
 unfold cmpQ
 by_cases k1:a<b
 ·have:c<d:=by
   refine Rat.not_le.1 (fun h => ?_)
   exact Rat.not_le.2 k1 (h2.2 h)
  rw [if_pos k1,if_pos this]
 ·have k2:b≤a:=Rat.not_lt.1 k1;have k3:¬ c<d:=Rat.not_lt.2 (h2.1 k2);rw [if_neg k1,if_neg k3]
  by_cases k4:b<a
  ·have:d<c:=by
    refine Rat.not_le.1 (fun h => ?_)
    exact Rat.not_le.2 k4 (h1.2 h)
   rw [if_pos k4,if_pos this]
  ·have:¬ d<c:=Rat.not_lt.2 (h1.1 (Rat.not_lt.1 k4))
   rw [if_neg k4,if_neg this]
theorem inf_kind {E P:Nat} (hP:1≤P) (s:Bool):wkind E P (infw E P s)=3:=by
 have hp:0<2^(P-1):=Nat.pow_pos (by decide);have h0:0+(2^E-1)*2^(P-1)<2^(E+P-1):=by
  rw [pow_EP hP,Nat.mul_comm (2^(P-1))]
  have:0<2^E:=Nat.pow_pos (by decide)
  have:=Nat.mul_lt_mul_of_pos_right (show 2^E-1<2^E by omega) hp
  omega
 have e1:wf E P (infw E P s)=2^E-1:=by rw [inf_word,wordN_wf hP s h0,Nat.zero_add,Nat.mul_div_cancel _ hp]
 have e2:wr P (infw E P s)=0:=by rw [inf_word,wordN_wr hP s h0,Nat.zero_mod]
 unfold wkind;rw [if_pos e1,if_pos e2]
def sgnQ (neg:Bool):Rat:=if neg=true then -1 else 1
end Go.Proofs.YtgabigepocfllaaGreatDoor
