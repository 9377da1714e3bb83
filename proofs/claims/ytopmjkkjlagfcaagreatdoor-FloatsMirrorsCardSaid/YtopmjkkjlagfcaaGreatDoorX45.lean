/- What the laws' walks share: the law returns true; numbers held against each other. -/
import Derived.Test.YtopmjkkjlagfcaaGreatDoorX39
import Derived.Test.YtopmjkkjlagfcaaGreatDoorX35
namespace Go.Proofs.YtopmjkkjlagfcaaGreatDoor
open Go.RowKit Vn
set_option maxRecDepth 100000
set_option maxHeartbeats 8000000
theorem sign_neg {q:Rat}:q.num.sign<0↔q<0:=by
 rw [Int.sign_neg_iff];exact num_neg_iff
theorem cmpQ_lt {q r:Rat}:cmpQ q r<0↔q<r:=by
 unfold cmpQ
 split
 ·rename_i h;exact ⟨fun _=>h,fun _=>by decide⟩
 ·rename_i h
  split
  ·exact ⟨fun k=>absurd k (by decide),fun k=>absurd k h⟩
  ·exact ⟨fun k=>absurd k (by decide),fun k=>absurd k h⟩
theorem cmpQ_gt {q r:Rat}:0<cmpQ q r↔r<q:=by
 unfold cmpQ
 split
 ·rename_i h;exact ⟨fun k=>absurd k (by decide),fun k=>absurd k (by grind)⟩
 ·split
  ·rename_i h1 h;exact ⟨fun _=>h,fun _=>by decide⟩
  ·rename_i h1 h;exact ⟨fun k=>absurd k (by decide),fun k=>absurd k h⟩
theorem end_fits {E P n f:Nat} (hE:1≤E) (hP:1≤P) (hn:n≤2^P) (hf:f=0∨2^(P-1)≤n) (hg:((n:Nat):Rat)*(2:Rat)^(2-(bias E:Int)-P+(f:Nat))≤grQ P (bias E)):n+f*2^(P-1)<2^(E+P-1):=by
 rcases Nat.lt_or_ge n (2^P) with h | h
 ·exact rd_fits hE hP h hf hg
 ·obtain rfl:n=2^P:=by omega
  have h1:(2:Rat)^((P:Int)+(2-(bias E:Int)-P+(f:Nat)))≤grQ P (bias E):=by rw [p2_add,p2_nat];exact hg
  have h2:=grQ_lt P (bias E);have h3:(2:Rat)^((P:Int)+(2-(bias E:Int)-P+(f:Nat)))<(2:Rat)^((bias E:Int)+1):=by grind
  rw [p2_lt_iff] at h3;have h4:=two_bias hE;have h5:2^P=2*2^(P-1):=by rw [←Nat.pow_succ'];congr 1;omega
  rw [pow_EP hP,h4,h5];have h6:f+2≤2*bias E:=by omega
  have h7:(f+2)*2^(P-1)≤2*bias E*2^(P-1):=Nat.mul_le_mul_right _ h6;have h8:2^(P-1)*(2*bias E+2)=2*bias E*2^(P-1)+2*2^(P-1):=by rw [Nat.mul_add,Nat.mul_comm,Nat.mul_comm (2^(P-1)) 2]
  have h9:(f+2)*2^(P-1)=f*2^(P-1)+2*2^(P-1):=by rw [Nat.add_mul]
  have hp:0<2^(P-1):=Nat.pow_pos (by decide)
  omega
theorem inf_word (E P:Nat) (s:Bool):infw E P s=wordN E P s 0 (2^E-1):=by unfold infw wordN;rw [Nat.zero_add]
theorem inf_ok {E P:Nat} (hP:1≤P) (s:Bool):infw E P s<2^(E+P)∧valueR E P (infw E P s)=(0,4):=by
 have hp:0<2^(P-1):=Nat.pow_pos (by decide);have he:0<2^E:=Nat.pow_pos (by decide);have h0:0+(2^E-1)*2^(P-1)<2^(E+P-1):=by
  rw [Nat.zero_add,pow_EP hP,Nat.mul_comm (2^(P-1))]
  exact Nat.mul_lt_mul_of_pos_right (by omega) hp
 have hlt:infw E P s<2^(E+P):=by rw [inf_word];exact wordN_lt (by omega) s h0
 refine ⟨hlt,?_⟩;have e1:wf E P (infw E P s)=2^E-1:=by rw [inf_word,wordN_wf hP s h0,Nat.zero_add,Nat.mul_div_cancel _ hp]
 have e2:wr P (infw E P s)=0:=by rw [inf_word,wordN_wr hP s h0,Nat.zero_mod]
 have e3:wkind E P (infw E P s)=3:=by unfold wkind;rw [if_pos e1,if_pos e2]
 unfold valueR;rw [if_neg (fun k=>k hlt),if_pos (by rw [e3];decide)]
theorem great_fits {E P:Nat} (hE:2≤E) (hP:1≤P):2^P-1+(2*bias E-1)*2^(P-1)<2^(E+P-1):=by
 have h4:=two_bias (E:=E) (by omega);have h5:2^P=2*2^(P-1):=by rw [←Nat.pow_succ'];congr 1;omega
 have hb:1≤bias E:=by
  have:2^2≤2^E:=Nat.pow_le_pow_right (by decide) hE
  omega
 rw [pow_EP hP,h4,h5];obtain ⟨c,hc⟩:∃ c,bias E=c+1:=⟨bias E-1,by omega⟩;rw [hc,show 2*(c+1)-1=2*c+1 by omega];have hp:0<2^(P-1):=Nat.pow_pos (by decide);generalize 2^(P-1)=t at *
 have e1:(2*c+1)*t=2*(c*t)+t:=by rw [Nat.add_mul,Nat.mul_assoc,Nat.one_mul]
 have e2:t*(2*(c+1)+2)=2*(c*t)+4*t:=by
  rw [Nat.mul_add,Nat.mul_comm t (2*(c+1)),Nat.mul_assoc,Nat.add_mul];omega
 omega
def mag (E P n:Nat):Nat:=n%2^(E+P-1)
theorem mag_lt (E P n:Nat):mag E P n<2^(E+P-1):=Nat.mod_lt _ (Nat.pow_pos (by decide))
theorem wordN_mag {E P:Nat} (neg:Bool) {m:Nat} (h:m<2^(E+P-1)):wordN E P neg m 0=m+2^(E+P-1)*(if neg=true then 1 else 0):=by
 have:=wordN_eq (E:=E) (P:=P) neg (n:=m) (f:=0) (by omega)
 rw [this];omega
theorem word_split {E P n:Nat} (hEP:1≤E+P) (hn:n<2^(E+P)):n=wordN E P (wn E P n) (mag E P n) 0:=by
 rw [wordN_mag _ (mag_lt E P n)];have h2:2^(E+P)=2*2^(E+P-1):=by rw [←Nat.pow_succ'];congr 1;omega
 have hq:n/2^(E+P-1)<2:=by rw [Nat.div_lt_iff_lt_mul (Nat.pow_pos (by decide))];omega
 have hdm:=Nat.div_add_mod n (2^(E+P-1));unfold mag wn
 by_cases h0:n/2^(E+P-1)=0
 ·rw [h0] at hdm;simp only [h0]
  simp
  omega
 ·have h1:n/2^(E+P-1)=1:=Nat.le_antisymm (Nat.le_of_lt_succ hq) (Nat.pos_of_ne_zero h0);rw [h1] at hdm;simp only [h1]
  simp
  omega
/-! ### values -/
theorem wn_mag {E P n:Nat}:wn E P (mag E P n)=false:=by
 unfold wn mag;rw [Nat.div_eq_of_lt (Nat.mod_lt _ (Nat.pow_pos (by decide)))];rfl
theorem wr_mag {E P n:Nat} (hP:1≤P):wr P (mag E P n)=wr P n:=by
 unfold wr mag;rw [pow_EP hP,Nat.mod_mul_right_mod]
theorem wf_mag {E P n:Nat} (hP:1≤P):wf E P (mag E P n)=wf E P n:=by
 unfold wf mag;rw [pow_EP hP,Nat.mod_mul,Nat.add_mul_div_left _ _ (Nat.pow_pos (by decide)),Nat.div_eq_of_lt (Nat.mod_lt _ (Nat.pow_pos (by decide))),Nat.zero_add,Nat.mod_mod]
theorem wval_mag {E P b n:Nat} (hP:1≤P):wval E P b n=(if wn E P n=true then -1 else 1)*wval E P b (mag E P n):=by
 unfold wval;rw [wn_mag,if_neg Bool.false_ne_true,Rat.one_mul];unfold wfr;rw [wr_mag hP,wf_mag hP]
theorem wkind_mag {E P n:Nat} (hP:1≤P):wkind E P (mag E P n)=wkind E P n:=by
 unfold wkind;rw [wr_mag hP,wf_mag hP]
theorem or_low {P T N:Nat} (h:N<2^P):T*2^P ||| N=N+T*2^P:=by
 have:=Nat.two_pow_add_eq_or_of_lt h T
 rw [Nat.mul_comm T,←this];omega
theorem inf_or {E P N:Nat} (neg:Bool) (h:N<2^(P-1)):infw E P neg ||| N=wordN E P neg N (2^E-1):=by
 unfold infw wordN;rw [Nat.or_assoc,or_low h]
theorem special_fits {E P N:Nat} (hP:1≤P) (h:N<2^(P-1)):N+(2^E-1)*2^(P-1)<2^(E+P-1):=by
 rw [pow_EP hP];have hE:0<2^E:=Nat.pow_pos (by decide);obtain ⟨c,hc⟩:∃ c,2^E=c+1:=⟨2^E-1,by omega⟩;rw [hc,Nat.add_sub_cancel,Nat.mul_comm,Nat.mul_add]
 omega
end Go.Proofs.YtopmjkkjlagfcaaGreatDoor
