/- Plain: the words of infinities and NaN, out of their parts. -/
import Derived.Test.YtopmjkkjlagfcaaGreatDoorO27
import Derived.Test.YtopmjkkjlagfcaaGreatDoorO38
namespace Go.Proofs.YtopmjkkjlagfcaaGreatDoor
open Go.RowKit Vn
set_option maxRecDepth 100000
set_option maxHeartbeats 8000000
theorem or_low {P T N:Nat} (h:N<2^P):T*2^P ||| N=N+T*2^P:=by
 have:=Nat.two_pow_add_eq_or_of_lt h T
 rw [Nat.mul_comm T,←this];omega
theorem special_fits {E P N:Nat} (hP:1≤P) (h:N<2^(P-1)):N+(2^E-1)*2^(P-1)<2^(E+P-1):=by
 rw [pow_EP hP];have hE:0<2^E:=Nat.pow_pos (by decide);obtain ⟨c,hc⟩:∃ c,2^E=c+1:=⟨2^E-1,by omega⟩;rw [hc,Nat.add_sub_cancel,Nat.mul_comm,Nat.mul_add]
 omega
def infZ (E P:Nat):Nat:=(2^E-1)*2^(P-1)
theorem infZ_lt {E P:Nat} (hP:1≤P):infZ E P<2^(E+P-1):=by
 have:=special_fits (E:=E) (P:=P) (N:=0) hP (Nat.pow_pos (by decide))
 rwa [Nat.zero_add] at this
theorem infZ_pos {E P:Nat} (hE:1≤E):0<infZ E P:=by
 have h1:2^1≤2^E:=Nat.pow_le_pow_right (by decide) hE
 exact Nat.mul_pos (by omega) (Nat.pow_pos (by decide))
theorem infw_rankW {E P:Nat} (hE:1≤E) (s:Bool):infw E P s=rankW E P (if s=true then -((infZ E P:Nat):Int) else ((infZ E P:Nat):Int)):=by
 have h0:=infZ_pos (P:=P) hE;unfold rankW infw infZ at *
 cases s
 ·rw [if_neg (by decide),decide_eq_false (by omega),Int.natAbs_natCast]
 ·rw [if_pos rfl,decide_eq_true (by omega),Int.natAbs_neg,Int.natAbs_natCast]
theorem mag_eq {E P n:Nat} (hP:1≤P):mag E P n=wr P n+wf E P n*2^(P-1):=by
 unfold mag;rw [pow_EP hP,Nat.mod_mul,Nat.mul_comm]
 rfl
theorem kind_mag {E P n:Nat} (hP:1≤P):wkind E P n≤3↔mag E P n≤infZ E P:=by
 have hr:wr P n<2^(P-1):=Nat.mod_lt _ (Nat.pow_pos (by decide));have hf:wf E P n<2^E:=Nat.mod_lt _ (Nat.pow_pos (by decide));rw [mag_eq hP];unfold infZ wkind
 by_cases h:wf E P n=2^E-1
 ·rw [if_pos h,h]
  by_cases h2:wr P n=0
  ·rw [if_pos h2];omega
  ·rw [if_neg h2];split<;>omega
 ·rw [if_neg h];have h3:(wf E P n+1)*2^(P-1)≤(2^E-1)*2^(P-1):=Nat.mul_le_mul_right _ (by omega);rw [Nat.add_mul,Nat.one_mul] at h3
  split<;>omega
theorem kind_inf {E P n:Nat} (hP:1≤P):wkind E P n=3↔mag E P n=infZ E P:=by
 have hr:wr P n<2^(P-1):=Nat.mod_lt _ (Nat.pow_pos (by decide));have hf:wf E P n<2^E:=Nat.mod_lt _ (Nat.pow_pos (by decide));rw [mag_eq hP];unfold infZ wkind
 by_cases h:wf E P n=2^E-1
 ·rw [if_pos h,h]
  by_cases h2:wr P n=0
  ·rw [if_pos h2];omega
  ·rw [if_neg h2];split<;>omega
 ·rw [if_neg h];have h3:(wf E P n+1)*2^(P-1)≤(2^E-1)*2^(P-1):=Nat.mul_le_mul_right _ (by omega);rw [Nat.add_mul,Nat.one_mul] at h3
  split<;>omega
theorem rank_abs (E P n:Nat):(rankZ E P n).natAbs=mag E P n:=by
 rw [rankZ_mag];split<;>omega
theorem rank_zero_kind {E P n:Nat} (hP:1≤P) (hE:1≤E) (hk:wkind E P n≠1):rankZ E P n≠0:=by
 intro h
 have h1:=rank_abs E P n;rw [h] at h1;have h2:=mag_eq (E:=E) (n:=n) hP;have hp:0<2^(P-1):=Nat.pow_pos (by decide);have h3:wr P n=0∧wf E P n*2^(P-1)=0:=by
  rw [←h1] at h2
  simp at h2
  omega
 have h4:wf E P n=0:=by
  rcases Nat.mul_eq_zero.1 h3.2 with k | k
  ·exact k
  ·omega
 apply hk
 unfold wkind;have h5:2^1≤2^E:=Nat.pow_le_pow_right (by decide) hE;rw [if_neg (by omega),if_pos ⟨h4,h3.1⟩]
def nextU (E P n:Nat):Nat:=if n=infw E P false then n else if rankZ E P n+1=0 then sgb E P true else rankW E P (rankZ E P n+1)
def nextD (E P n:Nat):Nat:=if n=infw E P true then n else rankW E P (rankZ E P n + -1)
theorem sgb_rank {E P:Nat} (s:Bool):rankZ E P (sgb E P s)=0:=by
 have h:mag E P (sgb E P s)=0:=by
  unfold mag sgb
  split
  ·exact Nat.mod_self _
  ·exact Nat.zero_mod _
 have:=rank_abs E P (sgb E P s)
 rw [h] at this
 omega
theorem sgb_lt {E P:Nat} (h:1≤E+P) (s:Bool):sgb E P s<2^(E+P):=by
 rw [sgb_word]
 exact wordN_lt h s (by
  have:0<2^(E+P-1):=Nat.pow_pos (by decide)
  omega)
theorem up_facts {E P n:Nat} (hE:1≤E) (hP:1≤P) (hn:n<2^(E+P)) (hk:wkind E P n≤3) (hi:n≠infw E P false) :
  nextU E P n<2^(E+P)∧rankZ E P (nextU E P n)=rankZ E P n+1∧wkind E P (nextU E P n)≤3∧(rankZ E P n+1).natAbs≤infZ E P:=by
 have hI:=infZ_lt (E:=E) hP;have hI0:=infZ_pos (P:=P) hE;have hm:=(kind_mag hP).1 hk;have ha:=rank_abs E P n;have hne:rankZ E P n≠((infZ E P:Nat):Int):=by
  intro h
  apply hi
  have h1:=rankW_rankZ (by omega) hn (by omega:rankZ E P n≠0);rw [h] at h1;rw [←h1,infw_rankW hE false,if_neg (by decide)]
 have hb:(rankZ E P n+1).natAbs≤infZ E P:=by omega
 unfold nextU;rw [if_neg hi]
 split
 ·rename_i h0
  refine ⟨sgb_lt (by omega) _,by rw [sgb_rank,h0],?_,hb⟩;rw [kind_mag hP,←rank_abs,sgb_rank]
  exact Nat.zero_le _
 ·have h1:=rankZ_rankW (E:=E) (P:=P) (z:=rankZ E P n+1) (by omega);refine ⟨rankW_lt (by omega) (by omega),h1,?_,hb⟩;rw [kind_mag hP,←rank_abs,h1];exact hb

end Go.Proofs.YtopmjkkjlagfcaaGreatDoor
