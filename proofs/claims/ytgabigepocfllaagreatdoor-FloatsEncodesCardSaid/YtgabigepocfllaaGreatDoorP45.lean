/- Plain: a number rounded by its two neighbouring multiples of the step is rounded as its size is by halves. -/
import Derived.Test.YtgabigepocfllaaGreatDoorP44
import Derived.Test.YtgabigepocfllaaGreatDoorP42
namespace Go.Proofs.YtgabigepocfllaaGreatDoor
open Go.RowKit Vn
set_option maxRecDepth 100000
set_option maxHeartbeats 8000000
section
variable {low high step:Rat} {c:Int} {o:Bool}
end
section
variable {q r:Rat} {K:Nat}
end
section
variable {E P m:Nat} {q:Rat} {K:Nat}
def lg0 (b:Nat) (q:Rat):Int:=if q=0 then -(b:Int) else lgQ q
def stE (E P:Nat) (q:Rat):Int:=rdK P (bias E) (lg0 (bias E) q)
theorem lg0_sm {b:Nat} (hb:b≤1023) (sx:SmQ K q) : -(K:Int)-1024≤lg0 b q∧lg0 b q≤K+1024:=by
 unfold lg0
 split
 ·omega
 ·rename_i h0
  have:=(lg_is h0).bound sx.absQ
  omega
theorem stE_sm (hF:Fmt E P) (sx:SmQ K q) (hK:K≤100000):(stE E P q).natAbs<K+4000:=by
 have hb:=(fmt_n hF).2.2.2.2.2;have hP:=(fmt_n hF).2.2.2.1
 have:=lg0_sm hb sx
 unfold stE rdK rdF
 omega
theorem cRStep (hF:Fmt E P) (sx:SmQ K q) (hK:K≤100000):Cal Tryz.prog OQ 139 [fA E P,rA q] (rA ((2:Rat)^(stE E P q))):=by
 have hb:=(fmt_n hF).2.2.2.2.2;have hP:=(fmt_n hF).2.2.2.1;refine fn_callB [(3,[(0,3),(3,2),(7,4)])] TK MX Tryz.func139 rfl (by kernel_rfl) (by kernel_rfl) (by kernel_rfl) rfl rfl ?_
 conv=>whnf
 refine ⟨_,cRBelow hF sx (by omega),?_⟩
 conv=>whnf
 by_cases h:absQ q<(2:Rat)^(1-(bias E:Int))
 ·rw [dT h]
  conv=>whnf
  refine ⟨_,cRLeast hF,?_⟩
  conv=>whnf
  have e:stE E P q=2-(bias E:Int)-P:=by
   unfold stE lg0 rdK rdF
   by_cases h0:q=0
   ·rw [if_pos h0];omega
   ·rw [if_neg h0];have:=(below_log h0).1 h;omega
  rw [e]
  rfl
 ·rw [dF h]
  conv=>whnf
  have h0:q≠0:=by
   rintro rfl
   exact h (by rw [absQ_nonneg Rat.le_refl];exact p2_pos _)
  have hl:=(lg_is h0).bound sx.absQ;have hlg:¬ lgQ q<1-(bias E:Int):=fun k=>h ((below_log h0).2 k);refine ⟨_,cRLog sx (by omega) h0 (lg_is h0),?_⟩
  conv=>whnf
  rw [IntWalk.i64_in (lgQ q-(P:Int)) (by omega),IntWalk.i64_in (lgQ q-(P:Int)+1) (by omega)];refine ⟨_,cRTwo (by omega) (by omega),?_⟩
  conv=>whnf
  have e:stE E P q=lgQ q-P+1:=by
   unfold stE lg0 rdK rdF;rw [if_neg h0];omega
  rw [e]
  rfl
end
section
variable {E P m n f:Nat} {q:Rat} {K:Nat}
theorem wv_carry {b:Nat} (hP:1≤P):wv P b (2^P) f=wv P b (2^(P-1)) (f+1):=by
 unfold wv;have e:2^P=2^(P-1)*2:=by rw [←Nat.pow_succ];congr 1;omega
 rw [e,Rat.natCast_mul,show 2-(b:Int)-P+((f+1:Nat):Int)=2-(b:Int)-P+(f:Int)+1 by omega,p2_succ]
 have:((2:Nat):Rat)=2:=rfl
 rw [this];grind
theorem field_fits (hE:2≤E) (hP:1≤P) (h:f=0∨2^(P-1)≤n) (hf:n+f*2^(P-1)<2^(E+P-1)):f+1≤2^E-1:=by
 have h4:2^2≤2^E:=Nat.pow_le_pow_right (by decide) hE
 rcases h with h | h
 ·omega
 ·rw [pow_EP hP,Nat.mul_comm (2^(P-1))] at hf;have hp:0<2^(P-1):=Nat.pow_pos (by decide);have h1:(f+1)*2^(P-1)<2^E*2^(P-1):=by rw [Nat.add_mul];omega
  have:=Nat.lt_of_mul_lt_mul_right h1
  omega
theorem cRWordV {neg:Bool} (hF:Fmt E P) (hn:n≤2^P) (h:f=0∨2^(P-1)≤n) (hf:n+f*2^(P-1)<2^(E+P-1)):Cal Tryz.prog OQ 82 [fA E P,bA neg,rA (wv P (bias E) n f)] (wA (wordN E P neg n f)):=by
 have hE:=(fmt_n hF).1;have hP:1≤P:=by have:=(fmt_n hF).2.2.1;omega
 have hpp:2^P=2*2^(P-1):=by rw [←Nat.pow_succ'];congr 1;omega
 have hp:0<2^(P-1):=Nat.pow_pos (by decide)
 rcases Nat.lt_or_eq_of_le hn with h1 | h1
 ·rw [←codeN_word _ hf]
  exact cRWord0 hF h1 h (field_fits hE hP h hf)
 ·subst h1;have hf':2^(P-1)+(f+1)*2^(P-1)<2^(E+P-1):=by rw [Nat.add_mul];omega
  have e:wordN E P neg (2^P) f=wordN E P neg (2^(P-1)) (f+1):=by
   rw [wordN_eq neg hf,wordN_eq neg hf',Nat.add_mul];omega
  rw [wv_carry hP,e,←codeN_word _ hf']
  exact cRWord0 hF (by omega) (.inr (Nat.le_refl _)) (field_fits hE hP (.inr (Nat.le_refl _)) hf')
end
section
variable {E P m n f:Nat} {q:Rat} {K:Nat}
theorem ask_good {E P M:Int} (h:(0≤M∧M≤4)∧Fmt E P):askZ E P M=0:=by
 unfold askZ fmtZ;rw [if_pos h.1,if_pos h.2]
end
end Go.Proofs.YtgabigepocfllaaGreatDoor
