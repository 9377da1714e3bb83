/- The reference: the walked functions, in the words of reckoning. -/
import Derived.Test.YtgabigepocfllaaGreatDoorQ30
import Derived.Test.YtgabigepocfllaaGreatDoorQ35
namespace Go.Proofs.YtgabigepocfllaaGreatDoor
open Go.RowKit Vn
set_option maxRecDepth 100000
set_option maxHeartbeats 8000000
def rOC (k:Int) (neg:Bool) (q:Rat):List AC:=.v (.int .i64 k) :: .v (.bool neg) :: rnumA q
abbrev rOA (k:Int) (neg:Bool) (q:Rat):AV:=.g (rOC k neg q)
section
variable {S:Nat→Prop} {w:World}
end
section
variable {q r:Rat} {K:Nat}
theorem cRSign  : Cal Tryz.prog OQ 86 [rA q] (.c (.v (.int .i64 (q.num.sign)))) :=
 calA [.r q] (r:=.s (.int .i64 (q.num.sign))) (by kernel_rfl) rfl fun w vs _ hv=>by
  obtain ⟨x,rfl,hx⟩:=one_arg hv;exact (rsign_c x q w hx).mono fun _ _ ⟨h1,h2⟩=>⟨_,h1,rfl,h2⟩
theorem cRNeg  : Cal Tryz.prog OQ 197 [rA q] (rA (-q)) :=
 calA [.r q] (r:=.r (-q)) (by kernel_rfl) rfl fun w vs _ hv=>by
  obtain ⟨x,rfl,hx⟩:=one_arg hv;exact (rneg_c x q w hx).mono fun _ _ ⟨v,h1,h2,h3⟩=>⟨v,h1,h2,h3⟩
theorem cRAbs  : Cal Tryz.prog OQ 83 [rA q] (rA (absQ q)) :=
 calA [.r q] (r:=.r (absQ q)) (by kernel_rfl) rfl fun w vs _ hv=>by
  obtain ⟨x,rfl,hx⟩:=one_arg hv;exact (rabs_c x q w hx).mono fun _ _ ⟨v,h1,h2,h3⟩=>⟨v,h1,h2,h3⟩
theorem cRAdd (sx:SmQ K q) (sy:SmQ K r) (hK:K≤10000000):Cal Tryz.prog OQ 89 [rA q,rA r] (rA (q+r)) :=
 calA [.r q,.r r] (r:=.r (q+r)) (by kernel_rfl) rfl fun w vs _ hv=>by
  obtain ⟨x,y,rfl,hx,hy⟩:=two_args hv;exact (raddq_c x y q r K w hx hy sx sy hK).mono fun _ _ ⟨v,h1,h2,h3⟩=>⟨v,h1,h2,h3⟩
theorem cRSub (sx:SmQ K q) (sy:SmQ K r) (hK:K≤10000000):Cal Tryz.prog OQ 129 [rA q,rA r] (rA (q-r)) :=
 calA [.r q,.r r] (r:=.r (q-r)) (by kernel_rfl) rfl fun w vs _ hv=>by
  obtain ⟨x,y,rfl,hx,hy⟩:=two_args hv;exact (rsubq_c x y q r K w hx hy sx sy hK).mono fun _ _ ⟨v,h1,h2,h3⟩=>⟨v,h1,h2,h3⟩
theorem cRCmp (sx:SmQ K q) (sy:SmQ K r) (hK:K≤10000000):Cal Tryz.prog OQ 87 [rA q,rA r] (.c (.v (.int .i64 (cmpQ q r)))) :=
 calA [.r q,.r r] (r:=.s (.int .i64 (cmpQ q r))) (by kernel_rfl) rfl fun w vs _ hv=>by
  obtain ⟨x,y,rfl,hx,hy⟩:=two_args hv;exact (rcmpq_c x y q r K w hx hy sx sy hK).mono fun _ _ ⟨h1,h2⟩=>⟨_,h1,rfl,h2⟩
theorem cRIsInt (sx:SmQ K q) (hK:K≤10000000):Cal Tryz.prog OQ 85 [rA q] (.c (.v (.bool (decide (q.den=1))))) :=
 calA [.r q] (r:=.s (.bool (decide (q.den=1)))) (by kernel_rfl) rfl fun w vs _ hv=>by
  obtain ⟨x,rfl,hx⟩:=one_arg hv;exact (risint_c x q K w hx sx (by omega)).mono fun _ _ ⟨h1,h2⟩=>⟨_,h1,rfl,h2⟩
theorem cRFloor (sx:SmQ K q) (hK:K≤10000000):Cal Tryz.prog OQ 203 [rA q] (rA ((q.floor:Int):Rat)) :=
 calA [.r q] (r:=.r ((q.floor:Int):Rat)) (by kernel_rfl) rfl fun w vs _ hv=>by
  obtain ⟨x,rfl,hx⟩:=one_arg hv;exact (rfloor_c x q K w hx sx hK).mono fun _ _ ⟨v,h1,h2,h3⟩=>⟨v,h1,h2,h3⟩
theorem cRShift {k:Int} (sx:SmQ K q) (hK:K≤10000000) (h0 : -1000000≤k) (h1:k≤1000000):Cal Tryz.prog OQ 141 [rA q,.c (.v (.int .i64 (k)))] (rA (q*(2:Rat)^k)) :=
 calA [.r q,.s (.int .i64 (k))] (r:=.r (q*(2:Rat)^k)) (by kernel_rfl) rfl fun w vs _ hv=>by
  obtain ⟨x,y,rfl,hx,rfl⟩:=two_args hv;exact (rshiftq_c x q K k w hx sx h0 h1 hK).mono fun _ _ ⟨v,h1,h2,h3⟩=>⟨v,h1,h2,h3⟩
theorem cRTwo {k:Int} (h0 : -1000000≤k) (h1:k≤1000000):Cal Tryz.prog OQ 88 [.c (.v (.int .i64 (k)))] (rA ((2:Rat)^k)) :=
 calA [.s (.int .i64 (k))] (r:=.r ((2:Rat)^k)) (by kernel_rfl) rfl fun w vs _ hv=>by
  obtain ⟨x,rfl,rfl⟩:=one_arg hv;exact (rtwo_c k w h0 h1).mono fun _ _ ⟨v,h1,h2,h3⟩=>⟨v,h1,h2,h3⟩
theorem cRInt {n:Int} (h0 : -9223372036854775808≤n) (h1:n<9223372036854775808):Cal Tryz.prog OQ 132 [.c (.v (.int .i64 (n)))] (rA ((n:Int):Rat)) :=
 calA [.s (.int .i64 (n))] (r:=.r ((n:Int):Rat)) (by kernel_rfl) rfl fun w vs _ hv=>by
  obtain ⟨x,rfl,rfl⟩:=one_arg hv;exact (rint_c n w h0 h1).mono fun _ _ ⟨v,h1,h2,h3⟩=>⟨v,h1,h2,h3⟩
theorem cRInt64 {N:Int} (h0 : -9223372036854775808≤N) (h1:N<9223372036854775808):Cal Tryz.prog OQ 133 [rA ((N:Int):Rat)] (.t [.c (.v (.int .i64 (N))),.c (.v (.int .i64 (0)))]) :=
 calA2 [.r ((N:Int):Rat)] (r:=.s (.int .i64 (N))) (s:=.s (.int .i64 (0))) (by kernel_rfl) rfl rfl fun w vs _ hv=>by
  obtain ⟨x,rfl,hx⟩:=one_arg hv;exact (rint64_c x N w hx h0 h1).mono fun _ _ ⟨h1,h2⟩=>⟨_,_,h1,rfl,rfl,h2⟩
theorem cRLog {l:Int} (sx:SmQ K q) (hK:K≤300000) (h0:q≠0) (hl:IsLog (absQ q) l):Cal Tryz.prog OQ 176 [rA q] (iA l) :=
 calA [.r q] (r:=.s (.int .i64 l)) (by kernel_rfl) rfl fun w vs _ hv=>by
  obtain ⟨x,rfl,hx⟩:=one_arg hv;exact (rlog_c x q K w hx sx hK h0).mono fun _ _ ⟨k,h1,h2,h3⟩=>⟨_,h1,(by rw [hl.unique h2.o];rfl),h3⟩
theorem four_args {w:World} {vs:List Value} {a b c d:Arg} (h:All2 (RepA w) vs [a,b,c,d]):∃ x y z u,vs=[x,y,z,u]∧RepA w x a∧RepA w y b∧RepA w z c∧RepA w u d:=by
 match vs,h with
 | [x,y,z,u],h=>exact ⟨x,y,z,u,rfl,h.1,h.2.1,h.2.2.1,h.2.2.2.1⟩
theorem cRTimes (sx:SmQ K q) (sy:SmQ K r) (hK:K≤10000000):Cal Tryz.prog OQ 153 [rA q,rA r] (rA (q*r)) :=
 calA [.r q,.r r] (r:=.r (q*r)) (by kernel_rfl) rfl fun w vs _ hv=>by
  obtain ⟨x,y,rfl,hx,hy⟩:=two_args hv;exact (rtimes_c x y q r K w hx hy sx sy hK).mono fun _ _ ⟨v,h1,h2,h3⟩=>⟨v,h1,h2,h3⟩
theorem cROver (sx:SmQ K q) (sy:SmQ K r) (hK:K≤10000000) (hr:r≠0):Cal Tryz.prog OQ 140 [rA q,rA r] (rA (q/r)) :=
 calA [.r q,.r r] (r:=.r (q/r)) (by kernel_rfl) rfl fun w vs _ hv=>by
  obtain ⟨x,y,rfl,hx,hy⟩:=two_args hv;exact (rover_c x y q r K w hx hy sx sy hK hr).mono fun _ _ ⟨v,h1,h2,h3⟩=>⟨v,h1,h2,h3⟩
end
theorem cRCheck {E P:Int}:Cal Tryz.prog OQ 29 [fA E P] (.c (.v (.int .i64 (fmtZ E P)))) :=
 calA [.m [.int .i64 E,.int .i64 P]] (r:=.s (.int .i64 (fmtZ E P))) (by kernel_rfl) rfl fun w vs _ hv=>by
  obtain ⟨x,rfl,rfl⟩:=one_arg hv;exact (rcheck_c E P w).mono fun _ _ ⟨h1,h2⟩=>⟨_,h1,rfl,h2⟩
theorem cRAsked {E P m:Int}:Cal Tryz.prog OQ 114 [fA E P,.c (.v (.int .i64 (m)))] (.c (.v (.int .i64 (askZ E P m)))) :=
 calA [.m [.int .i64 E,.int .i64 P],.s (.int .i64 (m))] (r:=.s (.int .i64 (askZ E P m))) (by kernel_rfl) rfl fun w vs _ hv=>by
  obtain ⟨x,y,rfl,rfl,rfl⟩:=two_args hv;exact (rasked_c E P m w).mono fun _ _ ⟨h1,h2⟩=>⟨_,h1,rfl,h2⟩
section
variable {E P n:Nat} {neg:Bool} {q:Rat} {K:Nat}
theorem cRBias (hF:Fmt E P):Cal Tryz.prog OQ 142 [fA (E:Nat) (P:Nat)] (.c (.v (.int .i64 ((bias E:Nat))))) :=
 calA [.m [.int .i64 (E:Nat),.int .i64 (P:Nat)]] (r:=.s (.int .i64 ((bias E:Nat)))) (by kernel_rfl) rfl fun w vs _ hv=>by
  obtain ⟨x,rfl,rfl⟩:=one_arg hv;exact (rbias_c E P w hF).mono fun _ _ ⟨h1,h2⟩=>⟨_,h1,rfl,h2⟩
theorem cRLeast (hF:Fmt E P):Cal Tryz.prog OQ 55 [fA (E:Nat) (P:Nat)] (rA ((2:Rat)^(2-(bias E:Int)-P))) :=
 calA [.m [.int .i64 (E:Nat),.int .i64 (P:Nat)]] (r:=.r ((2:Rat)^(2-(bias E:Int)-P))) (by kernel_rfl) rfl fun w vs _ hv=>by
  obtain ⟨x,rfl,rfl⟩:=one_arg hv;exact (rleast_c E P w hF).mono fun _ _ ⟨v,h1,h2,h3⟩=>⟨v,h1,h2,h3⟩
theorem cRNormal (hF:Fmt E P):Cal Tryz.prog OQ 56 [fA (E:Nat) (P:Nat)] (rA ((2:Rat)^(1-(bias E:Int)))) :=
 calA [.m [.int .i64 (E:Nat),.int .i64 (P:Nat)]] (r:=.r ((2:Rat)^(1-(bias E:Int)))) (by kernel_rfl) rfl fun w vs _ hv=>by
  obtain ⟨x,rfl,rfl⟩:=one_arg hv;exact (rnormal_c E P w hF).mono fun _ _ ⟨v,h1,h2,h3⟩=>⟨v,h1,h2,h3⟩
theorem cRGreatest (hF:Fmt E P):Cal Tryz.prog OQ 54 [fA (E:Nat) (P:Nat)] (rA (grQ P (bias E))) :=
 calA [.m [.int .i64 (E:Nat),.int .i64 (P:Nat)]] (r:=.r (grQ P (bias E))) (by kernel_rfl) rfl fun w vs _ hv=>by
  obtain ⟨x,rfl,rfl⟩:=one_arg hv;exact (rgreatest_c E P w hF).mono fun _ _ ⟨v,h1,h2,h3⟩=>⟨v,h1,h2,h3⟩
theorem cRBelow (hF:Fmt E P) (sx:SmQ K q) (hK:K≤1000000):Cal Tryz.prog OQ 175 [fA (E:Nat) (P:Nat),rA q] (.c (.v (.bool (decide (absQ q<(2:Rat)^(1-(bias E:Int))))))) :=
 calA [.m [.int .i64 (E:Nat),.int .i64 (P:Nat)],.r q] (r:=.s (.bool (decide (absQ q<(2:Rat)^(1-(bias E:Int)))))) (by kernel_rfl) rfl fun w vs _ hv=>by
  obtain ⟨y,x,rfl,rfl,hx⟩:=two_args hv;exact (rbelow_c E P x q K w hF hx sx hK).mono fun _ _ ⟨h1,h2⟩=>⟨_,h1,rfl,h2⟩
theorem cRBeyond (hF:Fmt E P) (sx:SmQ K q) (hK:K≤1000000):Cal Tryz.prog OQ 138 [fA (E:Nat) (P:Nat),rA q] (.c (.v (.bool (decide (grQ P (bias E)<absQ q))))) :=
 calA [.m [.int .i64 (E:Nat),.int .i64 (P:Nat)],.r q] (r:=.s (.bool (decide (grQ P (bias E)<absQ q)))) (by kernel_rfl) rfl fun w vs _ hv=>by
  obtain ⟨y,x,rfl,rfl,hx⟩:=two_args hv;exact (rbeyond_c E P x q K w hF hx sx hK).mono fun _ _ ⟨h1,h2⟩=>⟨_,h1,rfl,h2⟩
theorem cRTop (hF:Fmt E P):Cal Tryz.prog OQ 91 [fA (E:Nat) (P:Nat)] (.c (.v (.int .i64 (((2^E-1:Nat):Int))))) :=
 calA [.m [.int .i64 (E:Nat),.int .i64 (P:Nat)]] (r:=.s (.int .i64 (((2^E-1:Nat):Int)))) (by kernel_rfl) rfl fun w vs _ hv=>by
  obtain ⟨x,rfl,rfl⟩:=one_arg hv;exact (rtop_c E P w hF).mono fun _ _ ⟨h1,h2⟩=>⟨_,h1,rfl,h2⟩
theorem cRInf (hF:Fmt E P):Cal Tryz.prog OQ 84 [fA (E:Nat) (P:Nat),.c (.v (.bool (neg)))] (wA (infw E P neg)) :=
 calA [.m [.int .i64 (E:Nat),.int .i64 (P:Nat)],.s (.bool (neg))] (r:=.w (infw E P neg)) (by kernel_rfl) rfl fun w vs _ hv=>by
  obtain ⟨x,y,rfl,rfl,rfl⟩:=two_args hv;exact (rinfinite_c E P neg w hF).mono fun _ _ ⟨h1,h2⟩=>⟨_,h1,rfl,h2⟩
theorem cRNaN (hF:Fmt E P):Cal Tryz.prog OQ 150 [fA (E:Nat) (P:Nat)] (wA (nanw E P)) :=
 calA [.m [.int .i64 (E:Nat),.int .i64 (P:Nat)]] (r:=.w (nanw E P)) (by kernel_rfl) rfl fun w vs _ hv=>by
  obtain ⟨x,rfl,rfl⟩:=one_arg hv;exact (rNaN_c E P w hF).mono fun _ _ ⟨h1,h2⟩=>⟨_,h1,rfl,h2⟩
theorem cRIs (hF:Fmt E P) (hn:W128 n):Cal Tryz.prog OQ 193 [fA (E:Nat) (P:Nat),wA n] (.c (.v (.bool (decide (n<2^(E+P)))))) :=
 calA [.m [.int .i64 (E:Nat),.int .i64 (P:Nat)],.w n] (r:=.s (.bool (decide (n<2^(E+P))))) (by kernel_rfl) rfl fun w vs _ hv=>by
  obtain ⟨x,y,rfl,rfl,rfl⟩:=two_args hv;exact (ris_c E P n w hF hn).mono fun _ _ ⟨h1,h2⟩=>⟨_,h1,rfl,h2⟩
theorem cRBits (hn:W128 n):Cal Tryz.prog OQ 194 [wA n] (rA ((n:Nat):Rat)) :=
 calA [.w n] (r:=.r ((n:Nat):Rat)) (by kernel_rfl) rfl fun w vs _ hv=>by
  obtain ⟨x,rfl,rfl⟩:=one_arg hv;exact (rbits_c n w hn).mono fun _ _ ⟨v,h1,h2,h3⟩=>⟨v,h1,h2,h3⟩
theorem cRPacked (hn:W128 n):Cal Tryz.prog OQ 183 [rA ((n:Nat):Rat)] (wA n) :=
 calA [.r ((n:Nat):Rat)] (r:=.w n) (by kernel_rfl) rfl fun w vs _ hv=>by
  obtain ⟨x,rfl,hx⟩:=one_arg hv;exact (rpacked_c x n w hx hn).mono fun _ _ ⟨h1,h2⟩=>⟨_,h1,rfl,h2⟩
theorem cRCoded {f r:Nat} (hF:Fmt E P) (hf:f≤4096) (hr:r<2^115) (hc:codeN E P neg f r<340282366920938463463374607431768211456):Cal Tryz.prog OQ 90 [fA (E:Nat) (P:Nat),.c (.v (.bool (neg))),.c (.v (.int .i64 ((f:Nat)))),rA ((r:Nat):Rat)] (wA (codeN E P neg f r)) :=
 calA [.m [.int .i64 (E:Nat),.int .i64 (P:Nat)],.s (.bool (neg)),.s (.int .i64 ((f:Nat))),.r ((r:Nat):Rat)] (r:=.w (codeN E P neg f r)) (by kernel_rfl) rfl fun w vs _ hv=>by
  obtain ⟨y,z,u,x,rfl,rfl,rfl,rfl,hx⟩:=four_args hv;exact (rcoded_c E P neg f r x w hF hx hf hr hc).mono fun _ _ ⟨h1,h2⟩=>⟨_,h1,rfl,h2⟩
theorem cRWord0 {f:Nat} (hF:Fmt E P) (hn:n<2^P) (h:f=0∨2^(P-1)≤n) (hf:f+1≤2^E-1):Cal Tryz.prog OQ 82 [fA (E:Nat) (P:Nat),.c (.v (.bool (neg))),rA (wv P (bias E) n f)] (wA (codeN E P neg f n)) :=
 calA [.m [.int .i64 (E:Nat),.int .i64 (P:Nat)],.s (.bool (neg)),.r (wv P (bias E) n f)] (r:=.w (codeN E P neg f n)) (by kernel_rfl) rfl fun w vs _ hv=>by
  obtain ⟨y,z,x,rfl,rfl,rfl,hx⟩:=three_args hv;exact (rword_c E P n f neg x w hF hx hn h hf).mono fun _ _ ⟨h1,h2⟩=>⟨_,h1,rfl,h2⟩
theorem cRPart {fr b:Nat} (hN:n<2^200) (h1:fr≤1000) (h2:b≤1000):Cal Tryz.prog OQ 195 [rA ((n:Nat):Rat),.c (.v (.int .i64 (fr:Nat))),.c (.v (.int .i64 (b:Nat)))] (rA ((n/2^fr%2^b:Nat):Rat)) :=
 calA [.r ((n:Nat):Rat),.s (.int .i64 (fr:Nat)),.s (.int .i64 (b:Nat))] (r:=.r ((n/2^fr%2^b:Nat):Rat)) (by kernel_rfl) rfl fun w vs _ hv=>by
  obtain ⟨x,y,z,rfl,hx,rfl,rfl⟩:=three_args hv;exact (rpart_c x n fr b fr b w hx hN rfl rfl h1 h2).mono fun _ _ ⟨v,h1,h2,h3⟩=>⟨v,h1,h2,h3⟩
theorem cRSmall (hn:n<4294967296):Cal Tryz.prog OQ 196 [rA ((n:Nat):Rat)] (.c (.v (.int .u64 (n:Nat)))) :=
 calA [.r ((n:Nat):Rat)] (r:=.s (.int .u64 (n:Nat))) (by kernel_rfl) rfl fun w vs _ hv=>by
  obtain ⟨x,rfl,hx⟩:=one_arg hv;exact (rsmall_c x n w hx hn).mono fun _ _ ⟨h1,h2⟩=>⟨_,h1,rfl,h2⟩
end
theorem wr7 {f b P:Nat} (h:f≤100000) (h1:b≤100000) (h2:P≤1000):IntKind.i64.wrap (IntKind.i64.wrap (IntKind.i64.wrap ((f:Int)-b)-P)+1)=(f:Int)-b-P+1:=by
 rw [IntWalk.i64_in ((f:Int)-b) (by omega),IntWalk.i64_in ((f:Int)-b-P) (by omega),IntWalk.i64_in _ (by omega)]
section
variable {E P n:Nat}
theorem sgn_nat (k:Nat):(((k:Nat):Rat).num.sign==0)=decide (k=0):=by
 have:((k:Nat):Rat).num=(k:Int):=rfl
 rw [this,Bool.eq_iff_iff];simp
theorem sgn_natp (k:Nat):decide (((k:Nat):Rat).num.sign>0)=decide (k≠0):=by
 have:((k:Nat):Rat).num=(k:Int):=rfl
 rw [this,Bool.eq_iff_iff,decide_eq_true_iff,decide_eq_true_iff]
 rcases Nat.eq_zero_or_pos k with h | h
 ·subst h;decide
 ·have:((k:Nat):Int).sign=1:=Int.sign_eq_one_of_pos (by omega)
  omega
theorem cRLook (hF:Fmt E P) (hn:n<2^(E+P)):Cal Tryz.prog OQ 109 [fA (E:Nat) (P:Nat),wA n] (rOA (wkind E P n) (wn E P n) (wvalK E P (bias E) n)):=by
 obtain ⟨⟨hE,hE1⟩,⟨hP,hP1⟩,hb,hEP,_⟩:=fmt_bounds hF;have h8:=w128 hF hn;have hn2:n<2^200:=Nat.lt_of_lt_of_le h8 (by decide);have hr:wr P n<2^(P-1):=Nat.mod_lt _ (Nat.pow_pos (by decide));have hr3:wr P n<2^112:=Nat.lt_of_lt_of_le hr (Nat.pow_le_pow_right (by decide) (by omega));have hf:wf E P n<2^E:=Nat.mod_lt _ (Nat.pow_pos (by decide));have hpE:2^E≤2048:=Nat.pow_le_pow_right (n:=2) (j:=11) (by decide) hE1;have ef:n/2^(P-1)%2^E=wf E P n:=rfl;have er:n/2^0%2^(P-1)=wr P n:=by rw [Nat.pow_zero,Nat.div_one];rfl
 have en:n/2^(E+P-1)%2^1=n/2^(E+P-1):=by
  have h2:2^(E+P)=2*2^(E+P-1):=by rw [←Nat.pow_succ'];congr 1;omega
  have:n/2^(E+P-1)<2:=by rw [Nat.div_lt_iff_lt_mul (Nat.pow_pos (by decide))];omega
  exact Nat.mod_eq_of_lt this
 have hw:decide (n/2^(E+P-1)≠0)=wn E P n:=rfl;have hbt:=bl_top hP hr;have n1:wf E P n=2^E-1→wr P n=0→wkind E P n=3:=fun h k=>by unfold wkind;rw [if_pos h,if_pos k]
 have n2:wf E P n=2^E-1→wr P n≠0→2^(P-2)≤wr P n→wkind E P n=4:=fun h k l=>by unfold wkind;rw [if_pos h,if_neg k,if_pos (hbt.2 l)]
 have n3:wf E P n=2^E-1→wr P n≠0→¬ 2^(P-2)≤wr P n→wkind E P n=5:=fun h k l=>by unfold wkind;rw [if_pos h,if_neg k,if_neg (fun m=>l (hbt.1 m))]
 have n4:wf E P n≠2^E-1→wf E P n=0→wr P n=0→wkind E P n=1:=fun h k l=>by unfold wkind;rw [if_neg h,if_pos ⟨k,l⟩]
 have n5:wf E P n≠2^E-1→¬ (wf E P n=0∧wr P n=0)→wkind E P n=2:=fun h k=>by unfold wkind;rw [if_neg h,if_neg k]
 have v0:wkind E P n=1∨wkind E P n=3→wvalK E P (bias E) n=0:=fun h=>by
  unfold wvalK
  rcases h with h | h<;>(rw [h];simp)
 have hq2:wr P n%2^(P-2)=if 2^(P-2)≤wr P n then wr P n-2^(P-2) else wr P n:=by
  have h2:2^(P-1)=2*2^(P-2):=by rw [←Nat.pow_succ'];congr 1;omega
  split
  ·rename_i h
   rw [Nat.mod_eq_sub_mod h,Nat.mod_eq_of_lt (by omega)]
  ·rename_i h
   exact Nat.mod_eq_of_lt (by omega)
 have v4:wkind E P n=4→2^(P-2)≤wr P n→wvalK E P (bias E) n=((wr P n:Nat):Rat)-(2:Rat)^((P-2:Nat):Int):=fun h k=>by
  unfold wvalK;rw [h,if_neg (by decide),if_pos rfl,hq2,if_pos k,p2_nat]
  have:((wr P n:Nat):Rat)=((wr P n-2^(P-2):Nat):Rat)+((2^(P-2):Nat):Rat):=by rw [←Rat.natCast_add];congr 1;omega
  rw [this];grind
 have v5:wkind E P n=5→wvalK E P (bias E) n=((wr P n:Nat):Rat):=fun h=>by unfold wvalK;rw [h];simp
 have v2:wkind E P n=2→wvalK E P (bias E) n=wval E P (bias E) n:=fun h=>by unfold wvalK;rw [if_pos h]
 have v2a:wkind E P n=2→wn E P n=false→wvalK E P (bias E) n=((wfr E P n:Nat):Rat)*(2:Rat)^(2-(bias E:Int)-P+((max (wf E P n) 1-1:Nat):Int)):=fun h k=>by
  rw [v2 h];unfold wval;rw [k,if_neg (by decide),Rat.one_mul]
 have v2b:wkind E P n=2→wn E P n=true→wvalK E P (bias E) n = -(((wfr E P n:Nat):Rat)*(2:Rat)^(2-(bias E:Int)-P+((max (wf E P n) 1-1:Nat):Int))):=fun h k=>by
  rw [v2 h];unfold wval;rw [k,if_pos rfl,show ∀ x:Rat,-1*x = -x from fun x=>by grind]
 clear v2;have hfr:wfr E P n=if wf E P n=0 then wr P n else wr P n+2^(P-1):=rfl;have hL:=cRLeast (E:=E) (P:=P) hF;have hT:=cRTop (E:=E) (P:=P) hF;have hB:=cRBias (E:=E) (P:=P) hF;generalize bias E=b at *
 generalize wkind E P n=K at *
 generalize wvalK E P b n=V at *
 generalize wfr E P n=fr at *
 generalize wn E P n=ng at *
 generalize wf E P n=f at *
 generalize wr P n=r at *
 have sr:SmQ 200 ((r:Nat):Rat):=(SmQ.nat (K:=112) (by decide) hr3).mono (by decide);have sq:SmQ 200 ((2:Rat)^((P-2:Nat):Int)):=(p2_sm (L:=120) (by omega)).mono (by decide);refine fn_callB [(15,[(0,6),(2,8),(4,8)]),(21,[(0,6),(1,2),(5,8)]),(6,[(1,2),(4,6),(7,10)]),(7,[(0,10),(2,2),(6,2),(11,8)])] TK MX Tryz.func109 rfl (by kernel_rfl) (by kernel_rfl) (by kernel_rfl) rfl rfl ?_
 conv=>whnf
 refine ⟨_,cRBits h8,?_⟩
 conv=>whnf
 rw [wr1 (by omega) (by omega)];refine ⟨_,cRPart (fr:=0) hn2 (by decide) (by omega),?_⟩;rw [er]
 conv=>whnf
 rw [wr1 (by omega) (by omega)];refine ⟨_,cRPart hn2 (by omega) (by omega),?_⟩;rw [ef]
 conv=>whnf
 refine ⟨_,cRSmall (by omega),?_⟩
 conv=>whnf
 rw [wr5 (by omega),wr3 (by omega) (by omega) (by omega)];refine ⟨_,cRPart (b:=1) hn2 (by omega) (by decide),?_⟩;rw [en]
 conv=>whnf
 refine ⟨_,cRSign,?_⟩
 conv=>whnf
 rw [sgn_natp,hw,wr2 (by omega) (by omega)];refine ⟨_,cRTwo (by omega) (by omega),?_⟩
 conv=>whnf
 refine ⟨_,hT,?_⟩
 conv=>whnf
 rw [natc]
 by_cases hft:f=2^E-1
 ·rw [dT hft]
  conv=>whnf
  refine ⟨_,cRSign,?_⟩
  conv=>whnf
  rw [sgn_nat]
  by_cases hr0:r=0
  ·rw [dT hr0]
   conv=>whnf
   obtain rfl:=n1 hft hr0;rw [v0 (.inr rfl)]
   rfl
  ·rw [dF hr0]
   conv=>whnf
   refine ⟨_,hT,?_⟩
   conv=>whnf
   rw [natc,dT hft]
   conv=>whnf
   refine ⟨_,cRCmp sr sq (by decide),?_⟩
   conv=>whnf
   have hcm:decide (cmpQ ((r:Nat):Rat) ((2:Rat)^((P-2:Nat):Int))≥0)=decide (2^(P-2)≤r):=by
    have h1:(2:Rat)^((P-2:Nat):Int)≤((r:Nat):Rat)↔2^(P-2)≤r:=by rw [p2_nat,Rat.natCast_le_natCast]
    rw [Bool.eq_iff_iff,decide_eq_true_iff,decide_eq_true_iff,←h1];unfold cmpQ
    by_cases h:((r:Nat):Rat)<(2:Rat)^((P-2:Nat):Int)
    ·rw [if_pos h]
     exact ⟨fun k=>absurd k (by decide),fun k=>absurd h (Rat.not_lt.2 k)⟩
    ·rw [if_neg h];refine ⟨fun _=>Rat.not_lt.1 h,fun _ => ?_⟩
     split<;>decide
   rw [hcm];clear hcm
   by_cases hq:2^(P-2)≤r
   ·rw [dT hq]
    conv=>whnf
    refine ⟨_,cRSub sr sq (by decide),?_⟩
    conv=>whnf
    obtain rfl:=n2 hft hr0 hq;rw [v4 rfl hq]
    rfl
   ·rw [dF hq]
    conv=>whnf
    refine ⟨_,hT,?_⟩
    conv=>whnf
    rw [natc,dT hft]
    conv=>whnf
    obtain rfl:=n3 hft hr0 hq;rw [v5 rfl]
    rfl
 ·have hft2:((f:Int)==((2^E-1:Nat):Int))=false:=by rw [natc];exact dF hft
  have z0:((f:Int)==0)=decide (f=0):=natc f 0;rw [dF hft]
  conv=>whnf
  refine ⟨_,hT,?_⟩
  conv=>whnf
  rw [hft2]
  conv=>whnf
  refine ⟨_,hT,?_⟩
  conv=>whnf
  rw [hft2]
  conv=>whnf
  rw [z0];clear hft2 z0;have z0:((f:Int)==0)=decide (f=0):=natc f 0
  by_cases hf0:f=0
  ·rw [dT hf0]
   conv=>whnf
   refine ⟨_,cRSign,?_⟩
   conv=>whnf
   rw [sgn_nat]
   by_cases hr0:r=0
   ·rw [dT hr0]
    conv=>whnf
    obtain rfl:=n4 hft hf0 hr0;rw [v0 (.inl rfl)]
    rfl
   ·rw [dF hr0]
    conv=>whnf
    rw [z0,dT hf0]
    conv=>whnf
    refine ⟨_,hL,?_⟩
    conv=>whnf
    refine ⟨_,cRTimes (K:=3000) (sr.mono (by decide)) ((p2_sm (L:=2000) (by omega)).mono (by decide)) (by decide),?_⟩;obtain rfl:=n5 hft (fun h=>hr0 h.2);have e:fr=r:=by rw [hfr,if_pos hf0]
    have e2:2-(b:Int)-P+((max f 1-1:Nat):Int)=2-(b:Int)-P:=by omega
    rw [e,e2] at v2a v2b
    cases ng
    ·rw [v2a rfl rfl]
     conv=>whnf
     rfl
    ·rw [v2b rfl rfl]
     conv=>whnf
     refine ⟨_,cRNeg,?_⟩
     conv=>whnf
     rfl
  ·rw [dF hf0]
   conv=>whnf
   rw [z0,dF hf0]
   conv=>whnf
   rw [wr1 (by omega) (by omega)];refine ⟨_,cRTwo (by omega) (by omega),?_⟩
   conv=>whnf
   refine ⟨_,cRAdd (K:=200) ((p2_sm (L:=113) (by omega)).mono (by decide)) sr (by decide),?_⟩;obtain rfl:=n5 hft (fun h=>hf0 h.1);have e:(2:Rat)^((P-1:Nat):Int)+((r:Nat):Rat)=((fr:Nat):Rat):=by
    rw [hfr,if_neg hf0,p2_nat,←Rat.natCast_add];congr 1;omega
   rw [e];have sf:SmQ 300 ((fr:Nat):Rat):=by
    rw [←e];exact (((p2_sm (L:=60+53) (by omega):SmQ (2+(60+53)) ((2:Rat)^((P-1:Nat):Int)))).add (SmQ.nat (K:=112) (by decide) hr3)).mono (by decide)
   conv=>whnf
   refine ⟨_,hB,?_⟩
   conv=>whnf
   rw [wr7 (by omega) (by omega) (by omega)];refine ⟨_,cRShift sf (by decide) (by omega) (by omega),?_⟩;have e2:2-(b:Int)-P+((max f 1-1:Nat):Int)=(f:Int)-b-P+1:=by omega
   rw [e2] at v2a v2b
   cases ng
   ·rw [v2a rfl rfl]
    conv=>whnf
    rfl
   ·rw [v2b rfl rfl]
    conv=>whnf
    refine ⟨_,cRNeg,?_⟩
    conv=>whnf
    rfl
end
end Go.Proofs.YtgabigepocfllaaGreatDoor
