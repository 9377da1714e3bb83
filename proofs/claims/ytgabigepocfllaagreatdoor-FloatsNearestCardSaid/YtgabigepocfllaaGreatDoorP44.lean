/- The reference: the walked functions, in the words of reckoning. -/
import Derived.Test.YtgabigepocfllaaGreatDoorP38
import Derived.Test.YtgabigepocfllaaGreatDoorP43
namespace Go.Proofs.YtgabigepocfllaaGreatDoor
open Go.RowKit Vn
set_option maxRecDepth 100000
set_option maxHeartbeats 8000000
def rOC (k:Int) (neg:Bool) (q:Rat):List AC:=.v (.int .i64 k) :: .v (.bool neg) :: rnumA q
abbrev rOA (k:Int) (neg:Bool) (q:Rat):AV:=.g (rOC k neg q)
section
variable {S:Nat→Prop} {w:World}
theorem of_rop {x:Value} {k:Int} {neg:Bool} {q:Rat} (h:ROpV w x k neg q):RepW OQ (fun _=>none) S w x (rOA k neg q):=by
 obtain ⟨ng,a,n,c,a',n',c',rfl,h⟩:=h;obtain ⟨us,e,h⟩:=rnumA_of (β:=fun _=>none) (S:=S) h;have e:_=us:=congrArg Array.toList (Value.agg.inj e);subst e
 exact ⟨_,rfl,Rep0.v' rfl rfl,Rep0.v' rfl rfl,h⟩
end
section
variable {q r:Rat} {K:Nat}
theorem cRSign  : Cal Tryz.prog OQ 86 [rA q] (.c (.v (.int .i64 (q.num.sign)))) :=
 calA [.r q] (r:=.s (.int .i64 (q.num.sign))) (by kernel_rfl) rfl fun w vs _ hv=>by
  obtain ⟨x,rfl,hx⟩:=one_arg hv;exact (rsign_c x q w hx).mono fun _ _ ⟨h1,h2⟩=>⟨_,h1,rfl,h2⟩
theorem cRAbs  : Cal Tryz.prog OQ 83 [rA q] (rA (absQ q)) :=
 calA [.r q] (r:=.r (absQ q)) (by kernel_rfl) rfl fun w vs _ hv=>by
  obtain ⟨x,rfl,hx⟩:=one_arg hv;exact (rabs_c x q w hx).mono fun _ _ ⟨v,h1,h2,h3⟩=>⟨v,h1,h2,h3⟩
theorem cRAdd (sx:SmQ K q) (sy:SmQ K r) (hK:K≤10000000):Cal Tryz.prog OQ 89 [rA q,rA r] (rA (q+r)) :=
 calA [.r q,.r r] (r:=.r (q+r)) (by kernel_rfl) rfl fun w vs _ hv=>by
  obtain ⟨x,y,rfl,hx,hy⟩:=two_args hv;exact (raddq_c x y q r K w hx hy sx sy hK).mono fun _ _ ⟨v,h1,h2,h3⟩=>⟨v,h1,h2,h3⟩
theorem cRCmp (sx:SmQ K q) (sy:SmQ K r) (hK:K≤10000000):Cal Tryz.prog OQ 87 [rA q,rA r] (.c (.v (.int .i64 (cmpQ q r)))) :=
 calA [.r q,.r r] (r:=.s (.int .i64 (cmpQ q r))) (by kernel_rfl) rfl fun w vs _ hv=>by
  obtain ⟨x,y,rfl,hx,hy⟩:=two_args hv;exact (rcmpq_c x y q r K w hx hy sx sy hK).mono fun _ _ ⟨h1,h2⟩=>⟨_,h1,rfl,h2⟩
theorem cRIsInt (sx:SmQ K q) (hK:K≤10000000):Cal Tryz.prog OQ 85 [rA q] (.c (.v (.bool (decide (q.den=1))))) :=
 calA [.r q] (r:=.s (.bool (decide (q.den=1)))) (by kernel_rfl) rfl fun w vs _ hv=>by
  obtain ⟨x,rfl,hx⟩:=one_arg hv;exact (risint_c x q K w hx sx (by omega)).mono fun _ _ ⟨h1,h2⟩=>⟨_,h1,rfl,h2⟩
theorem cRTwo {k:Int} (h0 : -1000000≤k) (h1:k≤1000000):Cal Tryz.prog OQ 88 [.c (.v (.int .i64 (k)))] (rA ((2:Rat)^k)) :=
 calA [.s (.int .i64 (k))] (r:=.r ((2:Rat)^k)) (by kernel_rfl) rfl fun w vs _ hv=>by
  obtain ⟨x,rfl,rfl⟩:=one_arg hv;exact (rtwo_c k w h0 h1).mono fun _ _ ⟨v,h1,h2,h3⟩=>⟨v,h1,h2,h3⟩
theorem cRLog {l:Int} (sx:SmQ K q) (hK:K≤300000) (h0:q≠0) (hl:IsLog (absQ q) l):Cal Tryz.prog OQ 176 [rA q] (iA l) :=
 calA [.r q] (r:=.s (.int .i64 l)) (by kernel_rfl) rfl fun w vs _ hv=>by
  obtain ⟨x,rfl,hx⟩:=one_arg hv;exact (rlog_c x q K w hx sx hK h0).mono fun _ _ ⟨k,h1,h2,h3⟩=>⟨_,h1,(by rw [hl.unique h2.o];rfl),h3⟩
theorem four_args {w:World} {vs:List Value} {a b c d:Arg} (h:All2 (RepA w) vs [a,b,c,d]):∃ x y z u,vs=[x,y,z,u]∧RepA w x a∧RepA w y b∧RepA w z c∧RepA w u d:=by
 match vs,h with
 | [x,y,z,u],h=>exact ⟨x,y,z,u,rfl,h.1,h.2.1,h.2.2.1,h.2.2.2.1⟩
theorem cROver (sx:SmQ K q) (sy:SmQ K r) (hK:K≤10000000) (hr:r≠0):Cal Tryz.prog OQ 140 [rA q,rA r] (rA (q/r)) :=
 calA [.r q,.r r] (r:=.r (q/r)) (by kernel_rfl) rfl fun w vs _ hv=>by
  obtain ⟨x,y,rfl,hx,hy⟩:=two_args hv;exact (rover_c x y q r K w hx hy sx sy hK hr).mono fun _ _ ⟨v,h1,h2,h3⟩=>⟨v,h1,h2,h3⟩
end
theorem cRCheck {E P:Int}:Cal Tryz.prog OQ 29 [fA E P] (.c (.v (.int .i64 (fmtZ E P)))) :=
 calA [.m [.int .i64 E,.int .i64 P]] (r:=.s (.int .i64 (fmtZ E P))) (by kernel_rfl) rfl fun w vs _ hv=>by
  obtain ⟨x,rfl,rfl⟩:=one_arg hv;exact (rcheck_c E P w).mono fun _ _ ⟨h1,h2⟩=>⟨_,h1,rfl,h2⟩
theorem cRAsked {E P m:Int}:Cal Tryz.prog OQ 114 [fA E P,.c (.v (.int .i64 (m)))] (.c (.v (.int .i64 (askZ E P m)))) :=
 calA [.m [.int .i64 E,.int .i64 P],.s (.int .i64 (m))] (r:=.s (.int .i64 (askZ E P m))) (by kernel_rfl) rfl fun w vs _ hv=>by
  obtain ⟨x,y,rfl,rfl,rfl⟩:=two_args hv;exact (rasked_c E P m w).mono fun _ _ ⟨h1,h2⟩=>⟨_,h1,rfl,h2⟩
section
variable {E P n:Nat} {neg:Bool} {q:Rat} {K:Nat}
theorem cRLeast (hF:Fmt E P):Cal Tryz.prog OQ 55 [fA (E:Nat) (P:Nat)] (rA ((2:Rat)^(2-(bias E:Int)-P))) :=
 calA [.m [.int .i64 (E:Nat),.int .i64 (P:Nat)]] (r:=.r ((2:Rat)^(2-(bias E:Int)-P))) (by kernel_rfl) rfl fun w vs _ hv=>by
  obtain ⟨x,rfl,rfl⟩:=one_arg hv;exact (rleast_c E P w hF).mono fun _ _ ⟨v,h1,h2,h3⟩=>⟨v,h1,h2,h3⟩
theorem cRBelow (hF:Fmt E P) (sx:SmQ K q) (hK:K≤1000000):Cal Tryz.prog OQ 175 [fA (E:Nat) (P:Nat),rA q] (.c (.v (.bool (decide (absQ q<(2:Rat)^(1-(bias E:Int))))))) :=
 calA [.m [.int .i64 (E:Nat),.int .i64 (P:Nat)],.r q] (r:=.s (.bool (decide (absQ q<(2:Rat)^(1-(bias E:Int)))))) (by kernel_rfl) rfl fun w vs _ hv=>by
  obtain ⟨y,x,rfl,rfl,hx⟩:=two_args hv;exact (rbelow_c E P x q K w hF hx sx hK).mono fun _ _ ⟨h1,h2⟩=>⟨_,h1,rfl,h2⟩
theorem cRBeyond (hF:Fmt E P) (sx:SmQ K q) (hK:K≤1000000):Cal Tryz.prog OQ 138 [fA (E:Nat) (P:Nat),rA q] (.c (.v (.bool (decide (grQ P (bias E)<absQ q))))) :=
 calA [.m [.int .i64 (E:Nat),.int .i64 (P:Nat)],.r q] (r:=.s (.bool (decide (grQ P (bias E)<absQ q)))) (by kernel_rfl) rfl fun w vs _ hv=>by
  obtain ⟨y,x,rfl,rfl,hx⟩:=two_args hv;exact (rbeyond_c E P x q K w hF hx sx hK).mono fun _ _ ⟨h1,h2⟩=>⟨_,h1,rfl,h2⟩
theorem cRTop (hF:Fmt E P):Cal Tryz.prog OQ 91 [fA (E:Nat) (P:Nat)] (.c (.v (.int .i64 (((2^E-1:Nat):Int))))) :=
 calA [.m [.int .i64 (E:Nat),.int .i64 (P:Nat)]] (r:=.s (.int .i64 (((2^E-1:Nat):Int)))) (by kernel_rfl) rfl fun w vs _ hv=>by
  obtain ⟨x,rfl,rfl⟩:=one_arg hv;exact (rtop_c E P w hF).mono fun _ _ ⟨h1,h2⟩=>⟨_,h1,rfl,h2⟩
theorem cRInf (hF:Fmt E P):Cal Tryz.prog OQ 84 [fA (E:Nat) (P:Nat),.c (.v (.bool (neg)))] (wA (infw E P neg)) :=
 calA [.m [.int .i64 (E:Nat),.int .i64 (P:Nat)],.s (.bool (neg))] (r:=.w (infw E P neg)) (by kernel_rfl) rfl fun w vs _ hv=>by
  obtain ⟨x,y,rfl,rfl,rfl⟩:=two_args hv;exact (rinfinite_c E P neg w hF).mono fun _ _ ⟨h1,h2⟩=>⟨_,h1,rfl,h2⟩
theorem cRIs (hF:Fmt E P) (hn:W128 n):Cal Tryz.prog OQ 193 [fA (E:Nat) (P:Nat),wA n] (.c (.v (.bool (decide (n<2^(E+P)))))) :=
 calA [.m [.int .i64 (E:Nat),.int .i64 (P:Nat)],.w n] (r:=.s (.bool (decide (n<2^(E+P))))) (by kernel_rfl) rfl fun w vs _ hv=>by
  obtain ⟨x,y,rfl,rfl,rfl⟩:=two_args hv;exact (ris_c E P n w hF hn).mono fun _ _ ⟨h1,h2⟩=>⟨_,h1,rfl,h2⟩
theorem cRCoded {f r:Nat} (hF:Fmt E P) (hf:f≤4096) (hr:r<2^115) (hc:codeN E P neg f r<340282366920938463463374607431768211456):Cal Tryz.prog OQ 90 [fA (E:Nat) (P:Nat),.c (.v (.bool (neg))),.c (.v (.int .i64 ((f:Nat)))),rA ((r:Nat):Rat)] (wA (codeN E P neg f r)) :=
 calA [.m [.int .i64 (E:Nat),.int .i64 (P:Nat)],.s (.bool (neg)),.s (.int .i64 ((f:Nat))),.r ((r:Nat):Rat)] (r:=.w (codeN E P neg f r)) (by kernel_rfl) rfl fun w vs _ hv=>by
  obtain ⟨y,z,u,x,rfl,rfl,rfl,rfl,hx⟩:=four_args hv;exact (rcoded_c E P neg f r x w hF hx hf hr hc).mono fun _ _ ⟨h1,h2⟩=>⟨_,h1,rfl,h2⟩
theorem cRWord0 {f:Nat} (hF:Fmt E P) (hn:n<2^P) (h:f=0∨2^(P-1)≤n) (hf:f+1≤2^E-1):Cal Tryz.prog OQ 82 [fA (E:Nat) (P:Nat),.c (.v (.bool (neg))),rA (wv P (bias E) n f)] (wA (codeN E P neg f n)) :=
 calA [.m [.int .i64 (E:Nat),.int .i64 (P:Nat)],.s (.bool (neg)),.r (wv P (bias E) n f)] (r:=.w (codeN E P neg f n)) (by kernel_rfl) rfl fun w vs _ hv=>by
  obtain ⟨y,z,x,rfl,rfl,rfl,hx⟩:=three_args hv;exact (rword_c E P n f neg x w hF hx hn h hf).mono fun _ _ ⟨h1,h2⟩=>⟨_,h1,rfl,h2⟩
theorem cRLook (hF:Fmt E P) (hn:n<2^(E+P)):Cal Tryz.prog OQ 109 [fA (E:Nat) (P:Nat),wA n] (rOA (wkind E P n) (wn E P n) (wvalK E P (bias E) n)) :=
 cal_of (by kernel_rfl) rfl fun S w vs _ hv=>by
  obtain ⟨x,y,rfl,h1,h2⟩:=two_args (a:=.m [.int .i64 (E:Nat),.int .i64 (P:Nat)]) (b:=.w n) (all2_args (S:=S) hv);obtain rfl:=h1;obtain rfl:=h2
  exact (rlook_c E P n w hF hn).mono fun _ _ ⟨v,h1,h2,h3⟩=>⟨v,h1,h3,fun S'=>(of_rop (S:=S') h2).toV (by intro l h;cases h)⟩
end
end Go.Proofs.YtgabigepocfllaaGreatDoor
