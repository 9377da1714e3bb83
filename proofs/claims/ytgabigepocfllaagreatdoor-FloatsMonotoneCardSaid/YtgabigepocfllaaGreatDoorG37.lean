/- floats: the walked functions, in the words of reckoning. -/
import Derived.Test.YtgabigepocfllaaGreatDoorG34
import Derived.Test.YtgabigepocfllaaGreatDoorG36
namespace Go.Proofs.YtgabigepocfllaaGreatDoor
open Go.RowKit Vn
set_option maxRecDepth 100000
set_option maxHeartbeats 8000000
section
variable {E P m b n:Nat} {neg:Bool} {q:Rat} {K:Nat}
theorem cShiftF {k:Int} (sx:SmQ K q) (h0 : -20000≤k) (h1:k≤20000) (hK:K≤20000000):Cal Tryz.prog OQ 98 [nA q,iA k] (nA (q*(2:Rat)^k)) :=
 calA [.n q,.s (.int .i64 k)] (r:=.n _) (by kernel_rfl) rfl fun w vs _ h=>by
  obtain ⟨x,y,rfl,hx,rfl⟩:=two_args h;exact (shift_c x q K k w hx sx h0 h1 hK).mono fun _ _ ⟨v,h1,h2,h3⟩=>⟨v,h1,h2,h3⟩
theorem cLogF {l:Int} (sx:SmQ K q) (hK:K≤10000000) (h:q.num≠0) (hl:IsLog (absQ q) l):Cal Tryz.prog OQ 100 [nA q] (iA l) :=
 calA [.n q] (r:=.s (.int .i64 l)) (by kernel_rfl) rfl fun w vs _ hv=>by
  obtain ⟨x,rfl,hx⟩:=one_arg hv;exact (flogA_c x q K w hx sx hK h).mono fun _ _ ⟨k,h1,h2,h3⟩=>⟨_,h1,(by rw [hl.unique h2];rfl),h3⟩
theorem cCheck (E P:Int):Cal Tryz.prog OQ 28 [fA E P] (iA (if Fmt E P then 0 else 2)) :=
 calA [.m [.int .i64 E,.int .i64 P]] (r:=.s (.int .i64 (if Fmt E P then 0 else 2))) (by kernel_rfl) rfl fun w vs _ hv=>by
  obtain ⟨x,rfl,rfl⟩:=one_arg hv;exact (check_c E P w _ (hid rfl)).mono fun _ _ ⟨h1,h2⟩=>⟨_,h1,rfl,h2⟩
theorem cInf (hF:Fmt E P):Cal Tryz.prog OQ 75 [mA E P m b,bA neg] (wA (infw E P neg)) :=
 calA [.mc E P m b,.s (.bool neg)] (r:=.w _) (by kernel_rfl) rfl fun w vs _ hv=>by
  obtain ⟨x,y,rfl,rfl,rfl⟩:=two_args hv;exact (infinite_c E P m b neg w hF).mono fun _ _ ⟨h1,h2⟩=>⟨_,h1,rfl,h2⟩
theorem cNanF (hF:Fmt E P):Cal Tryz.prog OQ 80 [mA E P m b] (wA (nanw E P)) :=
 calA [.mc E P m b] (r:=.w _) (by kernel_rfl) rfl fun w vs _ hv=>by
  obtain ⟨x,rfl,rfl⟩:=one_arg hv;exact (nan_c E P m b w hF).mono fun _ _ ⟨h1,h2⟩=>⟨_,h1,rfl,h2⟩
theorem cZero (hF:Fmt E P):Cal Tryz.prog OQ 73 [mA E P m b,bA neg] (wA (sgb E P neg)) :=
 calA [.mc E P m b,.s (.bool neg)] (r:=.w _) (by kernel_rfl) rfl fun w vs _ hv=>by
  obtain ⟨x,y,rfl,rfl,rfl⟩:=two_args hv;exact (zero_c E P m b neg w hF).mono fun _ _ ⟨h1,h2⟩=>⟨_,h1,rfl,h2⟩
theorem cInvalid (hF:Fmt E P):Cal Tryz.prog OQ 155 [mA E P m b] (.t [wA (nanw E P),iA 1]) :=
 calA2 [.mc E P m b] (r:=.w _) (s:=.s (.int .i64 1)) (by kernel_rfl) rfl rfl fun w vs _ hv=>by
  obtain ⟨x,rfl,rfl⟩:=one_arg hv;exact (invalid_c E P m b w hF).mono fun _ _ ⟨h1,h2⟩=>⟨_,_,h1,rfl,rfl,h2⟩
theorem cRound {l:Int} (hF:Fmt E P) (hm:m≤4) (hb:b=bias E) (sx:SmQ K q) (hK:K≤12000) (hl:q≠0→IsLog (absQ q) l):Cal Tryz.prog OQ 74 [mA E P m b,nA q] (.t [wA (rnd E P b m q l).1,iA ((rnd E P b m q l).2:Nat)]) :=
 calA2 [.mc E P m b,.n q] (r:=.w _) (s:=.s (.int .i64 ((rnd E P b m q l).2:Nat))) (by kernel_rfl) rfl rfl fun w vs hi hv=>by
  obtain ⟨x,y,rfl,rfl,hx⟩:=two_args hv;exact (rnd_c E P b m y q l K w hF hm hb hx sx hK hl hi.2).mono fun _ _ ⟨h1,h2⟩=>⟨_,_,h1,rfl,rfl,h2⟩
theorem cLook (hF:Fmt E P) (hb:b≤1023) (hn:W128 n):Cal Tryz.prog OQ 96 [mA E P m b,wA n] (oA (wkind E P n) (wn E P n) (wvalK E P b n)) :=
 calA [.mc E P m b,.w n] (r:=.op _ _ _) (by kernel_rfl) rfl fun w vs _ hv=>by
  obtain ⟨x,y,rfl,rfl,rfl⟩:=two_args hv;exact (look_c E P m b n w hF hb hn).mono fun _ _ ⟨v,h1,h2,h3⟩=>⟨v,h1,h2,h3⟩
theorem cRank (hF:Fmt E P) (hb:b≤1023) (hn:W128 n):Cal Tryz.prog OQ 97 [mA E P m b,wA n] (nA ((rankZ E P n:Int):Rat)) :=
 calA [.mc E P m b,.w n] (r:=.n _) (by kernel_rfl) rfl fun w vs _ hv=>by
  obtain ⟨x,y,rfl,rfl,rfl⟩:=two_args hv;exact (rank_c E P m b n w hF hb hn).mono fun _ _ ⟨v,h1,h2,h3⟩=>⟨v,h1,h2,h3⟩
theorem cShr {k:Nat} (hn:W128 n) (hk:k≤128):Cal Tryz.prog OQ 158 [wA n,iA (k:Nat)] (wA (n/2^k)) :=
 calA [.w n,.s (.int .i64 (k:Nat))] (r:=.w _) (by kernel_rfl) rfl fun w vs _ hv=>by
  obtain ⟨x,y,rfl,rfl,rfl⟩:=two_args hv;exact (shr_w n k w hn hk).mono fun _ _ ⟨h1,h2⟩=>⟨_,h1,rfl,h2⟩
end
theorem dF {p:Prop} [Decidable p] (h:¬ p):decide p=false:=decide_eq_false h
theorem dT {p:Prop} [Decidable p] (h:p):decide p=true:=decide_eq_true h
def lgQ (q:Rat):Int:=if (absQ q).num.natAbs*2^(max (-((bl (absQ q).num.natAbs:Int)-bl (absQ q).den)) 0).toNat<(absQ q).den*2^(max ((bl (absQ q).num.natAbs:Int)-bl (absQ q).den) 0).toNat then (bl (absQ q).num.natAbs:Int)-bl (absQ q).den-1 else (bl (absQ q).num.natAbs:Int)-bl (absQ q).den
theorem lg_is {q:Rat} (h:q≠0):IsLog (absQ q) (lgQ q):=log_is (absQ_num_pos (fun e=>h (Rat.num_eq_zero.1 e))) _ rfl
def rq (E P m:Nat) (q:Rat):Nat×Nat:=rnd E P (bias E) m q (lgQ q)
theorem cRoundQ {E P m K:Nat} {q:Rat} (hF:Fmt E P) (hm:m≤4) (sx:SmQ K q) (hK:K≤12000):Cal Tryz.prog OQ 74 [mA E P m (bias E:Nat),nA q] (.t [wA (rq E P m q).1,iA ((rq E P m q).2:Nat)]) :=
 cRound hF hm rfl sx hK lg_is
theorem cSpecial2 {E P m b:Nat} (hF:Fmt E P) (k1 k2:Int) (n1 n2:Bool) (q1 q2:Rat):Cal Tryz.prog OQ 95 [mA E P m b,.c (.sl 5 [opC k1 n1 q1,opC k2 n2 q2])]
  (.t [wA (nanw E P),iA (if k1=5∨k2=5 then 1 else 0),bA (decide (4≤k1)||decide (4≤k2))]):=by
 refine fn_call TK MX Tryz.func95 rfl (by kernel_rfl) (by kernel_rfl) (by kernel_rfl) rfl rfl ?_
 conv=>whnf
 refine ⟨3,?_⟩
 conv=>whnf
 cases h1:decide (k1≥4)<;>(conv=>whnf)<;>cases h2:k1==5<;>(conv=>whnf)<;>cases h3:k2==5<;>(conv=>whnf)<;>refine ⟨_,cNanF hF,?_⟩<;>(conv=>whnf) <;>
  simp_all [joinR,wdC]
theorem bias_eq {E P:Nat} (hF:Fmt E P):IntKind.i64.wrap (IntKind.i64.wrap (1*2^min (IntKind.i64.wrap ((E:Int)-1)).toNat IntKind.i64.bits)-1)=(bias E:Nat):=by
 obtain ⟨h1,h2,_⟩:=hF;rw [IntWalk.i64_in ((E:Int)-1) (by omega)];have hE:E=2∨E=3∨E=4∨E=5∨E=6∨E=7∨E=8∨E=9∨E=10∨E=11:=by omega
 rcases hE with rfl | rfl | rfl | rfl | rfl | rfl | rfl | rfl | rfl | rfl<;>decide
theorem cWith0 {E P m:Nat} (hF:Fmt E P) (hm:m≤4):Cal Tryz.prog OQ 71 [fA E P,iA (m:Nat),.c (.v (.slice none 0 0))] (.t [mA E P m (bias E:Nat),iA 0]):=by
 refine fn_call TK MX Tryz.func71 rfl (by kernel_rfl) (by kernel_rfl) (by kernel_rfl) rfl rfl ?_;have e1:decide ((m:Int)<0)=false:=dF (by omega);have e2:decide ((m:Int)>4)=false:=dF (by omega);have e3:decide (0≤IntKind.i64.wrap ((E:Int)-1))=true:=dT (by obtain ⟨h1,h2,_⟩:=hF;rw [IntWalk.i64_in ((E:Int)-1) (by omega)];omega)
 conv=>whnf
 rw [e1]
 conv=>whnf
 rw [e2]
 conv=>whnf
 refine ⟨_,cCheck E P,?_⟩;rw [if_pos hF]
 conv=>whnf
 rw [e3]
 conv=>whnf
 refine ⟨1,?_⟩
 conv=>whnf
 rw [bias_eq hF]
 rfl
theorem cWithBad {E P M:Int} {a:AV} (ha:noPA a=true) (h:¬ ((0≤M∧M≤4)∧Fmt E P)):Cal Tryz.prog OQ 71 [fA E P,iA M,a] (.t [mA 0 0 0 0,iA 2]):=by
 refine fn_call TK MX Tryz.func71 rfl (by kernel_rfl) (by kernel_rfl) (by kernel_rfl) rfl (by show (true&&(true&&(noPA a&&true)))=true;rw [ha];rfl) ?_
 conv=>whnf
 cases e1:decide (M<0)
 ·conv=>whnf
  cases e2:decide (M>4)
  ·conv=>whnf
   refine ⟨_,cCheck E P,?_⟩
   have:¬ Fmt E P:=by simp at e1 e2;intro hF;exact h ⟨⟨e1,e2⟩,hF⟩
   rw [if_neg this]
   conv=>whnf
   rfl
  ·conv=>whnf
   rfl
 ·conv=>whnf
  rfl
theorem wz (r:Nat):(((r/18446744073709551616:Nat):Int)==0&&(((r%18446744073709551616:Nat):Int)==0&&true))=decide (r=0):=by
 rw [Bool.eq_iff_iff];simp;omega
theorem shr_z {n k:Nat}:decide (n/2^k=0)=decide (n<2^k):=by
 have:n/2^k=0↔n<2^k:=by rw [Nat.div_eq_zero_iff];have:=Nat.pow_pos (n:=k) (show 0<2 by decide);omega
 simp [this]
theorem cWith1 {E P m n:Nat} (hF:Fmt E P) (hm:m≤4) (hn:W128 n):Cal Tryz.prog OQ 71 [fA E P,iA (m:Nat),.c (.sl 2 [wdC n])] (if n<2^(E+P) then .t [mA E P m (bias E:Nat),iA 0] else .t [mA 0 0 0 0,iA 6]):=by
 refine fn_call TK MX Tryz.func71 rfl (by kernel_rfl) (by kernel_rfl) (by kernel_rfl) (by split<;>rfl) rfl ?_;have e1:decide ((m:Int)<0)=false:=dF (by omega);have e2:decide ((m:Int)>4)=false:=dF (by omega);have e3:decide (0≤IntKind.i64.wrap ((E:Int)-1))=true:=dT (by obtain ⟨h1,h2,_⟩:=hF;rw [IntWalk.i64_in ((E:Int)-1) (by omega)];omega);have e4:IntKind.i64.wrap ((E:Int)+P)=((E+P:Nat):Int):=by obtain ⟨h1,h2,h3,h4,_⟩:=hF;rw [IntWalk.i64_in _ (by omega)];omega
 have hk:E+P≤128:=by obtain ⟨h1,h2,h3,h4,_⟩:=hF;omega
 conv=>whnf
 rw [e1]
 conv=>whnf
 rw [e2]
 conv=>whnf
 refine ⟨_,cCheck E P,?_⟩;rw [if_pos hF]
 conv=>whnf
 rw [e3]
 conv=>whnf
 refine ⟨2,?_⟩
 conv=>whnf
 rw [e4];refine ⟨_,cShr hn hk,?_⟩
 conv=>whnf
 rw [wz,shr_z]
 by_cases hlt:n<2^(E+P)
 ·rw [if_pos hlt,dT hlt]
  conv=>whnf
  rw [bias_eq hF]
  rfl
 ·rw [if_neg hlt,dF hlt]
  conv=>whnf
  rfl
theorem cWith2 {E P m n k:Nat} (hF:Fmt E P) (hm:m≤4) (hn:W128 n) (hk':W128 k):Cal Tryz.prog OQ 71 [fA E P,iA (m:Nat),.c (.sl 2 [wdC n,wdC k])] (if n<2^(E+P)∧k<2^(E+P) then .t [mA E P m (bias E:Nat),iA 0] else .t [mA 0 0 0 0,iA 6]):=by
 refine fn_call TK MX Tryz.func71 rfl (by kernel_rfl) (by kernel_rfl) (by kernel_rfl) (by split<;>rfl) rfl ?_;have e1:decide ((m:Int)<0)=false:=dF (by omega);have e2:decide ((m:Int)>4)=false:=dF (by omega);have e3:decide (0≤IntKind.i64.wrap ((E:Int)-1))=true:=dT (by obtain ⟨h1,h2,_⟩:=hF;rw [IntWalk.i64_in ((E:Int)-1) (by omega)];omega);have e4:IntKind.i64.wrap ((E:Int)+P)=((E+P:Nat):Int):=by obtain ⟨h1,h2,h3,h4,_⟩:=hF;rw [IntWalk.i64_in _ (by omega)];omega
 have hk:E+P≤128:=by obtain ⟨h1,h2,h3,h4,_⟩:=hF;omega
 conv=>whnf
 rw [e1]
 conv=>whnf
 rw [e2]
 conv=>whnf
 refine ⟨_,cCheck E P,?_⟩;rw [if_pos hF]
 conv=>whnf
 rw [e3]
 conv=>whnf
 refine ⟨3,?_⟩
 conv=>whnf
 rw [e4];refine ⟨_,cShr hn hk,?_⟩
 conv=>whnf
 rw [wz,shr_z]
 by_cases hlt:n<2^(E+P)
 ·rw [dT hlt]
  conv=>whnf
  rw [e4];refine ⟨_,cShr hk' hk,?_⟩
  conv=>whnf
  rw [wz,shr_z]
  by_cases hlt':k<2^(E+P)
  ·rw [if_pos ⟨hlt,hlt'⟩,dT hlt']
   conv=>whnf
   rw [bias_eq hF]
   rfl
  ·rw [if_neg (fun h=>hlt' h.2),dF hlt']
   conv=>whnf
   rfl
 ·rw [if_neg (fun h=>hlt h.1),dF hlt]
  conv=>whnf
  rfl
/-! ### values -/
theorem fmt_n {E P:Nat} (hF:Fmt E P):2≤E∧E≤11∧2≤P∧P≤113∧5≤E+P∧bias E≤1023:=by
 obtain ⟨hE,hP,hb,hEP,hb1⟩:=fmt_bounds hF;obtain ⟨h1,h2,h3,h4,h5⟩:=hF
 exact ⟨by omega,by omega,by omega,by omega,by omega,by omega⟩
theorem w128 {E P n:Nat} (hF:Fmt E P) (hn:n<2^(E+P)):W128 n:=by
 have h:=fmt_n hF
 exact Nat.lt_of_lt_of_le hn (Nat.le_trans (Nat.pow_le_pow_right (by decide) (show E+P≤124 by omega)) (by decide))
def valR (E P n:Nat):AV:=if wkind E P n≤2 then .t [nA (wvalK E P (bias E) n),iA 0] else .t [nA 0,iA 4]
theorem cValue {E P n:Nat} (hF:Fmt E P) (hn:n<2^(E+P)):Cal Tryz.prog OQ 19 [fA E P,wA n] (valR E P n):=by
 refine fn_call TK MX Tryz.func19 rfl (by kernel_rfl) (by kernel_rfl) (by kernel_rfl) (by unfold valR;split<;>rfl) rfl ?_
 conv=>whnf
 refine ⟨_,cWith1 (m:=0) hF (by decide) (w128 hF hn),?_⟩;rw [if_pos hn]
 conv=>whnf
 refine ⟨_,cLook hF (fmt_n hF).2.2.2.2.2 (w128 hF hn),?_⟩
 conv=>whnf
 unfold valR
 cases h:decide (wkind E P n>2)
 ·rw [if_pos (by simpa using h)]
  conv=>whnf
  rfl
 ·rw [if_neg (by simpa using h)]
  conv=>whnf
  rfl
theorem cValueForm {E P n:Nat} (hF:Fmt E P) (h8:W128 n) (hn:¬ n<2^(E+P)):Cal Tryz.prog OQ 19 [fA E P,wA n] (.t [nA 0,iA 6]):=by
 refine fn_call TK MX Tryz.func19 rfl (by kernel_rfl) (by kernel_rfl) (by kernel_rfl) rfl rfl ?_
 conv=>whnf
 refine ⟨_,cWith1 (m:=0) hF (by decide) h8,?_⟩;rw [if_neg hn]
 conv=>whnf
 rfl
end Go.Proofs.YtgabigepocfllaaGreatDoor
