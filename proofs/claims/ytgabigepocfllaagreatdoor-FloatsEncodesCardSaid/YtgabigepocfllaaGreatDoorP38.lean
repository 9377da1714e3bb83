/- floats: the walked functions, in the words of reckoning. -/
import Derived.Test.YtgabigepocfllaaGreatDoorP34
import Derived.Test.YtgabigepocfllaaGreatDoorP37
namespace Go.Proofs.YtgabigepocfllaaGreatDoor
open Go.RowKit Vn
set_option maxRecDepth 100000
set_option maxHeartbeats 8000000
section
variable {E P m b n:Nat} {neg:Bool} {q:Rat} {K:Nat}
theorem cTwoF {k:Int} (h0 : -20000≤k) (h1:k≤20000):Cal Tryz.prog OQ 77 [iA k] (nA ((2:Rat)^k)) :=
 calA [.s (.int .i64 k)] (r:=.n _) (by kernel_rfl) rfl fun w vs _ h=>by
  obtain ⟨x,rfl,rfl⟩:=one_arg h;exact (two_c k w h0 h1).mono fun _ _ ⟨v,h1,h2,h3⟩=>⟨v,h1,h2,h3⟩
theorem cNormalF {E P m b:Int} (HB:0≤b∧b≤100000):Cal Tryz.prog OQ 105 [mA E P m b] (iA (1-b)) :=
 calA [.mc E P m b] (r:=.s (.int .i64 (1-b))) (by kernel_rfl) rfl fun w vs _ hv=>by
  obtain ⟨x,rfl,rfl⟩:=one_arg hv;exact (normal_c E P m b w HB).mono fun _ _ ⟨h1,h2⟩=>⟨_,h1,rfl,h2⟩
theorem cCheck (E P:Int):Cal Tryz.prog OQ 28 [fA E P] (iA (if Fmt E P then 0 else 2)) :=
 calA [.m [.int .i64 E,.int .i64 P]] (r:=.s (.int .i64 (if Fmt E P then 0 else 2))) (by kernel_rfl) rfl fun w vs _ hv=>by
  obtain ⟨x,rfl,rfl⟩:=one_arg hv;exact (check_c E P w _ (hid rfl)).mono fun _ _ ⟨h1,h2⟩=>⟨_,h1,rfl,h2⟩
theorem cInf (hF:Fmt E P):Cal Tryz.prog OQ 75 [mA E P m b,bA neg] (wA (infw E P neg)) :=
 calA [.mc E P m b,.s (.bool neg)] (r:=.w _) (by kernel_rfl) rfl fun w vs _ hv=>by
  obtain ⟨x,y,rfl,rfl,rfl⟩:=two_args hv;exact (infinite_c E P m b neg w hF).mono fun _ _ ⟨h1,h2⟩=>⟨_,h1,rfl,h2⟩
theorem cNanF (hF:Fmt E P):Cal Tryz.prog OQ 80 [mA E P m b] (wA (nanw E P)) :=
 calA [.mc E P m b] (r:=.w _) (by kernel_rfl) rfl fun w vs _ hv=>by
  obtain ⟨x,rfl,rfl⟩:=one_arg hv;exact (nan_c E P m b w hF).mono fun _ _ ⟨h1,h2⟩=>⟨_,h1,rfl,h2⟩
theorem cZero (hF:Fmt E P):Cal Tryz.prog OQ 73 [mA E P m b,bA neg] (wA (sgb E P neg)) :=
 calA [.mc E P m b,.s (.bool neg)] (r:=.w _) (by kernel_rfl) rfl fun w vs _ hv=>by
  obtain ⟨x,y,rfl,rfl,rfl⟩:=two_args hv;exact (zero_c E P m b neg w hF).mono fun _ _ ⟨h1,h2⟩=>⟨_,h1,rfl,h2⟩
theorem cInvalid (hF:Fmt E P):Cal Tryz.prog OQ 155 [mA E P m b] (.t [wA (nanw E P),iA 1]) :=
 calA2 [.mc E P m b] (r:=.w _) (s:=.s (.int .i64 1)) (by kernel_rfl) rfl rfl fun w vs _ hv=>by
  obtain ⟨x,rfl,rfl⟩:=one_arg hv;exact (invalid_c E P m b w hF).mono fun _ _ ⟨h1,h2⟩=>⟨_,_,h1,rfl,rfl,h2⟩
theorem cRound {l:Int} (hF:Fmt E P) (hm:m≤4) (hb:b=bias E) (sx:SmQ K q) (hK:K≤12000) (hl:q≠0→IsLog (absQ q) l):Cal Tryz.prog OQ 74 [mA E P m b,nA q] (.t [wA (rnd E P b m q l).1,iA ((rnd E P b m q l).2:Nat)]) :=
 calA2 [.mc E P m b,.n q] (r:=.w _) (s:=.s (.int .i64 ((rnd E P b m q l).2:Nat))) (by kernel_rfl) rfl rfl fun w vs hi hv=>by
  obtain ⟨x,y,rfl,rfl,hx⟩:=two_args hv;exact (rnd_c E P b m y q l K w hF hm hb hx sx hK hl hi.2).mono fun _ _ ⟨h1,h2⟩=>⟨_,_,h1,rfl,rfl,h2⟩
theorem cLook (hF:Fmt E P) (hb:b≤1023) (hn:W128 n):Cal Tryz.prog OQ 96 [mA E P m b,wA n] (oA (wkind E P n) (wn E P n) (wvalK E P b n)) :=
 calA [.mc E P m b,.w n] (r:=.op _ _ _) (by kernel_rfl) rfl fun w vs _ hv=>by
  obtain ⟨x,y,rfl,rfl,rfl⟩:=two_args hv;exact (look_c E P m b n w hF hb hn).mono fun _ _ ⟨v,h1,h2,h3⟩=>⟨v,h1,h2,h3⟩
theorem cRank (hF:Fmt E P) (hb:b≤1023) (hn:W128 n):Cal Tryz.prog OQ 97 [mA E P m b,wA n] (nA ((rankZ E P n:Int):Rat)) :=
 calA [.mc E P m b,.w n] (r:=.n _) (by kernel_rfl) rfl fun w vs _ hv=>by
  obtain ⟨x,y,rfl,rfl,rfl⟩:=two_args hv;exact (rank_c E P m b n w hF hb hn).mono fun _ _ ⟨v,h1,h2,h3⟩=>⟨v,h1,h2,h3⟩
theorem cPacked (hn:W128 n):Cal Tryz.prog OQ 79 [nA (n:Rat)] (wA n) :=
 calA [.n (n:Rat)] (r:=.w n) (by kernel_rfl) rfl fun w vs _ hv=>by
  obtain ⟨x,rfl,hx⟩:=one_arg hv;exact (packed_c x n w hx hn).mono fun _ _ ⟨h1,h2⟩=>⟨_,h1,rfl,h2⟩
theorem cShr {k:Nat} (hn:W128 n) (hk:k≤128):Cal Tryz.prog OQ 158 [wA n,iA (k:Nat)] (wA (n/2^k)) :=
 calA [.w n,.s (.int .i64 (k:Nat))] (r:=.w _) (by kernel_rfl) rfl fun w vs _ hv=>by
  obtain ⟨x,y,rfl,rfl,rfl⟩:=two_args hv;exact (shr_w n k w hn hk).mono fun _ _ ⟨h1,h2⟩=>⟨_,h1,rfl,h2⟩
end
theorem dF {p:Prop} [Decidable p] (h:¬ p):decide p=false:=decide_eq_false h
theorem dT {p:Prop} [Decidable p] (h:p):decide p=true:=decide_eq_true h
def lgQ (q:Rat):Int:=if (absQ q).num.natAbs*2^(max (-((bl (absQ q).num.natAbs:Int)-bl (absQ q).den)) 0).toNat<(absQ q).den*2^(max ((bl (absQ q).num.natAbs:Int)-bl (absQ q).den) 0).toNat then (bl (absQ q).num.natAbs:Int)-bl (absQ q).den-1 else (bl (absQ q).num.natAbs:Int)-bl (absQ q).den
theorem lg_is {q:Rat} (h:q≠0):IsLog (absQ q) (lgQ q):=log_is (absQ_num_pos (fun e=>h (Rat.num_eq_zero.1 e))) _ rfl
def rq (E P m:Nat) (q:Rat):Nat×Nat:=rnd E P (bias E) m q (lgQ q)
theorem cRoundQ {E P m K:Nat} {q:Rat} (hF:Fmt E P) (hm:m≤4) (sx:SmQ K q) (hK:K≤12000):Cal Tryz.prog OQ 74 [mA E P m (bias E:Nat),nA q] (.t [wA (rq E P m q).1,iA ((rq E P m q).2:Nat)]) :=
 cRound hF hm rfl sx hK lg_is
theorem cSpecial2 {E P m b:Nat} (hF:Fmt E P) (k1 k2:Int) (n1 n2:Bool) (q1 q2:Rat):Cal Tryz.prog OQ 95 [mA E P m b,.c (.sl 5 [opC k1 n1 q1,opC k2 n2 q2])]
  (.t [wA (nanw E P),iA (if k1=5∨k2=5 then 1 else 0),bA (decide (4≤k1)||decide (4≤k2))]):=by
 refine fn_call TK MX Tryz.func95 rfl (by kernel_rfl) (by kernel_rfl) (by kernel_rfl) rfl rfl ?_
 conv=>whnf
 refine ⟨3,?_⟩
 conv=>whnf
 cases h1:decide (k1≥4)<;>(conv=>whnf)<;>cases h2:k1==5<;>(conv=>whnf)<;>cases h3:k2==5<;>(conv=>whnf)<;>refine ⟨_,cNanF hF,?_⟩<;>(conv=>whnf) <;>
  simp_all [joinR,wdC]
theorem bias_eq {E P:Nat} (hF:Fmt E P):IntKind.i64.wrap (IntKind.i64.wrap (1*2^min (IntKind.i64.wrap ((E:Int)-1)).toNat IntKind.i64.bits)-1)=(bias E:Nat):=by
 obtain ⟨h1,h2,_⟩:=hF;rw [IntWalk.i64_in ((E:Int)-1) (by omega)];have hE:E=2∨E=3∨E=4∨E=5∨E=6∨E=7∨E=8∨E=9∨E=10∨E=11:=by omega
 rcases hE with rfl | rfl | rfl | rfl | rfl | rfl | rfl | rfl | rfl | rfl<;>decide
theorem cWith0 {E P m:Nat} (hF:Fmt E P) (hm:m≤4):Cal Tryz.prog OQ 71 [fA E P,iA (m:Nat),.c (.v (.slice none 0 0))] (.t [mA E P m (bias E:Nat),iA 0]):=by
 refine fn_call TK MX Tryz.func71 rfl (by kernel_rfl) (by kernel_rfl) (by kernel_rfl) rfl rfl ?_;have e1:decide ((m:Int)<0)=false:=dF (by omega);have e2:decide ((m:Int)>4)=false:=dF (by omega);have e3:decide (0≤IntKind.i64.wrap ((E:Int)-1))=true:=dT (by obtain ⟨h1,h2,_⟩:=hF;rw [IntWalk.i64_in ((E:Int)-1) (by omega)];omega)
 conv=>whnf
 rw [e1]
 conv=>whnf
 rw [e2]
 conv=>whnf
 refine ⟨_,cCheck E P,?_⟩;rw [if_pos hF]
 conv=>whnf
 rw [e3]
 conv=>whnf
 refine ⟨1,?_⟩
 conv=>whnf
 rw [bias_eq hF]
 rfl
theorem cWithBad {E P M:Int} {a:AV} (ha:noPA a=true) (h:¬ ((0≤M∧M≤4)∧Fmt E P)):Cal Tryz.prog OQ 71 [fA E P,iA M,a] (.t [mA 0 0 0 0,iA 2]):=by
 refine fn_call TK MX Tryz.func71 rfl (by kernel_rfl) (by kernel_rfl) (by kernel_rfl) rfl (by show (true&&(true&&(noPA a&&true)))=true;rw [ha];rfl) ?_
 conv=>whnf
 cases e1:decide (M<0)
 ·conv=>whnf
  cases e2:decide (M>4)
  ·conv=>whnf
   refine ⟨_,cCheck E P,?_⟩
   have:¬ Fmt E P:=by simp at e1 e2;intro hF;exact h ⟨⟨e1,e2⟩,hF⟩
   rw [if_neg this]
   conv=>whnf
   rfl
  ·conv=>whnf
   rfl
 ·conv=>whnf
  rfl
theorem wz (r:Nat):(((r/18446744073709551616:Nat):Int)==0&&(((r%18446744073709551616:Nat):Int)==0&&true))=decide (r=0):=by
 rw [Bool.eq_iff_iff];simp;omega
theorem shr_z {n k:Nat}:decide (n/2^k=0)=decide (n<2^k):=by
 have:n/2^k=0↔n<2^k:=by rw [Nat.div_eq_zero_iff];have:=Nat.pow_pos (n:=k) (show 0<2 by decide);omega
 simp [this]
theorem cWith1 {E P m n:Nat} (hF:Fmt E P) (hm:m≤4) (hn:W128 n):Cal Tryz.prog OQ 71 [fA E P,iA (m:Nat),.c (.sl 2 [wdC n])] (if n<2^(E+P) then .t [mA E P m (bias E:Nat),iA 0] else .t [mA 0 0 0 0,iA 6]):=by
 refine fn_call TK MX Tryz.func71 rfl (by kernel_rfl) (by kernel_rfl) (by kernel_rfl) (by split<;>rfl) rfl ?_;have e1:decide ((m:Int)<0)=false:=dF (by omega);have e2:decide ((m:Int)>4)=false:=dF (by omega);have e3:decide (0≤IntKind.i64.wrap ((E:Int)-1))=true:=dT (by obtain ⟨h1,h2,_⟩:=hF;rw [IntWalk.i64_in ((E:Int)-1) (by omega)];omega);have e4:IntKind.i64.wrap ((E:Int)+P)=((E+P:Nat):Int):=by obtain ⟨h1,h2,h3,h4,_⟩:=hF;rw [IntWalk.i64_in _ (by omega)];omega
 have hk:E+P≤128:=by obtain ⟨h1,h2,h3,h4,_⟩:=hF;omega
 conv=>whnf
 rw [e1]
 conv=>whnf
 rw [e2]
 conv=>whnf
 refine ⟨_,cCheck E P,?_⟩;rw [if_pos hF]
 conv=>whnf
 rw [e3]
 conv=>whnf
 refine ⟨2,?_⟩
 conv=>whnf
 rw [e4];refine ⟨_,cShr hn hk,?_⟩
 conv=>whnf
 rw [wz,shr_z]
 by_cases hlt:n<2^(E+P)
 ·rw [if_pos hlt,dT hlt]
  conv=>whnf
  rw [bias_eq hF]
  rfl
 ·rw [if_neg hlt,dF hlt]
  conv=>whnf
  rfl
theorem cWith2 {E P m n k:Nat} (hF:Fmt E P) (hm:m≤4) (hn:W128 n) (hk':W128 k):Cal Tryz.prog OQ 71 [fA E P,iA (m:Nat),.c (.sl 2 [wdC n,wdC k])] (if n<2^(E+P)∧k<2^(E+P) then .t [mA E P m (bias E:Nat),iA 0] else .t [mA 0 0 0 0,iA 6]):=by
 refine fn_call TK MX Tryz.func71 rfl (by kernel_rfl) (by kernel_rfl) (by kernel_rfl) (by split<;>rfl) rfl ?_;have e1:decide ((m:Int)<0)=false:=dF (by omega);have e2:decide ((m:Int)>4)=false:=dF (by omega);have e3:decide (0≤IntKind.i64.wrap ((E:Int)-1))=true:=dT (by obtain ⟨h1,h2,_⟩:=hF;rw [IntWalk.i64_in ((E:Int)-1) (by omega)];omega);have e4:IntKind.i64.wrap ((E:Int)+P)=((E+P:Nat):Int):=by obtain ⟨h1,h2,h3,h4,_⟩:=hF;rw [IntWalk.i64_in _ (by omega)];omega
 have hk:E+P≤128:=by obtain ⟨h1,h2,h3,h4,_⟩:=hF;omega
 conv=>whnf
 rw [e1]
 conv=>whnf
 rw [e2]
 conv=>whnf
 refine ⟨_,cCheck E P,?_⟩;rw [if_pos hF]
 conv=>whnf
 rw [e3]
 conv=>whnf
 refine ⟨3,?_⟩
 conv=>whnf
 rw [e4];refine ⟨_,cShr hn hk,?_⟩
 conv=>whnf
 rw [wz,shr_z]
 by_cases hlt:n<2^(E+P)
 ·rw [dT hlt]
  conv=>whnf
  rw [e4];refine ⟨_,cShr hk' hk,?_⟩
  conv=>whnf
  rw [wz,shr_z]
  by_cases hlt':k<2^(E+P)
  ·rw [if_pos ⟨hlt,hlt'⟩,dT hlt']
   conv=>whnf
   rw [bias_eq hF]
   rfl
  ·rw [if_neg (fun h=>hlt' h.2),dF hlt']
   conv=>whnf
   rfl
 ·rw [if_neg (fun h=>hlt h.1),dF hlt]
  conv=>whnf
  rfl
/-! ### values -/
theorem fmt_n {E P:Nat} (hF:Fmt E P):2≤E∧E≤11∧2≤P∧P≤113∧5≤E+P∧bias E≤1023:=by
 obtain ⟨hE,hP,hb,hEP,hb1⟩:=fmt_bounds hF;obtain ⟨h1,h2,h3,h4,h5⟩:=hF
 exact ⟨by omega,by omega,by omega,by omega,by omega,by omega⟩
theorem w128 {E P n:Nat} (hF:Fmt E P) (hn:n<2^(E+P)):W128 n:=by
 have h:=fmt_n hF
 exact Nat.lt_of_lt_of_le hn (Nat.le_trans (Nat.pow_le_pow_right (by decide) (show E+P≤124 by omega)) (by decide))
def valR (E P n:Nat):AV:=if wkind E P n≤2 then .t [nA (wvalK E P (bias E) n),iA 0] else .t [nA 0,iA 4]
theorem cValue {E P n:Nat} (hF:Fmt E P) (hn:n<2^(E+P)):Cal Tryz.prog OQ 19 [fA E P,wA n] (valR E P n):=by
 refine fn_call TK MX Tryz.func19 rfl (by kernel_rfl) (by kernel_rfl) (by kernel_rfl) (by unfold valR;split<;>rfl) rfl ?_
 conv=>whnf
 refine ⟨_,cWith1 (m:=0) hF (by decide) (w128 hF hn),?_⟩;rw [if_pos hn]
 conv=>whnf
 refine ⟨_,cLook hF (fmt_n hF).2.2.2.2.2 (w128 hF hn),?_⟩
 conv=>whnf
 unfold valR
 cases h:decide (wkind E P n>2)
 ·rw [if_pos (by simpa using h)]
  conv=>whnf
  rfl
 ·rw [if_neg (by simpa using h)]
  conv=>whnf
  rfl
theorem cValueForm {E P n:Nat} (hF:Fmt E P) (h8:W128 n) (hn:¬ n<2^(E+P)):Cal Tryz.prog OQ 19 [fA E P,wA n] (.t [nA 0,iA 6]):=by
 refine fn_call TK MX Tryz.func19 rfl (by kernel_rfl) (by kernel_rfl) (by kernel_rfl) rfl rfl ?_
 conv=>whnf
 refine ⟨_,cWith1 (m:=0) hF (by decide) h8,?_⟩;rw [if_neg hn]
 conv=>whnf
 rfl
abbrev resA (r:Nat×Nat):AV:=.t [wA r.1,iA (r.2:Nat)]
def sumR (E P m:Nat) (k1:Int) (n1:Bool) (q1:Rat) (k2:Int) (n2:Bool) (q2:Rat):Nat×Nat :=
 if k1=3∧k2=3∧n1≠n2 then (nanw E P,1) else if k1=3 then (infw E P n1,0) else if k2=3 then (infw E P n2,0)
 else if q1+q2≠0 then rq E P m (q1+q2) else if k1=1∧n1=n2 then (sgb E P n1,0) else (sgb E P (decide (m=4)),0)
theorem sgnNe (q:Rat):(q.num.sign != 0)=decide (q≠0):=by
 rw [Bool.eq_iff_iff];simp [Int.sign_eq_zero_iff_zero,Rat.num_eq_zero]
theorem cAddM {E P m K:Nat} {k1 k2:Int} {n1 n2:Bool} {q1 q2:Rat} (hF:Fmt E P) (hm:m≤4) (s1:SmQ K q1) (s2:SmQ K q2) (hK:K≤5000) :
  Cal Tryz.prog OQ 144 [mA E P m (bias E:Nat),oA k1 n1 q1,oA k2 n2 q2] (resA (sumR E P m k1 n1 q1 k2 n2 q2)):=by
 refine fn_call TK MX Tryz.func144 rfl (by kernel_rfl) (by kernel_rfl) (by kernel_rfl) rfl rfl ?_;unfold sumR
 conv=>whnf
 cases h1:k1==3
 ·have h1':¬ k1=3:=by simpa using h1
  rw [if_neg (fun h=>h1' h.1),if_neg h1']
  conv=>whnf
  repeat (rw [h1];conv=>whnf)
  cases h2:k2==3
  ·have h2':¬ k2=3:=by simpa using h2
   rw [if_neg h2']
   conv=>whnf
   refine ⟨_,cAdd s1 s2 (by omega),?_⟩
   conv=>whnf
   refine ⟨_,cSign,?_⟩
   conv=>whnf
   rw [sgnNe]
   by_cases h0:q1+q2≠0
   ·rw [if_pos h0,dT h0]
    conv=>whnf
    refine ⟨_,cRoundQ hF hm (s1.add s2) (by omega),?_⟩
    conv=>whnf
    rfl
   ·rw [if_neg h0,dF h0]
    conv=>whnf
    cases h3:k1==1
    ·have h3':¬ k1=1:=by simpa using h3
     rw [if_neg (fun h=>h3' h.1)]
     conv=>whnf
     have:((m:Int)==4)=decide (m=4):=by rw [Bool.eq_iff_iff];simp;omega
     rw [this];refine ⟨_,cZero hF,?_⟩
     conv=>whnf
     rfl
    ·have h3':k1=1:=by simpa using h3
     conv=>whnf
     cases h4:n1==n2
     ·have h4':¬ n1=n2:=by simpa using h4
      rw [if_neg (fun h=>h4' h.2)]
      conv=>whnf
      have:((m:Int)==4)=decide (m=4):=by rw [Bool.eq_iff_iff];simp;omega
      rw [this];refine ⟨_,cZero hF,?_⟩
      conv=>whnf
      rfl
     ·have h4':n1=n2:=by simpa using h4
      rw [if_pos ⟨h3',h4'⟩]
      conv=>whnf
      refine ⟨_,cZero hF,?_⟩
      conv=>whnf
      rfl
  ·have h2':k2=3:=by simpa using h2
   rw [if_pos h2']
   conv=>whnf
   refine ⟨_,cInf hF,?_⟩
   conv=>whnf
   rfl
 ·have h1':k1=3:=by simpa using h1
  conv=>whnf
  cases h2:k2==3
  ·have h2':¬ k2=3:=by simpa using h2
   rw [if_neg (fun h=>h2' h.2.1),if_pos h1']
   conv=>whnf
   repeat (rw [h1];conv=>whnf)
   refine ⟨_,cInf hF,?_⟩
   conv=>whnf
   rfl
  ·have h2':k2=3:=by simpa using h2
   conv=>whnf
   cases h4:n1==n2
   ·have h4':¬ n1=n2:=by simpa using h4
    rw [if_pos ⟨h1',h2',h4'⟩]
    conv=>whnf
    refine ⟨_,cInvalid hF,?_⟩
    conv=>whnf
    rfl
   ·have h4':n1=n2:=by simpa using h4
    rw [if_neg (fun h=>h.2.2 h4'),if_pos h1']
    conv=>whnf
    repeat (rw [h1];conv=>whnf)
    refine ⟨_,cInf hF,?_⟩
    conv=>whnf
    rfl
abbrev kd (E P n:Nat):Int:=wkind E P n
abbrev vl (E P n:Nat):Rat:=wvalK E P (bias E) n
theorem sm_word {E P n:Nat} (hF:Fmt E P):SmQ 5000 (vl E P n):=by
 by_cases h:wkind E P n≤2
 ·exact wvalK_sm hF h
 ·have hp:=fmt_n hF;have hr:wr P n<2^113:=Nat.lt_of_lt_of_le (Nat.mod_lt _ (Nat.pow_pos (by decide))) (Nat.pow_le_pow_right (by decide) (by omega));unfold vl wvalK;rw [if_neg (by omega)]
  split
  ·exact (SmQ.nat (K:=113) (by decide) (Nat.lt_of_le_of_lt (Nat.mod_le _ _) hr)).mono (by decide)
  ·split
   ·exact (SmQ.nat (K:=113) (by decide) hr).mono (by decide)
   ·exact SmQ.zero _ (by decide)
theorem vlNe {E P n:Nat} (h:kd E P n=2):vl E P n≠0:=by
 intro e
 have:=(kind_zero (E:=E) (P:=P) (b:=bias E) (n:=n) (show wkind E P n≤2 by show kd E P n≤2;omega)).2 e
 have h:wkind E P n=2:=h
 omega
abbrev res3 (r:Nat×Nat):AV:=.t [wA r.1,iA (r.2:Nat),iA 0]
def opnR (E P i j:Nat) (R:Nat×Nat):Nat×Nat:=if 4≤kd E P i∨4≤kd E P j then (nanw E P,if kd E P i=5∨kd E P j=5 then 1 else 0) else R
abbrev fnA (f:FuncId):AV:=.c (.v (.func (.func f) #[] #[]))
theorem cOperate {f:FuncId} {E P m i j:Nat} {R:Nat×Nat} (hF:Fmt E P) (hm:m≤4) (hi:i<2^(E+P)) (hj:j<2^(E+P))
  (hf:¬ 4≤kd E P i→¬ 4≤kd E P j→Cal Tryz.prog OQ f [mA E P m (bias E:Nat),oA (kd E P i) (wn E P i) (vl E P i),oA (kd E P j) (wn E P j) (vl E P j)] (resA R)) :
  Cal Tryz.prog OQ 143 [fA E P,iA (m:Nat),wA i,wA j,fnA f] (res3 (opnR E P i j R)):=by
 refine fn_call TK MX Tryz.func143 rfl (by kernel_rfl) (by kernel_rfl) (by kernel_rfl) rfl rfl ?_;have hb:=(fmt_n hF).2.2.2.2.2
 conv=>whnf
 refine ⟨_,cWith2 hF hm (w128 hF hi) (w128 hF hj),?_⟩;rw [if_pos ⟨hi,hj⟩]
 conv=>whnf
 refine ⟨_,cLook hF hb (w128 hF hi),?_⟩
 conv=>whnf
 refine ⟨_,cLook hF hb (w128 hF hj),?_⟩
 conv=>whnf
 refine ⟨_,cSpecial2 hF _ _ _ _ _ _,?_⟩
 conv=>whnf
 by_cases h:4≤kd E P i∨4≤kd E P j
 ·rw [show opnR E P i j R=_ from if_pos h,show (decide (4≤wkind E P i)||decide (4≤wkind E P j))=true by simpa using h]
  conv=>whnf
  split<;>rfl
 ·rw [show opnR E P i j R=_ from if_neg h,show (decide (4≤wkind E P i)||decide (4≤wkind E P j))=false by simpa using h]
  conv=>whnf
  refine ⟨_,hf (fun k=>h (.inl k)) (fun k=>h (.inr k)),?_⟩
  conv=>whnf
  rfl
theorem cOperateBad {f:FuncId} {E P M:Int} {i j:Nat} (h:¬ ((0≤M∧M≤4)∧Fmt E P)):Cal Tryz.prog OQ 143 [fA E P,iA M,wA i,wA j,fnA f] (.t [wA 0,iA 0,iA 2]):=by
 refine fn_call TK MX Tryz.func143 rfl (by kernel_rfl) (by kernel_rfl) (by kernel_rfl) rfl rfl ?_
 conv=>whnf
 refine ⟨_,cWithBad (a:=.c (.sl 2 [wdC i,wdC j])) rfl h,?_⟩
 conv=>whnf
 rfl
theorem cOperateForm {f:FuncId} {E P m i j:Nat} (hF:Fmt E P) (hm:m≤4) (h1:W128 i) (h2:W128 j) (h:¬ (i<2^(E+P)∧j<2^(E+P))):Cal Tryz.prog OQ 143 [fA E P,iA (m:Nat),wA i,wA j,fnA f] (.t [wA 0,iA 0,iA 6]):=by
 refine fn_call TK MX Tryz.func143 rfl (by kernel_rfl) (by kernel_rfl) (by kernel_rfl) rfl rfl ?_
 conv=>whnf
 refine ⟨_,cWith2 hF hm h1 h2,?_⟩;rw [if_neg h]
 conv=>whnf
 rfl
end Go.Proofs.YtgabigepocfllaaGreatDoor
