/- floats: Sub, Rem, Sqrt, Fma, by reckoning. -/
import Derived.Test.YtgabigepocfllaaGreatDoorQ49
namespace Go.Proofs.YtgabigepocfllaaGreatDoor
open Go.RowKit Vn
set_option maxRecDepth 100000
set_option maxHeartbeats 8000000
section
variable {E P m n:Nat} {q:Rat} {K:Nat}
theorem sm_word2 (hF:Fmt E P):SmQ 2500 (vl E P n):=by
 by_cases h:wkind E P n≤2
 ·have hE:2≤E∧E≤11:=by unfold Fmt at hF;omega
  have hP:2≤P∧P≤113:=by unfold Fmt at hF;omega
  unfold vl;rw [wvalK_fin h];have h1:=wfr_lt (E:=E) (P:=P) (n:=n) (by omega);have hf:wf E P n<2^E:=Nat.mod_lt _ (Nat.pow_pos (by decide));have hb2:2^E=2*(bias E+1):=by
   have:2^E=2*2^(E-1):=by rw [←Nat.pow_succ'];congr 1;omega
   have h0:0<2^(E-1):=Nat.pow_pos (by decide);unfold bias;omega
  have hb:bias E≤1023:=(fmt_n hF).2.2.2.2.2;have s1:SmQ 113 ((wfr E P n:Nat):Rat):=SmQ.nat (by decide) (Nat.lt_of_lt_of_le h1 (Nat.pow_le_pow_right (by decide) hP.2));have s2:=s1.mul_p2 (2-(bias E:Int)-P+((max (wf E P n) 1-1:Nat):Int)) 1200 (by omega);have s3:SmQ 2500 (((wfr E P n:Nat):Rat)*(2:Rat)^(2-(bias E:Int)-P+((max (wf E P n) 1-1:Nat):Int))):=s2.mono (by decide);unfold wval
  split
  ·have:=s3.neg
   rwa [show -(((wfr E P n:Nat):Rat)*(2:Rat)^(2-(bias E:Int)-P+((max (wf E P n) 1-1:Nat):Int))) = -1*(((wfr E P n:Nat):Rat)*(2:Rat)^(2-(bias E:Int)-P+((max (wf E P n) 1-1:Nat):Int))) from by grind] at this
  ·rwa [Rat.one_mul]
 ·have hp:=fmt_n hF;have hr:wr P n<2^113:=Nat.lt_of_lt_of_le (Nat.mod_lt _ (Nat.pow_pos (by decide))) (Nat.pow_le_pow_right (by decide) (by omega));unfold vl wvalK;rw [if_neg (by omega)]
  split
  ·exact (SmQ.nat (K:=113) (by decide) (Nat.lt_of_le_of_lt (Nat.mod_le _ _) hr)).mono (by decide)
  ·split
   ·exact (SmQ.nat (K:=113) (by decide) hr).mono (by decide)
   ·exact SmQ.zero _ (by decide)
theorem cSubM {k1 k2:Int} {n1 n2:Bool} {q1 q2:Rat} (hF:Fmt E P) (hm:m≤4) (s1:SmQ K q1) (s2:SmQ K q2) (hK:K≤5000) :
  Cal Tryz.prog OQ 146 [mA E P m (bias E:Nat),oA k1 n1 q1,oA k2 n2 q2] (resA (sumR E P m k1 n1 q1 k2 (!n2) (-q2))):=by
 refine fn_call TK MX Tryz.func146 rfl (by kernel_rfl) (by kernel_rfl) (by kernel_rfl) rfl rfl ?_
 conv=>whnf
 refine ⟨_,cNeg,?_⟩
 conv=>whnf
 refine ⟨_,cAddM hF hm s1 s2.neg hK,?_⟩
 conv=>whnf
 rfl
def subZ (E P M:Int) (i j:Nat):=opZ E P M i j fun e p m=>sumR e p m (kd e p i) (wn e p i) (vl e p i) (kd e p j) (!wn e p j) (-vl e p j)
theorem cSubZ {E P M:Int} {i j:Nat} (h1:W128 i) (h2:W128 j):Cal Tryz.prog OQ 59 [fA E P,iA M,wA i,wA j] (z3 (subZ E P M i j)):=by
 refine fn_call TK MX Tryz.func59 rfl (by kernel_rfl) (by kernel_rfl) (by kernel_rfl) rfl rfl ?_
 conv=>whnf
 refine ⟨_,cOpZ h1 h2 fun E P m hF hm hi hj _ _=>cSubM hF hm (sm_word hF) (sm_word hF) (by decide),?_⟩
 conv=>whnf
 rfl
/-! ### Rem -/
def remW (E P:Nat) (k1:Int) (n1:Bool) (q1:Rat) (k2:Int) (q2:Rat):Nat×Nat:=remR E P (bias E) 0 k1 n1 q1 k2 q2 (lgQ (remV k1 q1 k2 q2))
theorem v2_lt {n K:Nat} (h0:0<n) (h:Sm K n):v2 n<K:=by
 obtain ⟨k,hk⟩:=is_v2 h0;rw [v2_eq hk];obtain ⟨m,hm⟩:=hk;have h1:2^k≤n:=by rw [hm];exact Nat.le_mul_of_pos_right _ (by omega)
 exact (Nat.pow_lt_pow_iff_right (by decide)).1 (Nat.lt_of_le_of_lt h1 h)
theorem cTwosI {z:Int} (sx:SmQ K ((z:Int):Rat)) (hK:K≤1000000) (h0:z≠0):Cal Tryz.prog OQ 215 [nA ((z:Int):Rat)] (iA (v2 z.natAbs:Nat)):=by
 have h1:Sm K z.natAbs:=sx.1;have hp:0<z.natAbs:=by omega
 have hv:=v2_lt hp h1;have v1:v2 1=0:=v2_eq ⟨0,rfl⟩;refine fn_callB [(3,[(1,1),(3,1)])] TK MX Tryz.func215 rfl (by kernel_rfl) (by kernel_rfl) (by kernel_rfl) rfl rfl ?_
 conv=>whnf
 refine ⟨_,cSign,?_⟩
 conv=>whnf
 rw [show (((z:Int):Rat).num.sign==0)=false from beq_eq_false_iff_ne.2 (fun h=>h0 (Int.sign_eq_zero_iff_zero.1 h))]
 conv=>whnf
 refine ⟨_,cNatTwos (n:=z.natAbs) h1 (by omega) hp,?_⟩
 conv=>whnf
 refine ⟨_,cBottom,?_⟩
 conv=>whnf
 refine ⟨_,cNatTwos (n:=1) (K:=1) (by unfold Sm;decide) (by decide) (by decide),?_⟩;rw [v1]
 conv=>whnf
 rw [IntWalk.i64_in (((v2 z.natAbs:Nat):Int)-((0:Nat):Int)) (by omega),show ((v2 z.natAbs:Nat):Int)-((0:Nat):Int)=((v2 z.natAbs:Nat):Int) by omega]
 rfl
theorem odd_test {z:Int} (h0:z≠0):(((v2 z.natAbs:Nat):Int)==0)=decide (z.natAbs%2=1):=by
 rw [show (0:Int)=((0:Nat):Int) from rfl,natc];simp only [v2_zero (show 0<z.natAbs by omega)]
theorem cRemM {k1 k2:Int} {n1 n2:Bool} {q1 q2:Rat} (hF:Fmt E P) (s1:SmQ 2500 q1) (s2:SmQ 2500 q2) (h:k2≠1→k2≠3→q2≠0) (hk:¬ (k1=3∨k2=1)) :
  Cal Tryz.prog OQ 152 [mA E P (0:Nat) (bias E:Nat),oA k1 n1 q1,oA k2 n2 q2] (resA (remW E P k1 n1 q1 k2 q2)):=by
 have g1:(k1==3)=false:=beq_eq_false_iff_ne.2 (fun e=>hk (.inl e));have g2:(k2==1)=false:=beq_eq_false_iff_ne.2 (fun e=>hk (.inr e));refine fn_callB [(7,[(0,10),(4,10),(8,8),(9,10)]),(8,[(0,10),(3,10)]),(9,[(1,4),(3,5),(4,10),(8,11)])] TK MX Tryz.func152 rfl (by kernel_rfl) (by kernel_rfl) (by kernel_rfl) rfl rfl ?_
 by_cases hc:k1=1∨k2=3
 ·have e:remW E P k1 n1 q1 k2 q2=exaR E P 0 k1 n1 q1:=by
   unfold remW remR remV exR exaR rq;rw [if_neg hk,if_pos hc,if_pos hc]
  rw [e]
  conv=>whnf
  rw [g1]
  conv=>whnf
  rw [g2]
  conv=>whnf
  by_cases h1:k1=1
  ·rw [show (k1==1)=true from beq_iff_eq.2 h1]
   conv=>whnf
   refine ⟨_,cExactly (m:=0) hF (by decide) s1 (by decide),?_⟩
   conv=>whnf
   rfl
  ·have h3:=hc.resolve_left h1;rw [show (k1==1)=false from beq_eq_false_iff_ne.2 h1]
   conv=>whnf
   rw [show (k2==3)=true from beq_iff_eq.2 h3]
   conv=>whnf
   refine ⟨_,cExactly (m:=0) hF (by decide) s1 (by decide),?_⟩
   conv=>whnf
   rfl
 ·have h2:q2≠0:=h (fun e=>hk (.inr e)) (fun e=>hc (.inr e));have sq:=s1.div s2 h2;have e:remW E P k1 n1 q1 k2 q2=if q1-q2*((remN (q1/q2):Int):Rat)=0 then (sgb E P n1,0) else rq E P 0 (q1-q2*((remN (q1/q2):Int):Rat)):=by
   unfold remW remR remV rq;rw [if_neg hk,if_neg hc,if_neg hc]
  have sr:SmQ 12000 (q1-q2*((remN (q1/q2):Int):Rat)):=(s1.sub (s2.mul (remN_sm sq))).mono (by decide);have eN:remN (q1/q2)=if upB 0 (decide ((q1/q2).floor≠0)&&decide ((q1/q2).floor.natAbs%2=1)) (cmpQ ((q1/q2-(((q1/q2).floor:Int):Rat))*(2:Rat)^(1:Int)) 1)=true then (q1/q2).floor+1 else (q1/q2).floor:=rfl;have hm:=remN_sm sq;have hQ:Cal Tryz.prog OQ 184 [nA q1,nA q2] (.t [nA (q1/q2),iA 0]):=cQuo s1 s2 (by decide) h2;rw [e];generalize remN (q1/q2)=z at *
  generalize q1/q2=t at *
  have sf:=sq.floor;have e1:((t.floor+1:Int):Rat)=((t.floor:Int):Rat)+((1:Int):Rat):=Rat.intCast_add _ _;generalize hfl:t.floor=f at *
  obtain ⟨R,hR⟩:∃ R,R=if q1-q2*((z:Int):Rat)=0 then (sgb E P n1,0) else rq E P 0 (q1-q2*((z:Int):Rat)):=⟨_,rfl⟩;rw [←hR]
  conv=>whnf
  rw [g1]
  conv=>whnf
  rw [g2]
  conv=>whnf
  rw [show (k1==1)=false from beq_eq_false_iff_ne.2 (fun e=>hc (.inl e))]
  conv=>whnf
  rw [show (k2==3)=false from beq_eq_false_iff_ne.2 (fun e=>hc (.inr e))]
  conv=>whnf
  refine ⟨_,hQ,?_⟩
  conv=>whnf
  refine ⟨_,cFloor sq (by decide),?_⟩;rw [hfl]
  conv=>whnf
  refine ⟨_,cSign,?_⟩;have hsn:(((f:Int):Rat).num.sign != 0)=decide (f≠0):=by
   rw [Bool.eq_iff_iff,bne_iff_ne,decide_eq_true_iff]
   exact not_congr Int.sign_eq_zero_iff_zero
  conv=>whnf
  rw [hsn];have sd:=(sq.sub sf).mul_p2 1 2 (by decide);have s1':SmQ 30000 ((1:Int):Rat):=(SmQ.int (K:=2) (n:=1) (by decide) (by decide)).mono (by decide);have key:∀ o:Bool,o=(decide (f≠0)&&decide (f.natAbs%2=1))→z=if upB 0 o (cmpQ ((t-((f:Int):Rat))*(2:Rat)^(1:Int)) ((1:Int):Rat))=true then f+1 else f:=fun o h=>by rw [h];exact eN
  by_cases hf0:f=0
  ·have hk:=key false (by rw [dF (show ¬ f≠0 from fun h=>h hf0)];rfl);rw [dF (show ¬ f≠0 from fun h=>h hf0)]
   conv=>whnf
   refine ⟨_,cSub (K:=6000) (sq.mono (by decide)) (sf.mono (by decide)) (by decide),?_⟩
   conv=>whnf
   refine ⟨_,cShiftF (k:=1) (sq.sub sf) (by decide) (by decide) (by decide),?_⟩
   conv=>whnf
   refine ⟨_,cInt (n:=1) (by decide) (by decide),?_⟩
   conv=>whnf
   refine ⟨_,cCmp (K:=30000) (sd.mono (by decide)) s1' (by decide),?_⟩
   conv=>whnf
   refine ⟨_,cUpward (m:=0) (by decide),?_⟩;generalize upB 0 false (cmpQ ((t-((f:Int):Rat))*(2:Rat)^(1:Int)) ((1:Int):Rat))=u at *
   cases u
   ·rw [if_neg (by decide)] at hk;obtain rfl:=hk
    conv=>whnf
    refine ⟨_,cMul (K:=6000) (s2.mono (by decide)) (hm.mono (by decide)) (by decide),?_⟩
    conv=>whnf
    refine ⟨_,cSub (K:=12000) (s1.mono (by decide)) ((s2.mul hm).mono (by decide)) (by decide),?_⟩;generalize q1-q2*((z:Int):Rat)=r at *
    conv=>whnf
    refine ⟨_,cSign,?_⟩
    conv=>whnf
    rw [signZ]
    by_cases hr:r=0
    ·rw [if_pos hr] at hR;rw [dT hr]
     conv=>whnf
     refine ⟨_,cZero hF,?_⟩;rw [hR]
     conv=>whnf
     rfl
    ·rw [if_neg hr] at hR;rw [dF hr]
     conv=>whnf
     refine ⟨_,cRoundQ (m:=0) hF (by decide) sr (by decide),?_⟩;rw [hR]
     conv=>whnf
     rfl
   ·rw [if_pos rfl] at hk
    conv=>whnf
    refine ⟨_,cInt (n:=1) (by decide) (by decide),?_⟩
    conv=>whnf
    refine ⟨_,cAdd (K:=30000) (sf.mono (by decide)) s1' (by decide),?_⟩;rw [←e1,←hk]
    conv=>whnf
    refine ⟨_,cMul (K:=6000) (s2.mono (by decide)) (hm.mono (by decide)) (by decide),?_⟩
    conv=>whnf
    refine ⟨_,cSub (K:=12000) (s1.mono (by decide)) ((s2.mul hm).mono (by decide)) (by decide),?_⟩;generalize q1-q2*((z:Int):Rat)=r at *
    conv=>whnf
    refine ⟨_,cSign,?_⟩
    conv=>whnf
    rw [signZ]
    by_cases hr:r=0
    ·rw [if_pos hr] at hR;rw [dT hr]
     conv=>whnf
     refine ⟨_,cZero hF,?_⟩;rw [hR]
     conv=>whnf
     rfl
    ·rw [if_neg hr] at hR;rw [dF hr]
     conv=>whnf
     refine ⟨_,cRoundQ (m:=0) hF (by decide) sr (by decide),?_⟩;rw [hR]
     conv=>whnf
     rfl
  ·have ho:(decide (f≠0)&&decide (f.natAbs%2=1))=decide (f.natAbs%2=1):=by rw [dT hf0];rfl
   have hk:=key (decide (f.natAbs%2=1)) ho.symm;rw [dT hf0]
   conv=>whnf
   refine ⟨_,cTwosI sf (by decide) hf0,?_⟩
   conv=>whnf
   rw [odd_test hf0];generalize decide (f.natAbs%2=1)=o at *
   refine ⟨_,cSub (K:=6000) (sq.mono (by decide)) (sf.mono (by decide)) (by decide),?_⟩
   conv=>whnf
   refine ⟨_,cShiftF (k:=1) (sq.sub sf) (by decide) (by decide) (by decide),?_⟩
   conv=>whnf
   refine ⟨_,cInt (n:=1) (by decide) (by decide),?_⟩
   conv=>whnf
   refine ⟨_,cCmp (K:=30000) (sd.mono (by decide)) s1' (by decide),?_⟩
   conv=>whnf
   refine ⟨_,cUpward (m:=0) (by decide),?_⟩;generalize upB 0 o (cmpQ ((t-((f:Int):Rat))*(2:Rat)^(1:Int)) ((1:Int):Rat))=u at *
   cases u
   ·rw [if_neg (by decide)] at hk;obtain rfl:=hk
    conv=>whnf
    refine ⟨_,cMul (K:=6000) (s2.mono (by decide)) (hm.mono (by decide)) (by decide),?_⟩
    conv=>whnf
    refine ⟨_,cSub (K:=12000) (s1.mono (by decide)) ((s2.mul hm).mono (by decide)) (by decide),?_⟩;generalize q1-q2*((z:Int):Rat)=r at *
    conv=>whnf
    refine ⟨_,cSign,?_⟩
    conv=>whnf
    rw [signZ]
    by_cases hr:r=0
    ·rw [if_pos hr] at hR;rw [dT hr]
     conv=>whnf
     refine ⟨_,cZero hF,?_⟩;rw [hR]
     conv=>whnf
     rfl
    ·rw [if_neg hr] at hR;rw [dF hr]
     conv=>whnf
     refine ⟨_,cRoundQ (m:=0) hF (by decide) sr (by decide),?_⟩;rw [hR]
     conv=>whnf
     rfl
   ·rw [if_pos rfl] at hk
    conv=>whnf
    refine ⟨_,cInt (n:=1) (by decide) (by decide),?_⟩
    conv=>whnf
    refine ⟨_,cAdd (K:=30000) (sf.mono (by decide)) s1' (by decide),?_⟩;rw [←e1,←hk]
    conv=>whnf
    refine ⟨_,cMul (K:=6000) (s2.mono (by decide)) (hm.mono (by decide)) (by decide),?_⟩
    conv=>whnf
    refine ⟨_,cSub (K:=12000) (s1.mono (by decide)) ((s2.mul hm).mono (by decide)) (by decide),?_⟩;generalize q1-q2*((z:Int):Rat)=r at *
    conv=>whnf
    refine ⟨_,cSign,?_⟩
    conv=>whnf
    rw [signZ]
    by_cases hr:r=0
    ·rw [if_pos hr] at hR;rw [dT hr]
     conv=>whnf
     refine ⟨_,cZero hF,?_⟩;rw [hR]
     conv=>whnf
     rfl
    ·rw [if_neg hr] at hR;rw [dF hr]
     conv=>whnf
     refine ⟨_,cRoundQ (m:=0) hF (by decide) sr (by decide),?_⟩;rw [hR]
     conv=>whnf
     rfl
theorem cRemInv {k1 k2:Int} {n1 n2:Bool} {q1 q2:Rat} (hF:Fmt E P) (hk:k1=3∨k2=1) :
  Cal Tryz.prog OQ 152 [mA E P (0:Nat) (bias E:Nat),oA k1 n1 q1,oA k2 n2 q2] (resA (nanw E P,1)):=by
 refine fn_call TK MX Tryz.func152 rfl (by kernel_rfl) (by kernel_rfl) (by kernel_rfl) rfl rfl ?_
 conv=>whnf
 by_cases h:k1=3
 ·rw [show (k1==3)=true from beq_iff_eq.2 h]
  conv=>whnf
  refine ⟨_,cInvalid hF,?_⟩
  conv=>whnf
  rfl
 ·have h2:k2=1:=hk.resolve_left h;rw [show (k1==3)=false from beq_eq_false_iff_ne.2 h]
  conv=>whnf
  rw [show (k2==1)=true from beq_iff_eq.2 h2]
  conv=>whnf
  refine ⟨_,cInvalid hF,?_⟩
  conv=>whnf
  rfl
def remG (E P:Nat) (k1:Int) (n1:Bool) (q1:Rat) (k2:Int) (q2:Rat):Nat×Nat:=if k1=3∨k2=1 then (nanw E P,1) else remW E P k1 n1 q1 k2 q2
def remZ (E P:Int) (i j:Nat):=opZ E P 0 i j fun e p _=>remG e p (kd e p i) (wn e p i) (vl e p i) (kd e p j) (vl e p j)
theorem cOpZ0 {f:FuncId} {E P:Int} {i j:Nat} {R:Nat→Nat→Nat×Nat} (h1:W128 i) (h2:W128 j)
  (hf:∀ E P:Nat,Fmt E P→i<2^(E+P)→j<2^(E+P)→¬ 4≤kd E P i→¬ 4≤kd E P j→Cal Tryz.prog OQ f [mA E P (0:Nat) (bias E:Nat),oA (kd E P i) (wn E P i) (vl E P i),oA (kd E P j) (wn E P j) (vl E P j)] (resA (R E P))) :
  Cal Tryz.prog OQ 143 [fA E P,iA 0,wA i,wA j,fnA f] (z3 (opZ E P 0 i j fun e p _=>R e p)):=by
 by_cases h:(0≤(0:Int)∧(0:Int)≤4)∧Fmt E P
 ·obtain ⟨e,p,m,rfl,rfl,hm',hm,hF⟩:=fmt_cases h;obtain rfl:m=0:=by omega
  by_cases hw:i<2^(e+p)∧j<2^(e+p)
  ·have:=opZ_good (R:=fun e p _=>R e p) (m:=0) hF hm hw.1 hw.2
   rw [show opZ e p 0 i j (fun e p _=>R e p)=_ from this]
   exact cOperate hF hm hw.1 hw.2 (hf e p hF hw.1 hw.2)
  ·have:opZ e p 0 i j (fun e p _=>R e p)=(0,0,6):=by
    have e':((e:Int)+p).toNat=e+p:=by omega
    unfold opZ;rw [if_neg (fun k=>k h),e',if_pos hw]
   rw [this]
   exact cOperateForm (m:=0) hF hm h1 h2 hw
 ·rw [show opZ E P 0 i j (fun e p _=>R e p)=_ from if_pos h]
  exact cOperateBad h
theorem cRemZ {E P:Int} {i j:Nat} (h1:W128 i) (h2:W128 j):Cal Tryz.prog OQ 65 [fA E P,wA i,wA j] (z3 (remZ E P i j)):=by
 refine fn_call TK MX Tryz.func65 rfl (by kernel_rfl) (by kernel_rfl) (by kernel_rfl) rfl rfl ?_
 conv=>whnf
 refine ⟨_,cOpZ0 (R:=fun e p=>remG e p (kd e p i) (wn e p i) (vl e p i) (kd e p j) (vl e p j)) h1 h2 fun E P hF hi hj k1 k2 => ?_,?_⟩
 ·show Cal Tryz.prog OQ _ _ (resA (remG E P (kd E P i) (wn E P i) (vl E P i) (kd E P j) (vl E P j)))
  unfold remG
  by_cases hk:kd E P i=3∨kd E P j=1
  ·rw [if_pos hk];exact cRemInv hF hk
  ·rw [if_neg hk]
   exact cRemM hF (sm_word2 hF) (sm_word2 hF) (fun a b=>vlNe (by have:=kd_cases E P j;omega)) hk
 ·conv=>whnf
  rfl
/-! ### Sqrt -/
noncomputable def sqrR (E P m n:Nat):Nat×Nat:=if 4≤kd E P n then (nanw E P,if kd E P n=5 then 1 else 0) else if kd E P n=1∨kd E P n=3∧wn E P n=false then (n,0) else if wn E P n=true then (nanw E P,1) else rootR E P m (vl E P n)
theorem vl_nonneg (hF:Fmt E P) (h:kd E P n=2) (hn:wn E P n=false):0≤vl E P n:=by
 have _p:=fmt_n hF;have h:wkind E P n=2:=h;have e:vl E P n=wval E P (bias E) n:=wvalK_fin (by omega);rw [e];unfold wval;rw [hn,if_neg (by decide),Rat.one_mul]
 exact steps_nonneg _ _
theorem cSqrtF (hF:Fmt E P) (hm:m≤4) (hn:n<2^(E+P)):Cal Tryz.prog OQ 67 [fA E P,iA (m:Nat),wA n] (res3 (sqrR E P m n)):=by
 refine fn_call TK MX Tryz.func67 rfl (by kernel_rfl) (by kernel_rfl) (by kernel_rfl) rfl rfl ?_;have hb:=(fmt_n hF).2.2.2.2.2;have hq:kd E P n=2→wn E P n=false→0≤vl E P n:=vl_nonneg hF;have sm:=sm_word (n:=n) hF;have hk:=kd_cases E P n;unfold sqrR
 conv=>whnf
 refine ⟨_,cWith1 hF hm (w128 hF hn),?_⟩;rw [if_pos hn]
 conv=>whnf
 refine ⟨_,cLook hF hb (w128 hF hn),?_⟩
 conv=>whnf
 refine ⟨_,cSpecial1 hF _ _ _,?_⟩;rw [show wvalK E P (bias E) n=vl E P n from rfl];unfold kd at hk hq ⊢;generalize vl E P n=v at *
 generalize wn E P n=ng at *
 generalize wkind E P n=k at *
 rcases hk with rfl | rfl | rfl | rfl | rfl<;>cases ng<;>(conv=>whnf)<;>first
  | rfl
  | (refine ⟨_,cInvalid hF,?_⟩;(conv=>whnf);rfl)
  | (refine ⟨_,cRootM hF hm sm (hq rfl rfl) (by decide),?_⟩;(conv=>whnf);rfl)
theorem cSqrtBad {E P M:Int} {n:Nat} (h:¬ ((0≤M∧M≤4)∧Fmt E P)):Cal Tryz.prog OQ 67 [fA E P,iA M,wA n] (.t [wA 0,iA 0,iA 2]):=by
 refine fn_call TK MX Tryz.func67 rfl (by kernel_rfl) (by kernel_rfl) (by kernel_rfl) rfl rfl ?_
 conv=>whnf
 refine ⟨_,cWithBad (a:=.c (.sl 2 [wdC n])) rfl h,?_⟩
 conv=>whnf
 rfl
theorem cSqrtForm (hF:Fmt E P) (hm:m≤4) (h8:W128 n) (hn:¬ n<2^(E+P)):Cal Tryz.prog OQ 67 [fA E P,iA (m:Nat),wA n] (.t [wA 0,iA 0,iA 6]):=by
 refine fn_call TK MX Tryz.func67 rfl (by kernel_rfl) (by kernel_rfl) (by kernel_rfl) rfl rfl ?_
 conv=>whnf
 refine ⟨_,cWith1 hF hm h8,?_⟩;rw [if_neg hn]
 conv=>whnf
 rfl
/-! ### Fma -/
theorem cSpecial3 {b:Nat} (hF:Fmt E P) (k1 k2 k3:Int) (n1 n2 n3:Bool) (q1 q2 q3:Rat):Cal Tryz.prog OQ 95 [mA E P m b,.c (.sl 5 [opC k1 n1 q1,opC k2 n2 q2,opC k3 n3 q3])]
  (.t [wA (nanw E P),iA (if k1=5∨k2=5∨k3=5 then 1 else 0),bA (decide (4≤k1)||(decide (4≤k2)||decide (4≤k3)))]):=by
 refine fn_call TK MX Tryz.func95 rfl (by kernel_rfl) (by kernel_rfl) (by kernel_rfl) rfl rfl ?_
 conv=>whnf
 refine ⟨4,?_⟩
 conv=>whnf
 cases h1:decide (k1≥4)<;>(conv=>whnf)<;>cases h2:k1==5<;>(conv=>whnf)<;>(try (cases h4:decide (k2≥4)<;>(conv=>whnf)))<;>cases h3:k2==5<;>(conv=>whnf)<;>cases h5:k3==5<;>(conv=>whnf)<;>refine ⟨_,cNanF hF,?_⟩<;>(conv=>whnf) <;>
  simp_all [joinR,wdC]
def proK (k1 k2:Int):Int:=if minK k1 k2=1 then 1 else maxK k1 k2
def proQ (k1 k2:Int) (q1 q2:Rat):Rat:=if minK k1 k2=1 then 0 else q1*q2
def fmaR (E P m i j l:Nat):Nat×Nat :=
 if ¬ (4≤kd E P i∨4≤kd E P j)∧minK (kd E P i) (kd E P j)=1∧maxK (kd E P i) (kd E P j)=3 then (nanw E P,1)
 else if 4≤kd E P i∨4≤kd E P j∨4≤kd E P l then (nanw E P,if kd E P i=5∨kd E P j=5∨kd E P l=5 then 1 else 0)
 else sumR E P m (proK (kd E P i) (kd E P j)) (wn E P i != wn E P j) (proQ (kd E P i) (kd E P j) (vl E P i) (vl E P j)) (kd E P l) (wn E P l) (vl E P l)
theorem cWith3 {E P m n k l:Nat} (hF:Fmt E P) (hm:m≤4) (hn:W128 n) (hk':W128 k) (hl':W128 l):Cal Tryz.prog OQ 71 [fA E P,iA (m:Nat),.c (.sl 2 [wdC n,wdC k,wdC l])] (if n<2^(E+P)∧k<2^(E+P)∧l<2^(E+P) then .t [mA E P m (bias E:Nat),iA 0] else .t [mA 0 0 0 0,iA 6]):=by
 refine fn_call TK MX Tryz.func71 rfl (by kernel_rfl) (by kernel_rfl) (by kernel_rfl) (by split<;>rfl) rfl ?_;have e1:decide ((m:Int)<0)=false:=dF (by omega);have e2:decide ((m:Int)>4)=false:=dF (by omega);have e3:decide (0≤IntKind.i64.wrap ((E:Int)-1))=true:=dT (by obtain ⟨h1,h2,_⟩:=hF;rw [IntWalk.i64_in ((E:Int)-1) (by omega)];omega);have e4:IntKind.i64.wrap ((E:Int)+P)=((E+P:Nat):Int):=by obtain ⟨h1,h2,h3,h4,_⟩:=hF;rw [IntWalk.i64_in _ (by omega)];omega
 have hk:E+P≤128:=by obtain ⟨h1,h2,h3,h4,_⟩:=hF;omega
 conv=>whnf
 rw [e1]
 conv=>whnf
 rw [e2]
 conv=>whnf
 refine ⟨_,cCheck E P,?_⟩;rw [if_pos hF]
 conv=>whnf
 rw [e3]
 conv=>whnf
 refine ⟨4,?_⟩
 conv=>whnf
 rw [e4];refine ⟨_,cShr hn hk,?_⟩
 conv=>whnf
 rw [wz,shr_z]
 by_cases hlt:n<2^(E+P)
 ·rw [dT hlt]
  conv=>whnf
  rw [e4];refine ⟨_,cShr hk' hk,?_⟩
  conv=>whnf
  rw [wz,shr_z]
  by_cases hlt':k<2^(E+P)
  ·rw [dT hlt']
   conv=>whnf
   rw [e4];refine ⟨_,cShr hl' hk,?_⟩
   conv=>whnf
   rw [wz,shr_z]
   by_cases hl:l<2^(E+P)
   ·rw [if_pos ⟨hlt,hlt',hl⟩,dT hl]
    conv=>whnf
    rw [bias_eq hF]
    rfl
   ·rw [if_neg (fun h=>hl h.2.2),dF hl]
    conv=>whnf
    rfl
  ·rw [if_neg (fun h=>hlt' h.2.1),dF hlt']
   conv=>whnf
   rfl
 ·rw [if_neg (fun h=>hlt h.1),dF hlt]
  conv=>whnf
  rfl
theorem cFmaF {i j l:Nat} (hF:Fmt E P) (hm:m≤4) (hi:i<2^(E+P)) (hj:j<2^(E+P)) (hl:l<2^(E+P)):Cal Tryz.prog OQ 69 [fA E P,iA (m:Nat),wA i,wA j,wA l] (res3 (fmaR E P m i j l)):=by
 refine fn_call TK MX Tryz.func69 rfl (by kernel_rfl) (by kernel_rfl) (by kernel_rfl) rfl rfl ?_;have hb:=(fmt_n hF).2.2.2.2.2;have hw:=cWith3 hF hm (w128 hF hi) (w128 hF hj) (w128 hF hl);rw [if_pos ⟨hi,hj,hl⟩] at hw
 conv=>whnf
 refine ⟨_,hw,?_⟩
 conv=>whnf
 refine ⟨_,cLook hF hb (w128 hF hi),?_⟩
 conv=>whnf
 refine ⟨_,cLook hF hb (w128 hF hj),?_⟩
 conv=>whnf
 refine ⟨_,cLook hF hb (w128 hF hl),?_⟩
 conv=>whnf
 refine ⟨_,cSpecial2 hF _ _ _ _ _ _,?_⟩
 conv=>whnf
 refine ⟨_,cSpecial3 hF _ _ _ _ _ _ _ _ _,?_⟩
 conv=>whnf
 refine ⟨_,cProduct (sm_word2 hF) (sm_word2 hF) (by decide),?_⟩;have hI:∀ b,(decide (4≤kd E P i∨4≤kd E P j∨4≤kd E P l)=b)→(decide (4≤wkind E P i)||(decide (4≤wkind E P j)||decide (4≤wkind E P l)))=b:=fun b h=>by
  rw [←h,Bool.eq_iff_iff];simp
 have hB:∀ b,(decide (4≤kd E P i∨4≤kd E P j)=b)→(decide (4≤wkind E P i)||decide (4≤wkind E P j))=b:=fun b h=>by
  rw [←h,Bool.eq_iff_iff];simp
 by_cases h1:minK (kd E P i) (kd E P j)=1
 ·have eK:proK (kd E P i) (kd E P j)=1:=if_pos h1;have eQ:proQ (kd E P i) (kd E P j) (vl E P i) (vl E P j)=0:=if_pos h1;rw [show proR (minK (wkind E P i) (wkind E P j)) (maxK (wkind E P i) (wkind E P j)) (wn E P i != wn E P j) (wvalK E P (bias E) i*wvalK E P (bias E) j)=_ from if_pos h1]
  conv=>whnf
  by_cases hA:4≤kd E P i∨4≤kd E P j
  ·have hA':4≤kd E P i∨4≤kd E P j∨4≤kd E P l:=by omega
   rw [hB true (dT hA),show fmaR E P m i j l=_ from (if_neg (fun h=>h.1 hA)).trans (if_pos hA')]
   conv=>whnf
   rw [hI true (dT hA')]
   conv=>whnf
   split<;>rfl
  ·rw [hB false (dF hA)]
   conv=>whnf
   by_cases h3:maxK (kd E P i) (kd E P j)=3
   ·rw [show (maxK (wkind E P i) (wkind E P j) != 3)=false by simpa using h3,show fmaR E P m i j l=_ from if_pos ⟨hA,h1,h3⟩]
    conv=>whnf
    refine ⟨_,cInvalid hF,?_⟩
    conv=>whnf
    rfl
   ·rw [show (maxK (wkind E P i) (wkind E P j) != 3)=true by simpa using h3]
    conv=>whnf
    by_cases hC:4≤kd E P i∨4≤kd E P j∨4≤kd E P l
    ·rw [hI true (dT hC),show fmaR E P m i j l=_ from (if_neg (fun h=>h3 h.2.2)).trans (if_pos hC)]
     conv=>whnf
     split<;>rfl
    ·rw [hI false (dF hC),show fmaR E P m i j l=_ from (if_neg (fun h=>h3 h.2.2)).trans (if_neg hC),eK,eQ]
     conv=>whnf
     refine ⟨_,cAddM (k1:=1) (q1:=0) (K:=5000) hF hm (SmQ.zero _ (by decide)) (sm_word hF) (by decide),?_⟩
     conv=>whnf
     rfl
 ·have eK:proK (kd E P i) (kd E P j)=maxK (kd E P i) (kd E P j):=if_neg h1;have eQ:proQ (kd E P i) (kd E P j) (vl E P i) (vl E P j)=vl E P i*vl E P j:=if_neg h1;rw [show proR (minK (wkind E P i) (wkind E P j)) (maxK (wkind E P i) (wkind E P j)) (wn E P i != wn E P j) (wvalK E P (bias E) i*wvalK E P (bias E) j)=_ from if_neg h1]
  conv=>whnf
  by_cases hA:4≤kd E P i∨4≤kd E P j
  ·have hA':4≤kd E P i∨4≤kd E P j∨4≤kd E P l:=by omega
   rw [hB true (dT hA),show fmaR E P m i j l=_ from (if_neg (fun h=>h.1 hA)).trans (if_pos hA')]
   conv=>whnf
   rw [hI true (dT hA')]
   conv=>whnf
   split<;>rfl
  ·rw [hB false (dF hA)]
   conv=>whnf
   by_cases hC:4≤kd E P i∨4≤kd E P j∨4≤kd E P l
   ·rw [hI true (dT hC),show fmaR E P m i j l=_ from (if_neg (fun h=>h1 h.2.1)).trans (if_pos hC)]
    conv=>whnf
    split<;>rfl
   ·rw [hI false (dF hC),show fmaR E P m i j l=_ from (if_neg (fun h=>h1 h.2.1)).trans (if_neg hC),eK,eQ]
    conv=>whnf
    refine ⟨_,cAddM (K:=5000) hF hm (((sm_word2 hF).mul (sm_word2 hF)).mono (show 2500+2500≤5000 by decide)) (sm_word hF) (by decide),?_⟩
    conv=>whnf
    rfl
theorem cFmaBad {E P M:Int} {i j l:Nat} (h:¬ ((0≤M∧M≤4)∧Fmt E P)):Cal Tryz.prog OQ 69 [fA E P,iA M,wA i,wA j,wA l] (.t [wA 0,iA 0,iA 2]):=by
 refine fn_call TK MX Tryz.func69 rfl (by kernel_rfl) (by kernel_rfl) (by kernel_rfl) rfl rfl ?_
 conv=>whnf
 refine ⟨_,cWithBad (a:=.c (.sl 2 [wdC i,wdC j,wdC l])) rfl h,?_⟩
 conv=>whnf
 rfl
theorem cFmaForm {i j l:Nat} (hF:Fmt E P) (hm:m≤4) (h1:W128 i) (h2:W128 j) (h3:W128 l) (hn:¬ (i<2^(E+P)∧j<2^(E+P)∧l<2^(E+P))):Cal Tryz.prog OQ 69 [fA E P,iA (m:Nat),wA i,wA j,wA l] (.t [wA 0,iA 0,iA 6]):=by
 refine fn_call TK MX Tryz.func69 rfl (by kernel_rfl) (by kernel_rfl) (by kernel_rfl) rfl rfl ?_
 conv=>whnf
 refine ⟨_,cWith3 hF hm h1 h2 h3,?_⟩;rw [if_neg hn]
 conv=>whnf
 rfl
end
end Go.Proofs.YtgabigepocfllaaGreatDoor
