/- exact: Parse, by reckoning. -/
import Derived.Test.YtgabigepocfllaaGreatDoorG37
import Derived.Test.YtgabigepocfllaaGreatDoorG44
namespace Go.Proofs.YtgabigepocfllaaGreatDoor
open Go.RowKit Vn
set_option maxRecDepth 100000
set_option maxHeartbeats 8000000
abbrev sA (S:ByteArray):AV:=.c (.v (.string S))
theorem cParse {l:List UInt8} (hl:l.length≤9223372036854775807):Cal Tryz.prog OQ 72 [sA (ba l)] (.t [nA (parseV l).1,iA (parseV l).2]) :=
 cal_of (by kernel_rfl) rfl fun S w vs hi hv=>by
  match vs,hv with
  | [x],hv =>
   have e:=sc_of hv.1;subst e
   exact (Parse_c l w hi.1 hl).mono fun _ _ ⟨v,h1,h2,h3⟩=>⟨_,h1,h3,fun S'=>⟨[_,_],rfl,numA_of h2,⟨rfl,rfl⟩,trivial⟩⟩
theorem parse_sm (l:List UInt8):SmQ 8000 (parseV l).1:=by
 unfold parseV
 split
 ·exact SmQ.zero _ (by decide)
 ·rename_i hb
  split
  ·exact SmQ.zero _ (by decide)
  ·rename_i hz
   have hb:parseBad (pNeg l) (pCut l).2.2 (pCut l).1 (pCut l).2.1=false:=by simpa using hb
   unfold parseBad at hb;simp only [Bool.or_eq_false_iff,Bool.not_eq_false'] at hb;obtain ⟨⟨hA,_⟩,hB⟩:=hb;have s1:=decV_small hA (by omega);have key:∀ Q,0<Q→Sm 8000 Q→SmQ 8000 (mkq (pNeg l) (decV (pCut l).1) Q):=fun Q h0 hQ=>by
    refine ⟨?_,?_⟩
    ·rw [mkq_natAbs _ _ _ (by omega)];exact s1.of_le (Nat.div_le_self _ _)
    ·rw [mkq_den _ _ _ (by omega)];exact hQ.of_le (Nat.div_le_self _ _)
   split
   ·exact key 1 (by decide) sm8000
   ·rename_i hbr
    have hbr:(pCut l).2.2=true:=by simpa using hbr
    rw [hbr] at hB;simp only [Bool.true_and,Bool.or_eq_false_iff,Bool.not_eq_false',beq_eq_false_iff_ne] at hB;have h1:=decV_big hB.1.1 hB.1.2 hB.2
    split
    ·exact key _ (by omega) (decV_small hB.1.1 (by omega))
    ·exact SmQ.zero _ (by decide)
abbrev resA (r:Nat×Nat):AV:=.t [wA r.1,iA (r.2:Nat)]
def sumR (E P m:Nat) (k1:Int) (n1:Bool) (q1:Rat) (k2:Int) (n2:Bool) (q2:Rat):Nat×Nat :=
 if k1=3∧k2=3∧n1≠n2 then (nanw E P,1) else if k1=3 then (infw E P n1,0) else if k2=3 then (infw E P n2,0)
 else if q1+q2≠0 then rq E P m (q1+q2) else if k1=1∧n1=n2 then (sgb E P n1,0) else (sgb E P (decide (m=4)),0)
theorem sgnNe (q:Rat):(q.num.sign != 0)=decide (q≠0):=by
 rw [Bool.eq_iff_iff];simp [Int.sign_eq_zero_iff_zero,Rat.num_eq_zero]
theorem cAddM {E P m K:Nat} {k1 k2:Int} {n1 n2:Bool} {q1 q2:Rat} (hF:Fmt E P) (hm:m≤4) (s1:SmQ K q1) (s2:SmQ K q2) (hK:K≤5000) :
  Cal Tryz.prog OQ 144 [mA E P m (bias E:Nat),oA k1 n1 q1,oA k2 n2 q2] (resA (sumR E P m k1 n1 q1 k2 n2 q2)):=by
 refine fn_call TK MX Tryz.func144 rfl (by kernel_rfl) (by kernel_rfl) (by kernel_rfl) rfl rfl ?_;unfold sumR
 conv=>whnf
 cases h1:k1==3
 ·have h1':¬ k1=3:=by simpa using h1
  rw [if_neg (fun h=>h1' h.1),if_neg h1']
  conv=>whnf
  repeat (rw [h1];conv=>whnf)
  cases h2:k2==3
  ·have h2':¬ k2=3:=by simpa using h2
   rw [if_neg h2']
   conv=>whnf
   refine ⟨_,cAdd s1 s2 (by omega),?_⟩
   conv=>whnf
   refine ⟨_,cSign,?_⟩
   conv=>whnf
   rw [sgnNe]
   by_cases h0:q1+q2≠0
   ·rw [if_pos h0,dT h0]
    conv=>whnf
    refine ⟨_,cRoundQ hF hm (s1.add s2) (by omega),?_⟩
    conv=>whnf
    rfl
   ·rw [if_neg h0,dF h0]
    conv=>whnf
    cases h3:k1==1
    ·have h3':¬ k1=1:=by simpa using h3
     rw [if_neg (fun h=>h3' h.1)]
     conv=>whnf
     have:((m:Int)==4)=decide (m=4):=by rw [Bool.eq_iff_iff];simp;omega
     rw [this];refine ⟨_,cZero hF,?_⟩
     conv=>whnf
     rfl
    ·have h3':k1=1:=by simpa using h3
     conv=>whnf
     cases h4:n1==n2
     ·have h4':¬ n1=n2:=by simpa using h4
      rw [if_neg (fun h=>h4' h.2)]
      conv=>whnf
      have:((m:Int)==4)=decide (m=4):=by rw [Bool.eq_iff_iff];simp;omega
      rw [this];refine ⟨_,cZero hF,?_⟩
      conv=>whnf
      rfl
     ·have h4':n1=n2:=by simpa using h4
      rw [if_pos ⟨h3',h4'⟩]
      conv=>whnf
      refine ⟨_,cZero hF,?_⟩
      conv=>whnf
      rfl
  ·have h2':k2=3:=by simpa using h2
   rw [if_pos h2']
   conv=>whnf
   refine ⟨_,cInf hF,?_⟩
   conv=>whnf
   rfl
 ·have h1':k1=3:=by simpa using h1
  conv=>whnf
  cases h2:k2==3
  ·have h2':¬ k2=3:=by simpa using h2
   rw [if_neg (fun h=>h2' h.2.1),if_pos h1']
   conv=>whnf
   repeat (rw [h1];conv=>whnf)
   refine ⟨_,cInf hF,?_⟩
   conv=>whnf
   rfl
  ·have h2':k2=3:=by simpa using h2
   conv=>whnf
   cases h4:n1==n2
   ·have h4':¬ n1=n2:=by simpa using h4
    rw [if_pos ⟨h1',h2',h4'⟩]
    conv=>whnf
    refine ⟨_,cInvalid hF,?_⟩
    conv=>whnf
    rfl
   ·have h4':n1=n2:=by simpa using h4
    rw [if_neg (fun h=>h.2.2 h4'),if_pos h1']
    conv=>whnf
    repeat (rw [h1];conv=>whnf)
    refine ⟨_,cInf hF,?_⟩
    conv=>whnf
    rfl
abbrev kd (E P n:Nat):Int:=wkind E P n
abbrev vl (E P n:Nat):Rat:=wvalK E P (bias E) n
theorem sm_word {E P n:Nat} (hF:Fmt E P):SmQ 5000 (vl E P n):=by
 by_cases h:wkind E P n≤2
 ·exact wvalK_sm hF h
 ·have hp:=fmt_n hF;have hr:wr P n<2^113:=Nat.lt_of_lt_of_le (Nat.mod_lt _ (Nat.pow_pos (by decide))) (Nat.pow_le_pow_right (by decide) (by omega));unfold vl wvalK;rw [if_neg (by omega)]
  split
  ·exact (SmQ.nat (K:=113) (by decide) (Nat.lt_of_le_of_lt (Nat.mod_le _ _) hr)).mono (by decide)
  ·split
   ·exact (SmQ.nat (K:=113) (by decide) hr).mono (by decide)
   ·exact SmQ.zero _ (by decide)
abbrev res3 (r:Nat×Nat):AV:=.t [wA r.1,iA (r.2:Nat),iA 0]
def opnR (E P i j:Nat) (R:Nat×Nat):Nat×Nat:=if 4≤kd E P i∨4≤kd E P j then (nanw E P,if kd E P i=5∨kd E P j=5 then 1 else 0) else R
abbrev fnA (f:FuncId):AV:=.c (.v (.func (.func f) #[] #[]))
theorem cOperate {f:FuncId} {E P m i j:Nat} {R:Nat×Nat} (hF:Fmt E P) (hm:m≤4) (hi:i<2^(E+P)) (hj:j<2^(E+P))
  (hf:¬ 4≤kd E P i→¬ 4≤kd E P j→Cal Tryz.prog OQ f [mA E P m (bias E:Nat),oA (kd E P i) (wn E P i) (vl E P i),oA (kd E P j) (wn E P j) (vl E P j)] (resA R)) :
  Cal Tryz.prog OQ 143 [fA E P,iA (m:Nat),wA i,wA j,fnA f] (res3 (opnR E P i j R)):=by
 refine fn_call TK MX Tryz.func143 rfl (by kernel_rfl) (by kernel_rfl) (by kernel_rfl) rfl rfl ?_;have hb:=(fmt_n hF).2.2.2.2.2
 conv=>whnf
 refine ⟨_,cWith2 hF hm (w128 hF hi) (w128 hF hj),?_⟩;rw [if_pos ⟨hi,hj⟩]
 conv=>whnf
 refine ⟨_,cLook hF hb (w128 hF hi),?_⟩
 conv=>whnf
 refine ⟨_,cLook hF hb (w128 hF hj),?_⟩
 conv=>whnf
 refine ⟨_,cSpecial2 hF _ _ _ _ _ _,?_⟩
 conv=>whnf
 by_cases h:4≤kd E P i∨4≤kd E P j
 ·rw [show opnR E P i j R=_ from if_pos h,show (decide (4≤wkind E P i)||decide (4≤wkind E P j))=true by simpa using h]
  conv=>whnf
  split<;>rfl
 ·rw [show opnR E P i j R=_ from if_neg h,show (decide (4≤wkind E P i)||decide (4≤wkind E P j))=false by simpa using h]
  conv=>whnf
  refine ⟨_,hf (fun k=>h (.inl k)) (fun k=>h (.inr k)),?_⟩
  conv=>whnf
  rfl
theorem cOperateBad {f:FuncId} {E P M:Int} {i j:Nat} (h:¬ ((0≤M∧M≤4)∧Fmt E P)):Cal Tryz.prog OQ 143 [fA E P,iA M,wA i,wA j,fnA f] (.t [wA 0,iA 0,iA 2]):=by
 refine fn_call TK MX Tryz.func143 rfl (by kernel_rfl) (by kernel_rfl) (by kernel_rfl) rfl rfl ?_
 conv=>whnf
 refine ⟨_,cWithBad (a:=.c (.sl 2 [wdC i,wdC j])) rfl h,?_⟩
 conv=>whnf
 rfl
theorem cOperateForm {f:FuncId} {E P m i j:Nat} (hF:Fmt E P) (hm:m≤4) (h1:W128 i) (h2:W128 j) (h:¬ (i<2^(E+P)∧j<2^(E+P))):Cal Tryz.prog OQ 143 [fA E P,iA (m:Nat),wA i,wA j,fnA f] (.t [wA 0,iA 0,iA 6]):=by
 refine fn_call TK MX Tryz.func143 rfl (by kernel_rfl) (by kernel_rfl) (by kernel_rfl) rfl rfl ?_
 conv=>whnf
 refine ⟨_,cWith2 hF hm h1 h2,?_⟩;rw [if_neg h]
 conv=>whnf
 rfl
end Go.Proofs.YtgabigepocfllaaGreatDoor
