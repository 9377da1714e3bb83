/- The reference: the operations, by reckoning. -/
import Derived.Test.YtgabigepocfllaaGreatDoorQ57
import Derived.Test.YtgabigepocfllaaGreatDoorQ51
import Derived.Test.YtgabigepocfllaaGreatDoorQ58
namespace Go.Proofs.YtgabigepocfllaaGreatDoor
open Go.RowKit Vn
set_option maxRecDepth 100000
set_option maxHeartbeats 8000000
section
variable {E P m n i j l:Nat} {q:Rat} {K:Nat}
theorem cRWords3 (hF:Fmt E P) (hm:m≤4) (h1:W128 i) (h2:W128 j) (h3:W128 l):Cal Tryz.prog OQ 108 [fA E P,iA (m:Nat),.c (.sl 2 [wdC i,wdC j,wdC l])] (iA (if i<2^(E+P)∧j<2^(E+P)∧l<2^(E+P) then 0 else 6)):=by
 refine fn_call TK MX Tryz.func108 rfl (by kernel_rfl) (by kernel_rfl) (by kernel_rfl) rfl rfl ?_
 conv=>whnf
 refine ⟨_,cRAsked,?_⟩;rw [ask_good ⟨⟨by omega,by omega⟩,hF⟩]
 conv=>whnf
 refine ⟨4,?_⟩
 conv=>whnf
 refine ⟨_,cRIs hF h1,?_⟩
 conv=>whnf
 by_cases h:i<2^(E+P)
 ·rw [dT h]
  conv=>whnf
  refine ⟨_,cRIs hF h2,?_⟩
  conv=>whnf
  by_cases h':j<2^(E+P)
  ·rw [dT h']
   conv=>whnf
   refine ⟨_,cRIs hF h3,?_⟩
   conv=>whnf
   by_cases h'':l<2^(E+P)
   ·rw [dT h'',if_pos ⟨h,h',h''⟩]
    conv=>whnf
    rfl
   ·rw [dF h'',if_neg (fun c=>h'' c.2.2)]
    conv=>whnf
    rfl
  ·rw [dF h',if_neg (fun c=>h' c.2.1)]
   conv=>whnf
   rfl
 ·rw [dF h,if_neg (fun c=>h c.1)]
  conv=>whnf
  rfl
def nanB (k:Int):Bool:=if k=4 then true else k==5
theorem nanB_eq {k:Int} (h:k=1∨k=2∨k=3∨k=4∨k=5):nanB k=decide (4≤k):=by
 rcases h with rfl | rfl | rfl | rfl | rfl<;>rfl
theorem cRNans3 {k1 k2 k3:Int} {n1 n2 n3:Bool} {q1 q2 q3:Rat} (hF:Fmt E P) (hk1:k1=1∨k1=2∨k1=3∨k1=4∨k1=5) (hk2:k2=1∨k2=2∨k2=3∨k2=4∨k2=5) (hk3:k3=1∨k3=2∨k3=3∨k3=4∨k3=5) :
  Cal Tryz.prog OQ 115 [fA E P,.c (.sl 5 [rOC k1 n1 q1,rOC k2 n2 q2,rOC k3 n3 q3])] (.t [wA (nanw E P),iA (if k1=5∨k2=5∨k3=5 then 1 else 0),bA (decide (4≤k1)||(decide (4≤k2)||decide (4≤k3)))]):=by
 refine fn_call TK MX Tryz.func115 rfl (by kernel_rfl) (by kernel_rfl) (by kernel_rfl) rfl rfl ?_;rw [←nanB_eq hk1,←nanB_eq hk2,←nanB_eq hk3];have e1:Cal Tryz.prog OQ 157 [rOA k1 n1 q1] (bA (nanB k1)):=cRNan;have e2:Cal Tryz.prog OQ 157 [rOA k2 n2 q2] (bA (nanB k2)):=cRNan;have e3:Cal Tryz.prog OQ 157 [rOA k3 n3 q3] (bA (nanB k3)):=cRNan;generalize nanB k1=b1 at *
 generalize nanB k2=b2 at *
 generalize nanB k3=b3 at *
 conv=>whnf
 refine ⟨4,?_⟩
 conv=>whnf
 refine ⟨_,e1,?_⟩
 conv=>whnf
 cases h1:k1==5<;>(conv=>whnf)<;>cases b1<;>(conv=>whnf)<;>(try (refine ⟨_,e2,?_⟩;(conv=>whnf)))<;>cases h2:k2==5<;>(conv=>whnf)<;>cases b2<;>(conv=>whnf)<;>(try (refine ⟨_,e3,?_⟩;(conv=>whnf)))<;>cases h3:k3==5<;>(conv=>whnf) <;>
  refine ⟨_,cRNaN hF,?_⟩<;>(conv=>whnf)<;>simp_all [joinR,wdC]
theorem cRAdded {k1 k2:Int} {n1 n2:Bool} {q1 q2:Rat} (hF:Fmt E P) (hm:m≤4) (s1:SmQ K q1) (s2:SmQ K q2) (hK:K≤5000) (hk2:k2=1∨k2=2∨k2=3) (h1z:k1=1→q1=0) (h2z:k2=2→q2≠0) :
  Cal Tryz.prog OQ 145 [fA E P,iA (m:Nat),rOA k1 n1 q1,rOA k2 n2 q2] (resA (sumR E P m k1 n1 q1 k2 n2 q2)):=by
 refine fn_call TK MX Tryz.func145 rfl (by kernel_rfl) (by kernel_rfl) (by kernel_rfl) rfl rfl ?_;obtain ⟨R,hR⟩:∃ R,R=sumR E P m k1 n1 q1 k2 n2 q2:=⟨_,rfl⟩;rw [←hR];unfold sumR at hR
 conv=>whnf
 cases h1:k1==3
 ·have h1':¬ k1=3:=by simpa using h1
  rw [if_neg (fun h=>h1' h.1),if_neg h1'] at hR
  conv=>whnf
  repeat (rw [h1];conv=>whnf)
  cases h2:k2==3
  ·have h2':¬ k2=3:=by simpa using h2
   rw [if_neg h2'] at hR
   conv=>whnf
   refine ⟨_,cRAdd s1 s2 (by omega),?_⟩
   conv=>whnf
   refine ⟨_,cRSign,?_⟩
   conv=>whnf
   rw [sgnNe]
   by_cases h0:q1+q2≠0
   ·rw [if_pos h0] at hR;rw [dT h0]
    conv=>whnf
    refine ⟨_,cRRounded hF hm (s1.add s2) (by omega),?_⟩
    conv=>whnf
    rw [hR]
    rfl
   ·rw [if_neg h0] at hR;rw [dF h0]
    conv=>whnf
    cases h3:k1==1
    ·have h3':¬ k1=1:=by simpa using h3
     rw [if_neg (fun h=>h3' h.1)] at hR
     conv=>whnf
     have:((m:Int)==4)=decide (m=4):=by rw [Bool.eq_iff_iff];simp;omega
     rw [this];refine ⟨_,cRZero hF,?_⟩
     conv=>whnf
     rw [hR]
     rfl
    ·have h3':k1=1:=by simpa using h3
     have h5:k2=1:=by
      have:=h1z h3'
      rcases hk2 with h | h | h
      ·exact h
      ·exact absurd (by rw [this,Rat.zero_add] at h0;exact Decidable.not_not.1 h0) (h2z h)
      ·exact absurd h h2'
     conv=>whnf
     rw [show (k2==1)=true from beq_iff_eq.2 h5]
     conv=>whnf
     cases h4:n1==n2
     ·have h4':¬ n1=n2:=by simpa using h4
      rw [if_neg (fun h=>h4' h.2)] at hR
      conv=>whnf
      have:((m:Int)==4)=decide (m=4):=by rw [Bool.eq_iff_iff];simp;omega
      rw [this];refine ⟨_,cRZero hF,?_⟩
      conv=>whnf
      rw [hR]
      rfl
     ·have h4':n1=n2:=by simpa using h4
      rw [if_pos ⟨h3',h4'⟩] at hR
      conv=>whnf
      refine ⟨_,cRZero hF,?_⟩
      conv=>whnf
      rw [hR]
      rfl
  ·have h2':k2=3:=by simpa using h2
   rw [if_pos h2'] at hR
   conv=>whnf
   refine ⟨_,cRInf hF,?_⟩
   conv=>whnf
   rw [hR]
   rfl
 ·have h1':k1=3:=by simpa using h1
  conv=>whnf
  cases h2:k2==3
  ·have h2':¬ k2=3:=by simpa using h2
   rw [if_neg (fun h=>h2' h.2.1),if_pos h1'] at hR
   conv=>whnf
   repeat (rw [h1];conv=>whnf)
   refine ⟨_,cRInf hF,?_⟩
   conv=>whnf
   rw [hR]
   rfl
  ·have h2':k2=3:=by simpa using h2
   conv=>whnf
   cases h4:n1==n2
   ·have h4':¬ n1=n2:=by simpa using h4
    rw [if_pos ⟨h1',h2',h4'⟩] at hR
    conv=>whnf
    refine ⟨_,cRNaN hF,?_⟩
    conv=>whnf
    rw [hR]
    rfl
   ·have h4':n1=n2:=by simpa using h4
    rw [if_neg (fun h=>h.2.2 h4'),if_pos h1'] at hR
    conv=>whnf
    repeat (rw [h1];conv=>whnf)
    refine ⟨_,cRInf hF,?_⟩
    conv=>whnf
    rw [hR]
    rfl
def mulK (k1 k2:Int):Int:=if k1=3∨k2=3 then 3 else if k1=1∨k2=1 then 1 else 2
def mulV (k1 k2:Int) (q1 q2:Rat):Rat:=if k1=3∨k2=3 then 0 else q1*q2
def mulB (k1 k2:Int):Bool := !(decide (k1=3∧k2=1)||decide (k1=1∧k2=3))
theorem signN (h:q≠0):(q.num.sign==0)=false:=by rw [signZ];exact dF h
theorem mul_zero2 {q1 q2:Rat} (h:q1=0∨q2=0):q1*q2=0:=by
 rcases h with rfl | rfl
 ·exact Rat.zero_mul _
 ·exact Rat.mul_zero _
theorem mul_ne0 {q1 q2:Rat} (h1:q1≠0) (h2:q2≠0):q1*q2≠0:=fun h=>(Rat.mul_eq_zero.1 h).elim h1 h2
theorem cRMultiplied {k1 k2:Int} {n1 n2:Bool} {q1 q2:Rat} (s1:SmQ K q1) (s2:SmQ K q2) (hK:K≤12000) (hk1:k1=1∨k1=2∨k1=3) (hk2:k2=1∨k2=2∨k2=3) (z1:k1=1→q1=0) (z2:k2=1→q2=0) (f1:k1=2→q1≠0) (f2:k2=2→q2≠0) :
  Cal Tryz.prog OQ 149 [rOA k1 n1 q1,rOA k2 n2 q2] (.t [rOA (mulK k1 k2) (n1 != n2) (mulV k1 k2 q1 q2),bA (mulB k1 k2)]):=by
 have hT:=cRTimes s1 s2 (by omega);have e0:(k1=1∨k2=1)→q1*q2=0:=fun h=>mul_zero2 (h.elim (fun h=>.inl (z1 h)) (fun h=>.inr (z2 h)));have e1:k1=2→k2=2→(((q1*q2).num.sign)==0)=false:=fun h k=>signN (mul_ne0 (f1 h) (f2 k));have eV:¬ (k1=3∨k2=3)→mulV k1 k2 q1 q2=q1*q2:=fun h=>if_neg h;have eV3:(k1=3∨k2=3)→mulV k1 k2 q1 q2=0:=fun h=>if_pos h;generalize mulV k1 k2 q1 q2=v at *
 generalize q1*q2=t at *
 refine fn_callB [(1,[(1,2),(3,3),(6,2),(8,3),(12,6)]),(4,[(0,6),(2,2),(6,3),(9,4)])] TK MX Tryz.func149 rfl (by kernel_rfl) (by kernel_rfl) (by kernel_rfl) rfl rfl ?_
 rcases hk1 with rfl | rfl | rfl<;>rcases hk2 with rfl | rfl | rfl<;>(conv=>whnf)<;>refine ⟨_,hT,?_⟩<;>(conv=>whnf)<;>first
  | (obtain rfl:=eV3 (by decide);rfl)
  | (obtain rfl:=eV (by decide);obtain rfl:=e0 (by decide);refine ⟨_,cRSign,?_⟩;(conv=>whnf);rfl)
  | (obtain rfl:=eV (by decide);refine ⟨_,cRSign,?_⟩;(conv=>whnf);rw [e1 rfl rfl];(conv=>whnf);rfl)
/-! ### the operations of words of a format -/
theorem kz1 (h:kd E P n=1):vl E P n=0:=vl_oneK h
theorem kz3 (h:kd E P n=3):vl E P n=0:=by
 have h:wkind E P n=3:=h;unfold vl wvalK;rw [h];simp
theorem kd3 (h:¬ 4≤kd E P n):kd E P n=1∨kd E P n=2∨kd E P n=3:=by have:=kd_cases E P n;omega
theorem or_dec {a b:Prop} [Decidable a] [Decidable b]:(decide a||decide b)=decide (a∨b):=by rw [Bool.eq_iff_iff];simp
theorem cRAddF (hF:Fmt E P) (hm:m≤4) (hi:i<2^(E+P)) (hj:j<2^(E+P)):Cal Tryz.prog OQ 58 [fA E P,iA (m:Nat),wA i,wA j] (res3 (opnR E P i j (sumR E P m (kd E P i) (wn E P i) (vl E P i) (kd E P j) (wn E P j) (vl E P j)))):=by
 refine fn_callB [(4,[(0,4),(1,6),(3,4),(4,7),(8,12),(9,13)])] TK MX Tryz.func58 rfl (by kernel_rfl) (by kernel_rfl) (by kernel_rfl) rfl rfl ?_;have hw:=cRWords2 hF hm (w128 hF hi) (w128 hF hj);rw [if_pos ⟨hi,hj⟩] at hw
 conv=>whnf
 refine ⟨_,hw,?_⟩
 conv=>whnf
 refine ⟨_,cRLook hF hi,?_⟩
 conv=>whnf
 refine ⟨_,cRLook hF hj,?_⟩
 conv=>whnf
 refine ⟨_,cRNans2 hF (kd_cases E P i) (kd_cases E P j),?_⟩
 conv=>whnf
 rw [or_dec]
 by_cases h:4≤kd E P i∨4≤kd E P j
 ·rw [show opnR E P i j _=_ from if_pos h,dT (show 4≤wkind E P i∨4≤wkind E P j from h)]
  conv=>whnf
  split<;>rfl
 ·rw [show opnR E P i j _=_ from if_neg h,dF (show ¬ (4≤wkind E P i∨4≤wkind E P j) from h)]
  conv=>whnf
  refine ⟨_,cRAdded (K:=5000) hF hm (sm_word hF) (sm_word hF) (by decide) (kd3 (fun k=>h (.inr k))) kz1 vlNe,?_⟩
  conv=>whnf
  rfl
end
section
variable {E P m n i j l:Nat} {q:Rat} {K:Nat}
theorem cRSubF (hF:Fmt E P) (hm:m≤4) (hi:i<2^(E+P)) (hj:j<2^(E+P)):Cal Tryz.prog OQ 60 [fA E P,iA (m:Nat),wA i,wA j] (res3 (opnR E P i j (sumR E P m (kd E P i) (wn E P i) (vl E P i) (kd E P j) (!wn E P j) (-vl E P j)))):=by
 have hp:=fmt_n hF;have hf:=flip_p (E:=E) (P:=P) (by omega) hj;have hk:=flip_kd (E:=E) (P:=P) (by omega) (by omega) hj;have hw:=cRWords2 hF hm (w128 hF hi) (w128 hF hj);rw [if_pos ⟨hi,hj⟩] at hw;have hA:=cRAddF hF hm hi hf.1;have e:opnR E P i (flipW E P j) (sumR E P m (kd E P i) (wn E P i) (vl E P i) (kd E P (flipW E P j)) (wn E P (flipW E P j)) (vl E P (flipW E P j)))=opnR E P i j (sumR E P m (kd E P i) (wn E P i) (vl E P i) (kd E P j) (!wn E P j) (-vl E P j)):=by
  unfold opnR;rw [hk]
  split
  ·rfl
  ·rename_i h
   rw [hf.2.2,flip_vl (by omega) (by omega) hj (by omega)]
 rw [e] at hA;refine fn_callB [(4,[(0,4),(2,6),(3,4),(4,7),(10,8)])] TK MX Tryz.func60 rfl (by kernel_rfl) (by kernel_rfl) (by kernel_rfl) rfl rfl ?_
 conv=>whnf
 refine ⟨_,hw,?_⟩
 conv=>whnf
 refine ⟨_,cFlip hF hj,?_⟩
 conv=>whnf
 refine ⟨_,hA,?_⟩
 conv=>whnf
 rfl
theorem mulR_33 {k1 k2:Int} {n1 n2:Bool} {q1 q2:Rat} (hk1:k1=1∨k1=2∨k1=3) (hk2:k2=1∨k2=2∨k2=3):mulR E P m k1 n1 q1 k2 n2 q2=if mulB k1 k2=false then (nanw E P,1) else if mulK k1 k2=3 then (infw E P (n1 != n2),0) else if mulK k1 k2=1 then (sgb E P (n1 != n2),0) else rq E P m (q1*q2):=by
 rcases hk1 with rfl | rfl | rfl<;>rcases hk2 with rfl | rfl | rfl<;>rfl
theorem mulK_three {k1 k2:Int} (hk1:k1=1∨k1=2∨k1=3) (hk2:k2=1∨k2=2∨k2=3):(mulK k1 k2=3∨mulK k1 k2=1∨mulK k1 k2=2)∧(mulK k1 k2≠3→¬ (k1=3∨k2=3)):=by
 rcases hk1 with rfl | rfl | rfl<;>rcases hk2 with rfl | rfl | rfl<;>decide
theorem cRMulF (hF:Fmt E P) (hm:m≤4) (hi:i<2^(E+P)) (hj:j<2^(E+P)):Cal Tryz.prog OQ 62 [fA E P,iA (m:Nat),wA i,wA j] (res3 (opnR E P i j (mulR E P m (kd E P i) (wn E P i) (vl E P i) (kd E P j) (wn E P j) (vl E P j)))):=by
 refine fn_callB [(4,[(0,4),(1,6),(3,4),(4,7),(8,12),(9,13)])] TK MX Tryz.func62 rfl (by kernel_rfl) (by kernel_rfl) (by kernel_rfl) rfl rfl ?_;have hw:=cRWords2 hF hm (w128 hF hi) (w128 hF hj);rw [if_pos ⟨hi,hj⟩] at hw
 conv=>whnf
 refine ⟨_,hw,?_⟩
 conv=>whnf
 refine ⟨_,cRLook hF hi,?_⟩
 conv=>whnf
 refine ⟨_,cRLook hF hj,?_⟩
 conv=>whnf
 refine ⟨_,cRNans2 hF (kd_cases E P i) (kd_cases E P j),?_⟩
 conv=>whnf
 rw [or_dec]
 by_cases h:4≤kd E P i∨4≤kd E P j
 ·rw [show opnR E P i j _=_ from if_pos h,dT (show 4≤wkind E P i∨4≤wkind E P j from h)]
  conv=>whnf
  split<;>rfl
 ·have hk1:=kd3 (E:=E) (P:=P) (n:=i) (fun k=>h (.inl k));have hk2:=kd3 (E:=E) (P:=P) (n:=j) (fun k=>h (.inr k));rw [show opnR E P i j _=_ from if_neg h,dF (show ¬ (4≤wkind E P i∨4≤wkind E P j) from h),mulR_33 hk1 hk2]
  conv=>whnf
  refine ⟨_,cRMultiplied (sm_word hF) (sm_word hF) (by decide) hk1 hk2 kz1 kz1 vlNe vlNe,?_⟩;have h3:=mulK_three hk1 hk2;have s2:SmQ 10000 (vl E P i*vl E P j):=((sm_word hF).mul (sm_word hF)).mono (by decide);have eV:mulK (kd E P i) (kd E P j)≠3→mulV (kd E P i) (kd E P j) (vl E P i) (vl E P j)=vl E P i*vl E P j:=fun h=>if_neg (h3.2 h);generalize mulV (kd E P i) (kd E P j) (vl E P i) (vl E P j)=v at *
  generalize mulB (kd E P i) (kd E P j)=b at *
  generalize mulK (kd E P i) (kd E P j)=k at *
  cases b
  ·conv=>whnf
   refine ⟨_,cRNaN hF,?_⟩
   conv=>whnf
   rfl
  ·rcases h3.1 with rfl | rfl | rfl
   ·conv=>whnf
    refine ⟨_,cRInf hF,?_⟩
    conv=>whnf
    rfl
   ·conv=>whnf
    refine ⟨_,cRZero hF,?_⟩
    conv=>whnf
    rfl
   ·rw [eV (by decide)]
    conv=>whnf
    refine ⟨_,cRRounded hF hm s2 (by decide),?_⟩
    conv=>whnf
    rfl
theorem cRDivF (hF:Fmt E P) (hm:m≤4) (hi:i<2^(E+P)) (hj:j<2^(E+P)):Cal Tryz.prog OQ 64 [fA E P,iA (m:Nat),wA i,wA j] (res3 (opnR E P i j (quoR E P m (kd E P i) (wn E P i) (vl E P i) (kd E P j) (wn E P j) (vl E P j)))):=by
 refine fn_callB [(4,[(0,4),(1,6),(3,4),(4,7),(8,12),(9,13)]),(17,[(0,4),(3,12),(5,13),(11,14)])] TK MX Tryz.func64 rfl (by kernel_rfl) (by kernel_rfl) (by kernel_rfl) rfl rfl ?_;have hw:=cRWords2 hF hm (w128 hF hi) (w128 hF hj);rw [if_pos ⟨hi,hj⟩] at hw
 conv=>whnf
 refine ⟨_,hw,?_⟩
 conv=>whnf
 refine ⟨_,cRLook hF hi,?_⟩
 conv=>whnf
 refine ⟨_,cRLook hF hj,?_⟩
 conv=>whnf
 refine ⟨_,cRNans2 hF (kd_cases E P i) (kd_cases E P j),?_⟩
 conv=>whnf
 rw [or_dec]
 by_cases h:4≤kd E P i∨4≤kd E P j
 ·rw [show opnR E P i j _=_ from if_pos h,dT (show 4≤wkind E P i∨4≤wkind E P j from h)]
  conv=>whnf
  split<;>rfl
 ·have hk1:=kd3 (E:=E) (P:=P) (n:=i) (fun k=>h (.inl k));have hk2:=kd3 (E:=E) (P:=P) (n:=j) (fun k=>h (.inr k));rw [show opnR E P i j _=_ from if_neg h,dF (show ¬ (4≤wkind E P i∨4≤wkind E P j) from h)];have hv:kd E P j=2→vl E P j≠0:=vlNe;have s1:=sm_word2 (n:=i) hF;have s2:=sm_word2 (n:=j) hF;rw [show wvalK E P (bias E) i=vl E P i from rfl,show wvalK E P (bias E) j=vl E P j from rfl];clear h hw;unfold kd at hk1 hk2 hv ⊢;generalize vl E P i=v1 at *
  generalize vl E P j=v2 at *
  generalize wn E P i=g1 at *
  generalize wn E P j=g2 at *
  generalize wkind E P i=k1 at *
  generalize wkind E P j=k2 at *
  rcases hk1 with rfl | rfl | rfl<;>rcases hk2 with rfl | rfl | rfl<;>(conv=>whnf) <;>
   first
   | (refine ⟨_,cRNaN hF,?_⟩;(conv=>whnf);rfl)
   | (refine ⟨_,cRInf hF,?_⟩;(conv=>whnf);rfl)
   | (refine ⟨_,cRZero hF,?_⟩;(conv=>whnf);rfl)
   | (refine ⟨_,cROver s1 s2 (by decide) (hv rfl),?_⟩;(conv=>whnf);refine ⟨_,cRRounded hF hm (s1.div s2 (hv rfl)) (by decide),?_⟩;(conv=>whnf);rfl)
/-! ### Sqrt -/
theorem cRSqrtF (hF:Fmt E P) (hm:m≤4) (hn:n<2^(E+P)):Cal Tryz.prog OQ 68 [fA E P,iA (m:Nat),wA n] (res3 (sqrR E P m n)):=by
 refine fn_call TK MX Tryz.func68 rfl (by kernel_rfl) (by kernel_rfl) (by kernel_rfl) rfl rfl ?_;have hw:=cRWords1 hF hm (w128 hF hn);rw [if_pos hn] at hw;have hq:kd E P n=2→wn E P n=false→0≤vl E P n:=vl_nonneg hF;have sm:=sm_word (n:=n) hF;have hk:=kd_cases E P n;unfold sqrR
 conv=>whnf
 refine ⟨_,hw,?_⟩
 conv=>whnf
 refine ⟨_,cRLook hF hn,?_⟩;rw [show wvalK E P (bias E) n=vl E P n from rfl];clear hw;unfold kd at hk hq ⊢;generalize vl E P n=v at *
 generalize wn E P n=ng at *
 generalize wkind E P n=k at *
 rcases hk with rfl | rfl | rfl | rfl | rfl<;>cases ng<;>(conv=>whnf)<;>refine ⟨_,cRNans1 hF (by decide),?_⟩<;>(conv=>whnf)<;>first
  | rfl
  | (refine ⟨_,cRNaN hF,?_⟩;(conv=>whnf);rfl)
  | (refine ⟨_,cRRooted hF hm sm (hq rfl rfl) (by decide),?_⟩;(conv=>whnf);rfl)
end
theorem half_evenI (z:Int):(((z:Int):Rat)/2).den=1↔z%2=0:=by
 constructor
 ·intro h
  have h1:=den_one h;generalize (((z:Int):Rat)/2).floor=k at h1;have h2:((z:Int):Rat)=((2*k:Int):Rat):=by rw [Rat.intCast_mul];have:((2:Int):Rat)=2:=rfl;grind
  rw [Rat.intCast_inj] at h2
  omega
 ·intro h
  obtain ⟨k,rfl⟩:∃ k,z=2*k:=⟨z/2,by omega⟩
  have:((2*k:Int):Rat)/2=((k:Int):Rat):=by rw [Rat.intCast_mul];have:((2:Int):Rat)=2:=rfl;grind
  rw [this];rfl
theorem near_rem (q:Rat):choQ 0 ((q.floor:Int):Rat) (-(((-q).floor:Int):Rat)) ((1:Int):Rat) (cmpQ q (midQ ((q.floor:Int):Rat) (-(((-q).floor:Int):Rat))))=((remN q:Int):Rat):=by
 have i1:((1:Int):Rat)=1:=rfl;have p1:(2:Rat)^(1:Int)=2:=Rat.zpow_one _
 by_cases hd:q=((q.floor:Int):Rat)
 ·have e2:(-q).floor = -q.floor:=by
   have : -q=((-q.floor:Int):Rat):=by rw [Rat.intCast_neg,←hd]
   rw [this,Rat.floor_intCast]
  rw [e2,Rat.intCast_neg,Rat.neg_neg,choQ_same];unfold remN;have e3:(q-((q.floor:Int):Rat))*(2:Rat)^(1:Int)=0:=by
   have:q-((q.floor:Int):Rat)=0:=by grind
   rw [this,Rat.zero_mul]
  have e4:cmpQ 0 1 = -1:=by decide +kernel
  rw [e3,e4,if_neg (by rw [up0,if_neg (by decide),decide_eq_false (by decide)];decide)]
 ·have h1:=Rat.floor_le q;have h2:=Rat.lt_floor_add_one q;rw [Rat.intCast_add,i1] at h2;have h3:((q.floor:Int):Rat)<q:=by
   rcases Rat.le_iff_lt_or_eq.1 h1 with h | h
   ·exact h
   ·exact absurd h.symm hd
  have e2:(-q).floor = -(q.floor+1):=floor_one (by rw [Rat.intCast_neg,Rat.intCast_add,i1];grind) (by rw [Rat.intCast_neg,Rat.intCast_add,i1];grind);have hz : -((-(q.floor+1):Int):Rat)=((q.floor:Int):Rat)+1:=by rw [Rat.intCast_neg,Rat.intCast_add,i1];grind
  rw [e2,hz];have hc:cmpQ q (midQ ((q.floor:Int):Rat) (((q.floor:Int):Rat)+1))=cmpQ ((q-((q.floor:Int):Rat))*(2:Rat)^(1:Int)) 1:=by
   unfold midQ;rw [half_p2,p1];refine cmpQ_le_iff ?_ ?_
   ·constructor<;>intro h<;>grind
   ·constructor<;>intro h<;>grind
  rw [hc,i1];have ho:(decide (q.floor≠0)&&decide (q.floor.natAbs%2=1))=decide (q.floor%2=1):=by
   rw [Bool.eq_iff_iff];simp;omega
  have hev:(((q.floor:Int):Rat)/(1+1)).den=1↔q.floor%2=0:=by
   have:(1:Rat)+1=2:=by decide +kernel
   rw [this];exact half_evenI _
  unfold remN;rw [ho,cho0,up0];have e1:((q.floor+1:Int):Rat)=((q.floor:Int):Rat)+1:=by rw [Rat.intCast_add,i1]
  generalize cmpQ ((q-((q.floor:Int):Rat))*(2:Rat)^(1:Int)) 1=c
  rcases Int.lt_trichotomy c 0 with h | h | h
  ·rw [if_pos h,if_neg (show ¬ c=0 by omega),decide_eq_false (show ¬ 0≤c by omega),if_neg (show ¬ false=true by decide)]
  ·subst h;rw [if_neg (show ¬ (0:Int)<0 by decide),if_neg (show ¬ (0:Int)<0 by decide),if_pos (show (0:Int)=0 from rfl)]
   by_cases h':q.floor%2=0
   ·rw [if_pos (hev.2 h'),decide_eq_false (show ¬ q.floor%2=1 by omega),if_neg (show ¬ false=true by decide)]
   ·rw [if_neg (fun k=>h' (hev.1 k)),decide_eq_true (show q.floor%2=1 by omega),if_pos rfl,e1]
  ·rw [if_neg (show ¬ c<0 by omega),if_pos h,if_neg (show ¬ c=0 by omega),decide_eq_true (show 0≤c by omega),if_pos rfl,e1]
section
variable {E P m n i j l:Nat} {q:Rat} {K:Nat}
theorem cRNearest (sx:SmQ K q) (hK:K≤20000):Cal Tryz.prog OQ 154 [rA q] (rA ((remN q:Int):Rat)):=by
 have s1:SmQ 30000 ((q.floor:Int):Rat):=sx.floor.mono (by omega);have s2:SmQ 30000 (-(((-q).floor:Int):Rat)):=sx.neg.floor.neg.mono (by omega);have s3:SmQ 30000 ((1:Int):Rat):=(SmQ.int (K:=2) (n:=1) (by decide) (by decide)).mono (by decide);have sm:SmQ 70000 (midQ ((q.floor:Int):Rat) (-(((-q).floor:Int):Rat))):=((s1.add s2).mul_p2 (-1) 2 (by decide)).mono (by decide);refine fn_callB [(2,[(0,1),(2,1),(6,4),(7,5)]),(3,[(0,4),(1,5),(2,3),(3,1),(4,4),(5,5),(9,2)])] TK MX Tryz.func154 rfl (by kernel_rfl) (by kernel_rfl) (by kernel_rfl) rfl rfl ?_
 conv=>whnf
 refine ⟨_,cRInt (n:=1) (by decide) (by decide),?_⟩
 conv=>whnf
 refine ⟨_,cRFloor sx (by omega),?_⟩
 conv=>whnf
 refine ⟨_,cRCeil sx (by omega),?_⟩
 conv=>whnf
 refine ⟨_,cRHalf s1 s2 (by decide),?_⟩
 conv=>whnf
 refine ⟨_,cRCmp (K:=70000) (sx.mono (by omega)) sm (by decide),?_⟩
 conv=>whnf
 refine ⟨_,cRChosen (m:=0) s1 s2 s3 (by decide) (by decide +kernel) (by decide),?_⟩;rw [near_rem]
 conv=>whnf
 rfl
theorem cRWordQ (hF:Fmt E P) (h0:q≠0) (hv:IsVal P (bias E) q) (hg:absQ q≤grQ P (bias E)):Cal Tryz.prog OQ 82 [fA E P,bA (decide (q.num<0)),rA (absQ q)] (wA (rq E P 0 q).1)∧(rq E P 0 q).2=0:=by
 have hE:=(fmt_n hF).1;have hP:1≤P:=by have:=(fmt_n hF).2.2.1;omega
 have hl:=lg_is h0;obtain ⟨h1,h2⟩:=round_exact (E:=E) (m:=0) hl hv hg;have e:rq E P 0 q=(wordN E P (decide (q.num<0)) (rdN P (bias E) (lgQ q) q) (rdF (bias E) (lgQ q)),0):=by
  unfold rq rnd;rw [if_neg h0];exact h1
 have hn:=rdN_lt (P:=P) (b:=bias E) hl;have hf:=rdN_ge (b:=bias E) hP hl;have hw:=cRWordV (neg:=decide (q.num<0)) hF (Nat.le_of_lt hn) hf (rd_fits (by omega) hP hn hf (by rw [←h2];exact hg));have e2:wv P (bias E) (rdN P (bias E) (lgQ q) q) (rdF (bias E) (lgQ q))=absQ q:=h2.symm;rw [e2] at hw;rw [e]
 exact ⟨hw,rfl⟩
theorem cRWordZ (hF:Fmt E P) {neg:Bool}:Cal Tryz.prog OQ 82 [fA E P,bA neg,rA 0] (wA (sgb E P neg)):=by
 have h:=cRWordV (neg:=neg) (n:=0) (f:=0) hF (Nat.zero_le _) (.inl rfl) (by simp;exact Nat.pow_pos (by decide));have e:wv P (bias E) 0 0=0:=by
  unfold wv
  have:((0:Nat):Rat)=0:=rfl
  rw [this,Rat.zero_mul]
 rw [e,←sgb_word] at h
 exact h
theorem word_rq (hF:Fmt E P) (hn:n<2^(E+P)) (hk:kd E P n=2):rq E P 0 (vl E P n)=(n,0):=by
 have hE:=(fmt_n hF).1;have hP:1≤P:=by have:=(fmt_n hF).2.2.1;omega
 have h0:vl E P n≠0:=vlNe hk;have hk2:wkind E P n=2:=hk;have e:vl E P n=wval E P (bias E) n:=wvalK_fin (by omega);have hl:=lg_is h0;rw [e] at hl h0 ⊢;have h1:=word_back (m:=0) hE hP hn hk2 hl;have h2:=(round_exact (E:=E) (m:=0) hl (wval_isVal hP) (wval_le hE hP (fin_wf (by omega)))).1;unfold rq rnd;rw [if_neg h0];have h3:roundR E P (bias E) 0 (wval E P (bias E) n) (lgQ (wval E P (bias E) n))=(_,0):=h2
 exact Prod.ext h1 (by rw [h3])
theorem cRRemF (hF:Fmt E P) (hi:i<2^(E+P)) (hj:j<2^(E+P)):Cal Tryz.prog OQ 66 [fA E P,wA i,wA j] (res3 (opnR E P i j (remG E P (kd E P i) (wn E P i) (vl E P i) (kd E P j) (vl E P j)))):=by
 have hE:=(fmt_n hF).1;have hP:1≤P:=by have:=(fmt_n hF).2.2.1;omega
 refine fn_callB [(4,[(0,3),(1,4),(3,3),(4,5),(8,10),(9,11)]),(12,[(1,10),(3,11),(5,10),(7,11),(13,15)]),(14,[(0,3),(2,15),(5,6)])] TK MX Tryz.func66 rfl (by kernel_rfl) (by kernel_rfl) (by kernel_rfl) rfl rfl ?_;have hw:=cRWords2 (m:=0) hF (by decide) (w128 hF hi) (w128 hF hj);rw [if_pos ⟨hi,hj⟩] at hw
 conv=>whnf
 refine ⟨_,hw,?_⟩
 conv=>whnf
 refine ⟨_,cRLook hF hi,?_⟩
 conv=>whnf
 refine ⟨_,cRLook hF hj,?_⟩
 conv=>whnf
 refine ⟨_,cRNans2 hF (kd_cases E P i) (kd_cases E P j),?_⟩
 conv=>whnf
 rw [or_dec]
 by_cases h:4≤kd E P i∨4≤kd E P j
 ·rw [show opnR E P i j _=_ from if_pos h,dT (show 4≤wkind E P i∨4≤wkind E P j from h)]
  conv=>whnf
  split<;>rfl
 ·have hk1:=kd3 (E:=E) (P:=P) (n:=i) (fun k=>h (.inl k));have hk2:=kd3 (E:=E) (P:=P) (n:=j) (fun k=>h (.inr k));rw [show opnR E P i j _=_ from if_neg h,dF (show ¬ (4≤wkind E P i∨4≤wkind E P j) from h)];rw [show wvalK E P (bias E) i=vl E P i from rfl,show wvalK E P (bias E) j=vl E P j from rfl];have s1:=sm_word2 (n:=i) hF;have s2:=sm_word2 (n:=j) hF;have z1:kd E P i=1→vl E P i=0:=kz1;have f2:kd E P j=2→vl E P j≠0:=vlNe;have b1:kd E P i=1→sgb E P (wn E P i)=i:=zero_back hP hi (by omega);have b2:kd E P i=2→rq E P 0 (vl E P i)=(i,0):=word_rq hF hi;have fin:kd E P i=2→kd E P j=2→IsVal P (bias E) (vl E P i-vl E P j*((remN (vl E P i/vl E P j):Int):Rat))∧absQ (vl E P i-vl E P j*((remN (vl E P i/vl E P j):Int):Rat))≤grQ P (bias E):=fun g1 g2=>by
   have g1:wkind E P i=2:=g1;have g2':wkind E P j=2:=g2;have near:=rem_near (vl E P i) (vl E P j) (f2 g2);have va:IsVal P (bias E) (vl E P i):=by unfold vl;rw [wvalK_fin (by omega)];exact wval_isVal hP
   have vb:IsVal P (bias E) (vl E P j):=by unfold vl;rw [wvalK_fin (by omega)];exact wval_isVal hP
   have gb:absQ (vl E P j)≤grQ P (bias E):=by unfold vl;rw [wvalK_fin (by omega)];exact wval_le hE hP (fin_wf (by omega))
   refine ⟨rem_val va vb _ near,?_⟩
   have:=absQ_zero_le (vl E P i-vl E P j*((remN (vl E P i/vl E P j):Int):Rat))
   grind
  unfold kd at hk1 hk2 z1 f2 b1 b2 fin ⊢;clear h hw;generalize vl E P i=v1 at *
  generalize vl E P j=v2 at *
  generalize wn E P i=g1 at *
  generalize wkind E P i=k1 at *
  generalize wkind E P j=k2 at *
  have sr:k2=2→SmQ 30000 (v1-v2*((remN (v1/v2):Int):Rat)):=fun h=>(s1.sub (s2.mul (remN_sm (s1.div s2 (f2 h))))).mono (by decide)
  rcases hk1 with rfl | rfl | rfl<;>rcases hk2 with rfl | rfl | rfl
  ·conv=>whnf
   refine ⟨_,cRNaN hF,?_⟩
   conv=>whnf
   rfl
  ·obtain rfl:=z1 rfl;have e0:(0:Rat)/v2=0:=by rw [Rat.div_def,Rat.zero_mul]
   have e3:(0:Rat)-v2*((remN 0:Int):Rat)=0:=by
    rw [show remN 0=0 by decide +kernel,show ((0:Int):Rat)=0 from rfl,Rat.mul_zero];grind
   have sr:=sr rfl;rw [e0] at sr
   conv=>whnf
   refine ⟨_,cROver s1 s2 (by decide) (f2 rfl),?_⟩;rw [e0]
   conv=>whnf
   refine ⟨_,cRNearest (K:=10) (SmQ.zero _ (by decide)) (by decide),?_⟩
   conv=>whnf
   refine ⟨_,cRTimes (K:=6000) (s2.mono (by decide)) ((remN_sm (K:=10) (SmQ.zero _ (by decide))).mono (by decide)) (by decide),?_⟩
   conv=>whnf
   refine ⟨_,cRSub (K:=12000) (SmQ.zero _ (by decide)) ((s2.mul (remN_sm (K:=10) (SmQ.zero _ (by decide)))).mono (by decide)) (by decide),?_⟩;rw [e3]
   conv=>whnf
   refine ⟨_,cRSign,?_⟩
   conv=>whnf
   refine ⟨_,cRSign,?_⟩
   conv=>whnf
   refine ⟨_,cRAbs,?_⟩;rw [absQ_nonneg Rat.le_refl]
   conv=>whnf
   refine ⟨_,cRWordZ hF,?_⟩
   conv=>whnf
   rfl
  ·have e:remG E P 1 g1 v1 3 v2=(sgb E P g1,0):=rfl;rw [e,b1 rfl]
   conv=>whnf
   rfl
  ·conv=>whnf
   refine ⟨_,cRNaN hF,?_⟩
   conv=>whnf
   rfl
  ·have sr:=sr rfl;have fin:=fin rfl rfl;have sq:=s1.div s2 (f2 rfl);have e:remG E P 2 g1 v1 2 v2=if v1-v2*((remN (v1/v2):Int):Rat)=0 then (sgb E P g1,0) else rq E P 0 (v1-v2*((remN (v1/v2):Int):Rat)):=rfl;rw [e]
   conv=>whnf
   refine ⟨_,cROver s1 s2 (by decide) (f2 rfl),?_⟩
   conv=>whnf
   refine ⟨_,cRNearest sq (by decide),?_⟩
   conv=>whnf
   refine ⟨_,cRTimes (K:=6000) (s2.mono (by decide)) ((remN_sm sq).mono (by decide)) (by decide),?_⟩
   conv=>whnf
   refine ⟨_,cRSub (K:=12000) (s1.mono (by decide)) ((s2.mul (remN_sm sq)).mono (by decide)) (by decide),?_⟩;generalize v1-v2*((remN (v1/v2):Int):Rat)=r at *
   conv=>whnf
   refine ⟨_,cRSign,?_⟩
   conv=>whnf
   by_cases h0:r=0
   ·subst h0;rw [if_pos rfl]
    conv=>whnf
    refine ⟨_,cRSign,?_⟩
    conv=>whnf
    refine ⟨_,cRAbs,?_⟩;rw [absQ_nonneg Rat.le_refl]
    conv=>whnf
    refine ⟨_,cRWordZ hF,?_⟩
    conv=>whnf
    rfl
   ·have hw:=cRWordQ hF h0 fin.1 fin.2;obtain ⟨R,hR⟩:∃ R,R=if r=0 then (sgb E P g1,0) else rq E P 0 r:=⟨_,rfl⟩;rw [←hR];rw [if_neg h0] at hR;rw [sgn_lt]
    cases hn:decide (r.num<0)
    ·rw [hn] at hw
     conv=>whnf
     refine ⟨_,cRSign,?_⟩
     conv=>whnf
     rw [signN h0]
     conv=>whnf
     refine ⟨_,cRAbs,?_⟩
     conv=>whnf
     refine ⟨_,hw.1,?_⟩
     conv=>whnf
     rw [hR]
     have:=hw.2
     generalize rq E P 0 r=x at *
     obtain ⟨x1,x2⟩:=x;obtain rfl:x2=0:=this
     rfl
    ·rw [hn] at hw
     conv=>whnf
     refine ⟨_,cRAbs,?_⟩
     conv=>whnf
     refine ⟨_,hw.1,?_⟩
     conv=>whnf
     rw [hR]
     have:=hw.2
     generalize rq E P 0 r=x at *
     obtain ⟨x1,x2⟩:=x;obtain rfl:x2=0:=this
     rfl
  ·have e:remG E P 2 g1 v1 3 v2=rq E P 0 v1:=rfl;rw [e,b2 rfl]
   conv=>whnf
   rfl
  ·conv=>whnf
   refine ⟨_,cRNaN hF,?_⟩
   conv=>whnf
   rfl
  ·conv=>whnf
   refine ⟨_,cRNaN hF,?_⟩
   conv=>whnf
   rfl
  ·conv=>whnf
   refine ⟨_,cRNaN hF,?_⟩
   conv=>whnf
   rfl
end
section
variable {E P m n i j l:Nat} {q:Rat} {K:Nat}
theorem fma_kinds {k1 k2:Int} {q1 q2:Rat} (hk1:k1=1∨k1=2∨k1=3) (hk2:k2=1∨k2=2∨k2=3) (z1:k1≠2→q1=0) (z2:k2≠2→q2=0) :
  (mulB k1 k2=false↔minK k1 k2=1∧maxK k1 k2=3)∧(mulB k1 k2=true→mulK k1 k2=proK k1 k2∧mulV k1 k2 q1 q2=proQ k1 k2 q1 q2):=by
 rcases hk1 with rfl | rfl | rfl<;>rcases hk2 with rfl | rfl | rfl<;>refine ⟨by decide,fun h => ?_⟩<;>first
  | exact absurd h (by decide)
  | (refine ⟨by decide,?_⟩;show q1*q2=0;exact mul_zero2 (.inl (z1 (by decide))))
  | (refine ⟨by decide,?_⟩;show q1*q2=0;exact mul_zero2 (.inr (z2 (by decide))))
  | (refine ⟨by decide,?_⟩;show (0:Rat)=q1*q2;exact (mul_zero2 (.inl (z1 (by decide)))).symm)
  | (refine ⟨by decide,?_⟩;show (0:Rat)=q1*q2;exact (mul_zero2 (.inr (z2 (by decide)))).symm)
  | exact ⟨by decide,rfl⟩
theorem cRFmaF (hF:Fmt E P) (hm:m≤4) (hi:i<2^(E+P)) (hj:j<2^(E+P)) (hl:l<2^(E+P)):Cal Tryz.prog OQ 70 [fA E P,iA (m:Nat),wA i,wA j,wA l] (res3 (fmaR E P m i j l)):=by
 refine fn_callB [(4,[(0,5),(1,7),(3,5),(4,8),(6,5),(7,9),(12,14),(13,15),(14,16)])] TK MX Tryz.func70 rfl (by kernel_rfl) (by kernel_rfl) (by kernel_rfl) rfl rfl ?_;have hw:=cRWords3 hF hm (w128 hF hi) (w128 hF hj) (w128 hF hl);rw [if_pos ⟨hi,hj,hl⟩] at hw
 conv=>whnf
 refine ⟨_,hw,?_⟩
 conv=>whnf
 refine ⟨_,cRLook hF hi,?_⟩
 conv=>whnf
 refine ⟨_,cRLook hF hj,?_⟩
 conv=>whnf
 refine ⟨_,cRLook hF hl,?_⟩
 conv=>whnf
 refine ⟨_,cRNans3 hF (kd_cases E P i) (kd_cases E P j) (kd_cases E P l),?_⟩
 conv=>whnf
 have e1:Cal Tryz.prog OQ 157 [rOA (wkind E P i) (wn E P i) (wvalK E P (bias E) i)] (bA (decide (4≤kd E P i))):=by rw [←nanB_eq (kd_cases E P i)];exact cRNan
 have e2:Cal Tryz.prog OQ 157 [rOA (wkind E P j) (wn E P j) (wvalK E P (bias E) j)] (bA (decide (4≤kd E P j))):=by rw [←nanB_eq (kd_cases E P j)];exact cRNan
 have hI:∀ b,(decide (4≤kd E P i∨4≤kd E P j∨4≤kd E P l)=b)→(decide (4≤wkind E P i)||(decide (4≤wkind E P j)||decide (4≤wkind E P l)))=b:=fun b h=>by
  rw [←h,Bool.eq_iff_iff];simp
 generalize hII:(decide (4≤wkind E P i)||(decide (4≤wkind E P j)||decide (4≤wkind E P l)))=I;refine ⟨_,e1,?_⟩
 by_cases h1:4≤kd E P i
 ·have hA:4≤kd E P i∨4≤kd E P j∨4≤kd E P l:=.inl h1;rw [hI true (dT hA)] at hII;subst hII;rw [dT h1,show fmaR E P m i j l=_ from (if_neg (fun h=>h.1 (.inl h1))).trans (if_pos hA)]
  conv=>whnf
  split<;>rfl
 ·rw [dF h1]
  conv=>whnf
  refine ⟨_,e2,?_⟩
  by_cases h2:4≤kd E P j
  ·have hA:4≤kd E P i∨4≤kd E P j∨4≤kd E P l:=.inr (.inl h2);rw [hI true (dT hA)] at hII;subst hII;rw [dT h2,show fmaR E P m i j l=_ from (if_neg (fun h=>h.1 (.inr h2))).trans (if_pos hA)]
   conv=>whnf
   split<;>rfl
  ·rw [dF h2];have hk1:=kd3 h1;have hk2:=kd3 h2;have zz:∀ n,kd E P n=1∨kd E P n=2∨kd E P n=3→kd E P n≠2→vl E P n=0:=fun n h h2=>by
    rcases h with h | h | h
    ·exact kz1 h
    ·exact absurd h h2
    ·exact kz3 h
   have hf:=fma_kinds hk1 hk2 (zz i hk1) (zz j hk2)
   conv=>whnf
   refine ⟨_,cRMultiplied (sm_word2 hF) (sm_word2 hF) (by decide) hk1 hk2 kz1 kz1 vlNe vlNe,?_⟩
   conv=>whnf
   cases hB:mulB (kd E P i) (kd E P j)
   ·have hv:=hf.1.1 hB;rw [show fmaR E P m i j l=_ from if_pos ⟨fun h=>h.elim h1 h2,hv⟩]
    conv=>whnf
    refine ⟨_,cRNaN hF,?_⟩
    conv=>whnf
    rfl
   ·have hv:¬ (minK (kd E P i) (kd E P j)=1∧maxK (kd E P i) (kd E P j)=3):=fun h=>by rw [hf.1.2 h] at hB;cases hB
    obtain ⟨g1,g2⟩:=hf.2 hB
    conv=>whnf
    by_cases hC:4≤kd E P i∨4≤kd E P j∨4≤kd E P l
    ·rw [hI true (dT hC)] at hII;subst hII;rw [show fmaR E P m i j l=_ from (if_neg (fun h=>hv h.2)).trans (if_pos hC)]
     conv=>whnf
     split<;>rfl
    ·rw [hI false (dF hC)] at hII;subst hII;rw [show fmaR E P m i j l=_ from (if_neg (fun h=>hv h.2)).trans (if_neg hC),←g1,←g2];have sv:SmQ 5000 (mulV (kd E P i) (kd E P j) (vl E P i) (vl E P j)):=by
      unfold mulV
      split
      ·exact SmQ.zero _ (by decide)
      ·exact ((sm_word2 hF).mul (sm_word2 hF)).mono (by decide)
     have z1:mulK (kd E P i) (kd E P j)=1→mulV (kd E P i) (kd E P j) (vl E P i) (vl E P j)=0:=fun h=>by
      rw [g1] at h;rw [g2];unfold proK at h;unfold proQ
      by_cases hm1:minK (kd E P i) (kd E P j)=1
      ·rw [if_pos hm1]
      ·exfalso
       rw [if_neg hm1] at h;unfold minK at hm1;unfold maxK at h
       split at hm1<;>split at h<;>omega
     conv=>whnf
     refine ⟨_,cRAdded (K:=5000) hF hm sv (sm_word hF) (by decide) (kd3 (fun h=>hC (.inr (.inr h)))) z1 vlNe,?_⟩
     conv=>whnf
     rfl
end
section
variable {E P m n i j l:Nat} {q:Rat} {K:Nat}
theorem cRAddBad {E P M:Int} {i j:Nat} (h:¬ ((0≤M∧M≤4)∧Fmt E P)):Cal Tryz.prog OQ 58 [fA E P,iA M,wA i,wA j] (.t [wA 0,iA 0,iA 2]):=by
 refine fn_callB [(4,[(0,4),(1,6),(3,4),(4,7),(8,12),(9,13)])] TK MX Tryz.func58 rfl (by kernel_rfl) (by kernel_rfl) (by kernel_rfl) rfl rfl ?_
 conv=>whnf
 refine ⟨_,cRWordsBad (xs:=[wdC i,wdC j]) rfl h,?_⟩
 conv=>whnf
 rfl
theorem cRAddForm (hF:Fmt E P) (hm:m≤4) (h0:W128 i) (h1:W128 j) (hn:¬ (i<2^(E+P)∧j<2^(E+P))):Cal Tryz.prog OQ 58 [fA E P,iA (m:Nat),wA i,wA j] (.t [wA 0,iA 0,iA 6]):=by
 refine fn_callB [(4,[(0,4),(1,6),(3,4),(4,7),(8,12),(9,13)])] TK MX Tryz.func58 rfl (by kernel_rfl) (by kernel_rfl) (by kernel_rfl) rfl rfl ?_;have hw:=cRWords2 hF hm h0 h1;rw [if_neg hn] at hw
 conv=>whnf
 refine ⟨_,hw,?_⟩
 conv=>whnf
 rfl
theorem cRSubBad {E P M:Int} {i j:Nat} (h:¬ ((0≤M∧M≤4)∧Fmt E P)):Cal Tryz.prog OQ 60 [fA E P,iA M,wA i,wA j] (.t [wA 0,iA 0,iA 2]):=by
 refine fn_callB [(4,[(0,4),(2,6),(3,4),(4,7),(10,8)])] TK MX Tryz.func60 rfl (by kernel_rfl) (by kernel_rfl) (by kernel_rfl) rfl rfl ?_
 conv=>whnf
 refine ⟨_,cRWordsBad (xs:=[wdC i,wdC j]) rfl h,?_⟩
 conv=>whnf
 rfl
theorem cRSubForm (hF:Fmt E P) (hm:m≤4) (h0:W128 i) (h1:W128 j) (hn:¬ (i<2^(E+P)∧j<2^(E+P))):Cal Tryz.prog OQ 60 [fA E P,iA (m:Nat),wA i,wA j] (.t [wA 0,iA 0,iA 6]):=by
 refine fn_callB [(4,[(0,4),(2,6),(3,4),(4,7),(10,8)])] TK MX Tryz.func60 rfl (by kernel_rfl) (by kernel_rfl) (by kernel_rfl) rfl rfl ?_;have hw:=cRWords2 hF hm h0 h1;rw [if_neg hn] at hw
 conv=>whnf
 refine ⟨_,hw,?_⟩
 conv=>whnf
 rfl
theorem cRMulBad {E P M:Int} {i j:Nat} (h:¬ ((0≤M∧M≤4)∧Fmt E P)):Cal Tryz.prog OQ 62 [fA E P,iA M,wA i,wA j] (.t [wA 0,iA 0,iA 2]):=by
 refine fn_callB [(4,[(0,4),(1,6),(3,4),(4,7),(8,12),(9,13)])] TK MX Tryz.func62 rfl (by kernel_rfl) (by kernel_rfl) (by kernel_rfl) rfl rfl ?_
 conv=>whnf
 refine ⟨_,cRWordsBad (xs:=[wdC i,wdC j]) rfl h,?_⟩
 conv=>whnf
 rfl
theorem cRMulForm (hF:Fmt E P) (hm:m≤4) (h0:W128 i) (h1:W128 j) (hn:¬ (i<2^(E+P)∧j<2^(E+P))):Cal Tryz.prog OQ 62 [fA E P,iA (m:Nat),wA i,wA j] (.t [wA 0,iA 0,iA 6]):=by
 refine fn_callB [(4,[(0,4),(1,6),(3,4),(4,7),(8,12),(9,13)])] TK MX Tryz.func62 rfl (by kernel_rfl) (by kernel_rfl) (by kernel_rfl) rfl rfl ?_;have hw:=cRWords2 hF hm h0 h1;rw [if_neg hn] at hw
 conv=>whnf
 refine ⟨_,hw,?_⟩
 conv=>whnf
 rfl
theorem cRDivBad {E P M:Int} {i j:Nat} (h:¬ ((0≤M∧M≤4)∧Fmt E P)):Cal Tryz.prog OQ 64 [fA E P,iA M,wA i,wA j] (.t [wA 0,iA 0,iA 2]):=by
 refine fn_callB [(4,[(0,4),(1,6),(3,4),(4,7),(8,12),(9,13)]),(17,[(0,4),(3,12),(5,13),(11,14)])] TK MX Tryz.func64 rfl (by kernel_rfl) (by kernel_rfl) (by kernel_rfl) rfl rfl ?_
 conv=>whnf
 refine ⟨_,cRWordsBad (xs:=[wdC i,wdC j]) rfl h,?_⟩
 conv=>whnf
 rfl
theorem cRDivForm (hF:Fmt E P) (hm:m≤4) (h0:W128 i) (h1:W128 j) (hn:¬ (i<2^(E+P)∧j<2^(E+P))):Cal Tryz.prog OQ 64 [fA E P,iA (m:Nat),wA i,wA j] (.t [wA 0,iA 0,iA 6]):=by
 refine fn_callB [(4,[(0,4),(1,6),(3,4),(4,7),(8,12),(9,13)]),(17,[(0,4),(3,12),(5,13),(11,14)])] TK MX Tryz.func64 rfl (by kernel_rfl) (by kernel_rfl) (by kernel_rfl) rfl rfl ?_;have hw:=cRWords2 hF hm h0 h1;rw [if_neg hn] at hw
 conv=>whnf
 refine ⟨_,hw,?_⟩
 conv=>whnf
 rfl
theorem cRRemBad {E P:Int} {i j:Nat} (h:¬ Fmt E P):Cal Tryz.prog OQ 66 [fA E P,wA i,wA j] (.t [wA 0,iA 0,iA 2]):=by
 refine fn_callB [(4,[(0,3),(1,4),(3,3),(4,5),(8,10),(9,11)]),(12,[(1,10),(3,11),(5,10),(7,11),(13,15)]),(14,[(0,3),(2,15),(5,6)])] TK MX Tryz.func66 rfl (by kernel_rfl) (by kernel_rfl) (by kernel_rfl) rfl rfl ?_
 conv=>whnf
 refine ⟨_,cRWordsBad (M:=0) (xs:=[wdC i,wdC j]) rfl (fun k=>h k.2),?_⟩
 conv=>whnf
 rfl
theorem cRRemForm (hF:Fmt E P) (h0:W128 i) (h1:W128 j) (hn:¬ (i<2^(E+P)∧j<2^(E+P))):Cal Tryz.prog OQ 66 [fA E P,wA i,wA j] (.t [wA 0,iA 0,iA 6]):=by
 refine fn_callB [(4,[(0,3),(1,4),(3,3),(4,5),(8,10),(9,11)]),(12,[(1,10),(3,11),(5,10),(7,11),(13,15)]),(14,[(0,3),(2,15),(5,6)])] TK MX Tryz.func66 rfl (by kernel_rfl) (by kernel_rfl) (by kernel_rfl) rfl rfl ?_;have hw:=cRWords2 (m:=0) hF (by decide) h0 h1;rw [if_neg hn] at hw
 conv=>whnf
 refine ⟨_,hw,?_⟩
 conv=>whnf
 rfl
theorem cRSqrtBad {E P M:Int} {n:Nat} (h:¬ ((0≤M∧M≤4)∧Fmt E P)):Cal Tryz.prog OQ 68 [fA E P,iA M,wA n] (.t [wA 0,iA 0,iA 2]):=by
 refine fn_call TK MX Tryz.func68 rfl (by kernel_rfl) (by kernel_rfl) (by kernel_rfl) rfl rfl ?_
 conv=>whnf
 refine ⟨_,cRWordsBad (xs:=[wdC n]) rfl h,?_⟩
 conv=>whnf
 rfl
theorem cRSqrtForm (hF:Fmt E P) (hm:m≤4) (h0:W128 n) (hn:¬ (n<2^(E+P))):Cal Tryz.prog OQ 68 [fA E P,iA (m:Nat),wA n] (.t [wA 0,iA 0,iA 6]):=by
 refine fn_call TK MX Tryz.func68 rfl (by kernel_rfl) (by kernel_rfl) (by kernel_rfl) rfl rfl ?_;have hw:=cRWords1 hF hm h0;rw [if_neg hn] at hw
 conv=>whnf
 refine ⟨_,hw,?_⟩
 conv=>whnf
 rfl
theorem cRFmaBad {E P M:Int} {i j l:Nat} (h:¬ ((0≤M∧M≤4)∧Fmt E P)):Cal Tryz.prog OQ 70 [fA E P,iA M,wA i,wA j,wA l] (.t [wA 0,iA 0,iA 2]):=by
 refine fn_callB [(4,[(0,5),(1,7),(3,5),(4,8),(6,5),(7,9),(12,14),(13,15),(14,16)])] TK MX Tryz.func70 rfl (by kernel_rfl) (by kernel_rfl) (by kernel_rfl) rfl rfl ?_
 conv=>whnf
 refine ⟨_,cRWordsBad (xs:=[wdC i,wdC j,wdC l]) rfl h,?_⟩
 conv=>whnf
 rfl
theorem cRFmaForm (hF:Fmt E P) (hm:m≤4) (h0:W128 i) (h1:W128 j) (h2:W128 l) (hn:¬ (i<2^(E+P)∧j<2^(E+P)∧l<2^(E+P))):Cal Tryz.prog OQ 70 [fA E P,iA (m:Nat),wA i,wA j,wA l] (.t [wA 0,iA 0,iA 6]):=by
 refine fn_callB [(4,[(0,5),(1,7),(3,5),(4,8),(6,5),(7,9),(12,14),(13,15),(14,16)])] TK MX Tryz.func70 rfl (by kernel_rfl) (by kernel_rfl) (by kernel_rfl) rfl rfl ?_;have hw:=cRWords3 hF hm h0 h1 h2;rw [if_neg hn] at hw
 conv=>whnf
 refine ⟨_,hw,?_⟩
 conv=>whnf
 rfl
end
def SameS (F F':FuncId) (args:List AV):Prop:=∃ (r:Nat) (y z:Int),Cal Tryz.prog OQ F args (.t [wA r,iA y,iA z])∧Cal Tryz.prog OQ F' args (.t [wA r,iA y,iA z])
section
variable {E P M:Int} {i j l:Nat}
theorem binS {F F':FuncId} {R:Nat→Nat→Nat→Nat×Nat} (hp:Cal Tryz.prog OQ F [fA E P,iA M,wA i,wA j] (z3 (opZ E P M i j R)))
  (hb:¬ ((0≤M∧M≤4)∧Fmt E P)→Cal Tryz.prog OQ F' [fA E P,iA M,wA i,wA j] (.t [wA 0,iA 0,iA 2]))
  (hf:∀ e p m:Nat,Fmt e p→m≤4→¬ (i<2^(e+p)∧j<2^(e+p))→Cal Tryz.prog OQ F' [fA e p,iA (m:Nat),wA i,wA j] (.t [wA 0,iA 0,iA 6]))
  (hg:∀ e p m:Nat,Fmt e p→m≤4→i<2^(e+p)→j<2^(e+p)→Cal Tryz.prog OQ F' [fA e p,iA (m:Nat),wA i,wA j] (res3 (opnR e p i j (R e p m)))):SameS F F' [fA E P,iA M,wA i,wA j]:=by
 refine ⟨_,_,_,hp,?_⟩
 by_cases h:(0≤M∧M≤4)∧Fmt E P
 ·obtain ⟨e,p,m,rfl,rfl,rfl,hm,hF⟩:=fmt_cases h
  by_cases hw:i<2^(e+p)∧j<2^(e+p)
  ·rw [opZ_good hF hm hw.1 hw.2]
   exact hg e p m hF hm hw.1 hw.2
  ·have:opZ e p m i j R=(0,0,6):=by
    have e':((e:Int)+p).toNat=e+p:=by omega
    unfold opZ;rw [if_neg (fun k=>k h),e',if_pos hw]
   rw [this]
   exact hf e p m hF hm hw
 ·rw [show opZ E P M i j R=_ from if_pos h]
  exact hb h
theorem addS (h1:W128 i) (h2:W128 j):SameS 57 58 [fA E P,iA M,wA i,wA j] :=
 binS (cAddZ h1 h2) cRAddBad (fun _ _ _ hF hm hn=>cRAddForm hF hm h1 h2 hn) fun _ _ _ hF hm hi hj=>cRAddF hF hm hi hj
theorem subS (h1:W128 i) (h2:W128 j):SameS 59 60 [fA E P,iA M,wA i,wA j] :=
 binS (cSubZ h1 h2) cRSubBad (fun _ _ _ hF hm hn=>cRSubForm hF hm h1 h2 hn) fun _ _ _ hF hm hi hj=>cRSubF hF hm hi hj
theorem mulS (h1:W128 i) (h2:W128 j):SameS 61 62 [fA E P,iA M,wA i,wA j] :=
 binS (cMulZ h1 h2) cRMulBad (fun _ _ _ hF hm hn=>cRMulForm hF hm h1 h2 hn) fun _ _ _ hF hm hi hj=>cRMulF hF hm hi hj
theorem divS (h1:W128 i) (h2:W128 j):SameS 63 64 [fA E P,iA M,wA i,wA j] :=
 binS (cDivZ h1 h2) cRDivBad (fun _ _ _ hF hm hn=>cRDivForm hF hm h1 h2 hn) fun _ _ _ hF hm hi hj=>cRDivF hF hm hi hj
theorem remS (h1:W128 i) (h2:W128 j):SameS 65 66 [fA E P,wA i,wA j]:=by
 refine ⟨_,_,_,cRemZ h1 h2,?_⟩
 by_cases hf:Fmt E P
 ·obtain ⟨e,p,m,rfl,rfl,_,_,hF⟩:=fmt_cases (M:=0) ⟨by omega,hf⟩
  by_cases hw:i<2^(e+p)∧j<2^(e+p)
  ·have:=opZ_good (R:=fun e p _=>remG e p (kd e p i) (wn e p i) (vl e p i) (kd e p j) (vl e p j)) (m:=0) hF (by decide) hw.1 hw.2
   rw [show remZ e p i j=_ from this]
   exact cRRemF hF hw.1 hw.2
  ·have:remZ e p i j=(0,0,6):=by
    have e':((e:Int)+p).toNat=e+p:=by omega
    unfold remZ opZ;rw [if_neg (fun k=>k ⟨by omega,hF⟩),e',if_pos hw]
   rw [this]
   exact cRRemForm hF h1 h2 hw
 ·rw [show remZ E P i j=_ from if_pos (fun k=>hf k.2)]
  exact cRRemBad hf
theorem sqrtS (h1:W128 i):SameS 67 68 [fA E P,iA M,wA i]:=by
 by_cases h:(0≤M∧M≤4)∧Fmt E P
 ·obtain ⟨e,p,m,rfl,rfl,rfl,hm,hF⟩:=fmt_cases h
  by_cases hn:i<2^(e+p)
  ·exact ⟨_,_,_,cSqrtF hF hm hn,cRSqrtF hF hm hn⟩
  ·exact ⟨_,_,_,cSqrtForm hF hm h1 hn,cRSqrtForm hF hm h1 hn⟩
 ·exact ⟨_,_,_,cSqrtBad h,cRSqrtBad h⟩
theorem fmaS (h1:W128 i) (h2:W128 j) (h3:W128 l):SameS 69 70 [fA E P,iA M,wA i,wA j,wA l]:=by
 by_cases h:(0≤M∧M≤4)∧Fmt E P
 ·obtain ⟨e,p,m,rfl,rfl,rfl,hm,hF⟩:=fmt_cases h
  by_cases hn:i<2^(e+p)∧j<2^(e+p)∧l<2^(e+p)
  ·exact ⟨_,_,_,cFmaF hF hm hn.1 hn.2.1 hn.2.2,cRFmaF hF hm hn.1 hn.2.1 hn.2.2⟩
  ·exact ⟨_,_,_,cFmaForm hF hm h1 h2 h3 hn,cRFmaForm hF hm h1 h2 h3 hn⟩
 ·exact ⟨_,_,_,cFmaBad h,cRFmaBad h⟩
end
theorem rs_ne (a b c d:Int):(!(a==a&&(b==b&&(c==c&&(d==d&&true)))))=false:=by simp
theorem rs_eqs (a b c d:Int):(a==a&&(b==b&&(c==c&&(d==d&&true))))=true:=by simp
def opA3 (E P M:Int) (i j l:Nat):List AC:=[.v (.int .i64 E),.v (.int .i64 P),.v (.int .i64 M)]++wdC i++wdC j++wdC l
theorem cComputes {E P M:Int} {i j l:Nat} (h1:W128 i) (h2:W128 j) (h3:W128 l):Cal Tryz.prog OQ 9 [.g (opA3 E P M i j l)] (bA true):=by
 obtain ⟨_,_,_,a1,a2⟩:=addS (E:=E) (P:=P) (M:=M) h1 h2;obtain ⟨_,_,_,b1,b2⟩:=subS (E:=E) (P:=P) (M:=M) h1 h2;obtain ⟨_,_,_,c1,c2⟩:=mulS (E:=E) (P:=P) (M:=M) h1 h2;obtain ⟨_,_,_,d1,d2⟩:=divS (E:=E) (P:=P) (M:=M) h1 h2;obtain ⟨_,_,_,e1,e2⟩:=remS (E:=E) (P:=P) h1 h2;obtain ⟨_,_,_,f1,f2⟩:=sqrtS (E:=E) (P:=P) (M:=M) h1;obtain ⟨_,_,_,g1,g2⟩:=fmaS (E:=E) (P:=P) (M:=M) h1 h2 h3;refine fn_callB [(1,[(1,1),(3,1),(5,1),(7,1),(9,1),(14,3),(16,5),(17,6),(18,7)]),(2,[(0,3),(2,5),(3,6),(9,3),(11,5),(12,6),(20,3),(22,5),(23,6),(29,3),(31,5),(32,6)]),(4,[(0,3),(2,5),(3,6),(9,3),(11,5),(12,6),(20,3),(22,5),(23,6),(29,3),(31,5),(32,6)]),(6,[(0,3),(1,5),(2,6),(8,3),(9,5),(10,6),(18,3),(20,5),(26,3),(28,5)]),(8,[(0,3),(2,5),(3,6),(4,7),(10,3),(12,5),(13,6),(14,7)])] TK MX Tryz.func9 rfl (by kernel_rfl) (by kernel_rfl) (by kernel_rfl) rfl rfl ?_
 conv=>whnf
 refine ⟨_,a1,?_⟩
 conv=>whnf
 refine ⟨_,cGot,?_⟩
 conv=>whnf
 refine ⟨_,a2,?_⟩
 conv=>whnf
 refine ⟨_,cGot,?_⟩
 conv=>whnf
 rw [rs_ne]
 conv=>whnf
 refine ⟨_,b1,?_⟩
 conv=>whnf
 refine ⟨_,cGot,?_⟩
 conv=>whnf
 refine ⟨_,b2,?_⟩
 conv=>whnf
 refine ⟨_,cGot,?_⟩
 conv=>whnf
 rw [rs_ne]
 conv=>whnf
 refine ⟨_,c1,?_⟩
 conv=>whnf
 refine ⟨_,cGot,?_⟩
 conv=>whnf
 refine ⟨_,c2,?_⟩
 conv=>whnf
 refine ⟨_,cGot,?_⟩
 conv=>whnf
 rw [rs_ne]
 conv=>whnf
 refine ⟨_,d1,?_⟩
 conv=>whnf
 refine ⟨_,cGot,?_⟩
 conv=>whnf
 refine ⟨_,d2,?_⟩
 conv=>whnf
 refine ⟨_,cGot,?_⟩
 conv=>whnf
 rw [rs_ne]
 conv=>whnf
 refine ⟨_,e1,?_⟩
 conv=>whnf
 refine ⟨_,cGot,?_⟩
 conv=>whnf
 refine ⟨_,e2,?_⟩
 conv=>whnf
 refine ⟨_,cGot,?_⟩
 conv=>whnf
 rw [rs_ne]
 conv=>whnf
 refine ⟨_,f1,?_⟩
 conv=>whnf
 refine ⟨_,cGot,?_⟩
 conv=>whnf
 refine ⟨_,f2,?_⟩
 conv=>whnf
 refine ⟨_,cGot,?_⟩
 conv=>whnf
 rw [rs_ne]
 conv=>whnf
 refine ⟨_,g1,?_⟩
 conv=>whnf
 refine ⟨_,cGot,?_⟩
 conv=>whnf
 refine ⟨_,g2,?_⟩
 conv=>whnf
 refine ⟨_,cGot,?_⟩
 conv=>whnf
 rw [rs_eqs]
 conv=>whnf
 refine ⟨_,cAwakeE,?_⟩
 conv=>whnf
 rfl
theorem cComputesL {E P M:Int} {i0 i1 j0 j1 c0 c1:Nat} (hi0:i0<18446744073709551616) (hi1:i1<18446744073709551616) (hj0:j0<18446744073709551616) (hj1:j1<18446744073709551616) (hc0:c0<18446744073709551616) (hc1:c1<18446744073709551616) :
  Cal Tryz.prog OQ 9 ([.m [.int .i64 E,.int .i64 P,.int .i64 M,.int .u64 (i0:Nat),.int .u64 (i1:Nat),.int .u64 (j0:Nat),.int .u64 (j1:Nat),.int .u64 (c0:Nat),.int .u64 (c1:Nat)]].map Arg.av) (bA true):=by
 have hi:=w_cells hi0 hi1;have hj:=w_cells hj0 hj1;have hc:=w_cells hc0 hc1;have h:=cComputes (E:=E) (P:=P) (M:=M) hi.1 hj.1 hc.1;unfold opA3 at h;rw [hi.2,hj.2,hc.2] at h
 exact h
end Go.Proofs.YtgabigepocfllaaGreatDoor
