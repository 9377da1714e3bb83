/- Plain: FloatsMirrors: what the operations return of operands with other signs. -/
import Derived.Test.YtopmjkkjlagfcaaGreatDoorX47
namespace Go.Proofs.YtopmjkkjlagfcaaGreatDoor
open Go.RowKit Vn
set_option maxRecDepth 100000
set_option maxHeartbeats 8000000
theorem nan_word {E P:Nat} (hP:2≤P):nanw E P=wordN E P false (2^(P-2)) (2^E-1):=by
 unfold nanw
 exact inf_or false (Nat.pow_lt_pow_right (by decide) (by omega))
theorem nanw_ok {E P:Nat} (hE:1≤E) (hP:2≤P):nanw E P<2^(E+P)∧kd E P (nanw E P)=4:=by
 have hlt:2^(P-2)<2^(P-1):=Nat.pow_lt_pow_right (by decide) (by omega);have h0:=special_fits (E:=E) (P:=P) (by omega) hlt;have hp:0<2^(P-1):=Nat.pow_pos (by decide);rw [nan_word hP];refine ⟨wordN_lt (by omega) _ h0,?_⟩;have e1:wf E P (wordN E P false (2^(P-2)) (2^E-1))=2^E-1:=by
  rw [wordN_wf (by omega) _ h0,Nat.add_mul_div_right _ _ hp,Nat.div_eq_of_lt hlt,Nat.zero_add]
 have e2:wr P (wordN E P false (2^(P-2)) (2^E-1))=2^(P-2):=by rw [wordN_wr (by omega) _ h0,Nat.mod_eq_of_lt hlt]
 show wkind E P _=4
 unfold wkind;have hp2:0<2^(P-2):=Nat.pow_pos (by decide);have e3:bl (2^(P-2))=P-1:=by rw [bl_unique (Nat.le_refl _) (Nat.pow_lt_pow_right (by decide) (by omega))];omega
 rw [if_pos e1,e2,if_neg (by omega),if_pos e3]
theorem opp_nan {E P f:Nat} (hE:1≤E) (hP:2≤P):Opp E P (nanw E P,f) (nanw E P,f):=⟨(nanw_ok hE hP).1,rfl,.inl ⟨(nanw_ok hE hP).2,rfl⟩⟩
section
variable {E P m:Nat} {k1 k2:Int} {n1 n2 n3 n4:Bool} {q1 q2 q3 q4:Rat}
theorem sumR_opp (hF:Fmt E P) (h:q1+q2≠0∨k1=3∨k2=3) (hq:k1≠3→k2≠3→q3+q4 = -(q1+q2)):Opp E P (sumR E P m k1 n1 q1 k2 n2 q2) (sumR E P (mirM m) k1 (!n1) q3 k2 (!n2) q4):=by
 obtain ⟨hE,_,hP,_⟩:=fmt_n hF;unfold sumR
 by_cases c1:k1=3∧k2=3∧n1≠n2
 ·have c1':k1=3∧k2=3∧(!n1)≠(!n2):=⟨c1.1,c1.2.1,fun e=>c1.2.2 (by simpa using e)⟩;rw [if_pos c1,if_pos c1'];exact opp_nan (by omega) hP
 ·have c1':¬ (k1=3∧k2=3∧(!n1)≠(!n2)):=fun h=>c1 ⟨h.1,h.2.1,fun e=>h.2.2 (by rw [e])⟩;rw [if_neg c1,if_neg c1']
  by_cases c2:k1=3
  ·rw [if_pos c2,if_pos c2];exact (opp_inf (by omega) n1).opp
  ·rw [if_neg c2,if_neg c2]
   by_cases c3:k2=3
   ·rw [if_pos c3,if_pos c3];exact (opp_inf (by omega) n2).opp
   ·have h0:q1+q2≠0:=h.resolve_right (by simp [c2,c3]);rw [if_neg c3,if_neg c3,if_pos h0,hq c2 c3,if_pos (by intro e;exact h0 (by grind))]
    exact (rq_opp hF h0).opp
theorem exaR_opp (hF:Fmt E P) {k:Int} {n:Bool} {q:Rat} (h:k≠1→k≠3→q≠0):Opp E P (exaR E P m k n q) (exaR E P (mirM m) k (!n) (-q)):=by
 obtain ⟨hE,_,hP,_⟩:=fmt_n hF;unfold exaR
 by_cases c1:k=1
 ·rw [if_pos c1,if_pos c1];exact (opp_sgb hE (by omega) n).opp
 ·rw [if_neg c1,if_neg c1]
  by_cases c2:k=3
  ·rw [if_pos c2,if_pos c2];exact (opp_inf (by omega) n).opp
  ·rw [if_neg c2,if_neg c2];exact (rq_opp hF (h c1 c2)).opp
theorem mulR_opp (hF:Fmt E P) (hn:(n3 != n4) = !(n1 != n2)) (hq:minK k1 k2≠1→q3*q4 = -(q1*q2)) (h0:minK k1 k2≠1→maxK k1 k2≠3→q1*q2≠0) :
  Opp E P (mulR E P m k1 n1 q1 k2 n2 q2) (mulR E P (mirM m) k1 n3 q3 k2 n4 q4):=by
 obtain ⟨hE,_,hP,_⟩:=fmt_n hF;unfold mulR
 by_cases c1:minK k1 k2=1∧maxK k1 k2=3
 ·rw [if_pos c1,if_pos c1];exact opp_nan (by omega) hP
 ·rw [if_neg c1,if_neg c1]
  by_cases c2:minK k1 k2=1
  ·rw [if_pos c2,if_pos c2,hn];exact (opp_sgb hE (by omega) _).opp
  ·rw [if_neg c2,if_neg c2,hn,hq c2];exact exaR_opp hF fun _ k=>h0 c2 k
theorem quoR_opp (hF:Fmt E P) (hn:(n3 != n4) = !(n1 != n2)) (hq:k1=2→k2=2→q3/q4 = -(q1/q2)∧q1/q2≠0) (h1:k1=1∨k1=2∨k1=3) (h2:k2=1∨k2=2∨k2=3) :
  Opp E P (quoR E P m k1 n1 q1 k2 n2 q2) (quoR E P (mirM m) k1 n3 q3 k2 n4 q4):=by
 obtain ⟨hE,_,hP,_⟩:=fmt_n hF;unfold quoR
 by_cases c1:k1=k2∧k1≠2
 ·rw [if_pos c1,if_pos c1];exact opp_nan (by omega) hP
 ·rw [if_neg c1,if_neg c1,hn]
  by_cases c2:k1=3
  ·rw [if_pos c2,if_pos c2];exact (opp_inf (by omega) _).opp
  ·rw [if_neg c2,if_neg c2]
   by_cases c3:k2=1
   ·rw [if_pos c3,if_pos c3];exact (opp_inf (by omega) _).opp
   ·rw [if_neg c3,if_neg c3]
    by_cases c4:k1=1∨k2=3
    ·rw [if_pos c4,if_pos c4];exact (opp_sgb hE (by omega) _).opp
    ·obtain ⟨e1,e2⟩:=hq (by omega) (by omega);rw [if_neg c4,if_neg c4,e1];exact (rq_opp hF e2).opp
theorem opnR_opp (hF:Fmt E P) {i j i' j':Nat} {R S:Nat×Nat} (hi:kd E P i'=kd E P i) (hj:kd E P j'=kd E P j) (h:¬ 4≤kd E P i→¬ 4≤kd E P j→Opp E P R S):Opp E P (opnR E P i j R) (opnR E P i' j' S):=by
 obtain ⟨hE,_,hP,_⟩:=fmt_n hF;unfold opnR;rw [hi,hj]
 by_cases c:4≤kd E P i∨4≤kd E P j
 ·rw [if_pos c,if_pos c];exact opp_nan (by omega) hP
 ·rw [if_neg c,if_neg c];exact h (fun k=>c (.inl k)) (fun k=>c (.inr k))
/-! ### in the other order -/
theorem sumR_comm (h1:k1=1↔k1≤2∧q1=0) (h2:k2=1↔k2≤2∧q2=0) (g1:k1=1∨k1=2∨k1=3) (g2:k2=1∨k2=2∨k2=3):sumR E P m k1 n1 q1 k2 n2 q2=sumR E P m k2 n2 q2 k1 n1 q1:=by
 unfold sumR;have e:q2+q1=q1+q2:=by grind
 rw [e];have A:∀ {a b:Int} {n o:Bool},¬ (a=3∧b=3)→¬ (a=3∧b=3∧n≠o):=fun h k=>h ⟨k.1,k.2.1⟩
 by_cases c1:k1=3
 ·by_cases c2:k2=3
  ·by_cases c3:n1=n2
   ·rw [if_neg (show ¬ (k1=3∧k2=3∧n1≠n2) from fun h=>h.2.2 c3),if_pos c1,if_neg (show ¬ (k2=3∧k1=3∧n2≠n1) from fun h=>h.2.2 c3.symm),if_pos c2,c3]
   ·rw [if_pos (show k1=3∧k2=3∧n1≠n2 from ⟨c1,c2,c3⟩),if_pos (show k2=3∧k1=3∧n2≠n1 from ⟨c2,c1,fun h=>c3 h.symm⟩)]
  ·rw [if_neg (A (a:=k1) (b:=k2) (n:=n1) (o:=n2) (fun h=>c2 h.2)),if_pos c1,if_neg (A (a:=k2) (b:=k1) (n:=n2) (o:=n1) (fun h=>c2 h.1)),if_neg c2,if_pos c1]
 ·by_cases c2:k2=3
  ·rw [if_neg (A (a:=k1) (b:=k2) (n:=n1) (o:=n2) (fun h=>c1 h.1)),if_neg c1,if_pos c2,if_neg (A (a:=k2) (b:=k1) (n:=n2) (o:=n1) (fun h=>c1 h.2)),if_pos c2]
  ·rw [if_neg (A (a:=k1) (b:=k2) (n:=n1) (o:=n2) (fun h=>c1 h.1)),if_neg c1,if_neg c2,if_neg (A (a:=k2) (b:=k1) (n:=n2) (o:=n1) (fun h=>c2 h.1)),if_neg c2,if_neg c1]
   by_cases c3:q1+q2≠0
   ·rw [if_pos c3,if_pos c3]
   ·rw [if_neg c3,if_neg c3];have hk:k1=1↔k2=1:=by
     rw [h1,h2]
     constructor
     ·intro h;exact ⟨by omega,by grind⟩
     ·intro h;exact ⟨by omega,by grind⟩
    by_cases c4:k1=1∧n1=n2
    ·rw [if_pos c4,if_pos ⟨hk.1 c4.1,c4.2.symm⟩,c4.2]
    ·rw [if_neg c4,if_neg (fun h=>c4 ⟨hk.2 h.1,h.2.symm⟩)]
theorem mulR_comm:mulR E P m k1 n1 q1 k2 n2 q2=mulR E P m k2 n2 q2 k1 n1 q1:=by
 have e1:minK k1 k2=minK k2 k1:=by unfold minK;split<;>split<;>omega
 have e2:maxK k1 k2=maxK k2 k1:=by unfold maxK;split<;>split<;>omega
 have e3:(n1 != n2)=(n2 != n1):=by cases n1<;>cases n2<;>rfl
 unfold mulR;rw [e1,e2,e3,Rat.mul_comm]
theorem opnR_comm {i j:Nat} {R S:Nat×Nat} (h:¬ 4≤kd E P i→¬ 4≤kd E P j→R=S):opnR E P i j R=opnR E P j i S:=by
 unfold opnR
 by_cases c:4≤kd E P i∨4≤kd E P j
 ·rw [if_pos c,if_pos c.symm]
  congr 1
  by_cases c':kd E P i=5∨kd E P j=5
  ·rw [if_pos c',if_pos c'.symm]
  ·rw [if_neg c',if_neg (fun h=>c' h.symm)]
 ·rw [if_neg c,if_neg (fun h=>c h.symm)];exact h (fun k=>c (.inl k)) (fun k=>c (.inr k))
end
theorem opZ_comm {E P M:Int} {i j:Nat} {R S:Nat→Nat→Nat→Nat×Nat} (h:∀ e p m,opnR e p j i (S e p m)=opnR e p i j (R e p m)):opZ E P M j i S=opZ E P M i j R:=by
 unfold opZ;rw [h]
 by_cases d:i<2^(E+P).toNat∧j<2^(E+P).toNat
 ·simp only [d.1,d.2,and_self]
 ·have d':¬ (j<2^(E+P).toNat∧i<2^(E+P).toNat):=fun k=>d ⟨k.2,k.1⟩;simp only [d,d']
theorem addZ_comm (E P M:Int) (i j:Nat):addZ E P M j i=addZ E P M i j:=by
 have kz:∀ e p n:Nat,kd e p n=1↔kd e p n≤2∧vl e p n=0:=by
  intro e p n
  constructor
  ·intro h;exact ⟨by omega,(kind_zero (show wkind e p n≤2 by show kd e p n≤2;omega)).1 h⟩
  ·intro h;exact (kind_zero h.1).2 h.2
 exact opZ_comm fun e p m=>opnR_comm fun _ _=>sumR_comm (kz _ _ _) (kz _ _ _) (by have:=kd_cases e p j;omega) (by have:=kd_cases e p i;omega)
theorem mulZ_comm (E P M:Int) (i j:Nat):mulZ E P M j i=mulZ E P M i j :=
 opZ_comm fun _ _ _=>opnR_comm fun _ _=>mulR_comm
end Go.Proofs.YtopmjkkjlagfcaaGreatDoor
