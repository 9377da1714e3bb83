/- floats: the operations of whatever format, mode and words; the law's helpers. -/
import Derived.Test.YtoaoebimjmjpeaaGreatDoorT45
import Derived.Test.YtoaoebimjmjpeaaGreatDoorT47
import Derived.Test.YtoaoebimjmjpeaaGreatDoorT39
namespace Go.Proofs.YtoaoebimjmjpeaaGreatDoor
open Go.RowKit Vn
set_option maxRecDepth 100000
set_option maxHeartbeats 8000000
abbrev z3 (r:Nat×Int×Int):AV:=.t [wA r.1,iA r.2.1,iA r.2.2]
def opZ (E P M:Int) (i j:Nat) (R:Nat→Nat→Nat→Nat×Nat):Nat×Int×Int :=
 if ¬ ((0≤M∧M≤4)∧Fmt E P) then (0,0,2) else if ¬ (i<2^(E+P).toNat∧j<2^(E+P).toNat) then (0,0,6)
 else ((opnR E.toNat P.toNat i j (R E.toNat P.toNat M.toNat)).1,((opnR E.toNat P.toNat i j (R E.toNat P.toNat M.toNat)).2:Nat),0)
theorem opZ_good {E P m i j:Nat} {R:Nat→Nat→Nat→Nat×Nat} (hF:Fmt E P) (hm:m≤4) (hi:i<2^(E+P)) (hj:j<2^(E+P)) :
  opZ E P m i j R=((opnR E P i j (R E P m)).1,(((opnR E P i j (R E P m)).2:Nat):Int),0):=by
 have e:((E:Int)+P).toNat=E+P:=by omega
 unfold opZ;rw [if_neg (fun h=>h ⟨⟨by omega,by omega⟩,hF⟩),e,if_neg (fun h=>h ⟨hi,hj⟩)]
 simp
theorem fmt_cases {E P M:Int} (h:(0≤M∧M≤4)∧Fmt E P):∃ e p m:Nat,E=e∧P=p∧M=m∧m≤4∧Fmt (e:Int) (p:Int):=by
 have hF:=h.2;obtain ⟨h1,h2,h3,h4,h5⟩:=hF
 exact ⟨E.toNat,P.toNat,M.toNat,by omega,by omega,by omega,by omega,by rw [show ((E.toNat:Nat):Int)=E by omega,show ((P.toNat:Nat):Int)=P by omega];exact h.2⟩
theorem cOpZ {f:FuncId} {E P M:Int} {i j:Nat} {R:Nat→Nat→Nat→Nat×Nat} (h1:W128 i) (h2:W128 j)
  (hf:∀ E P m:Nat,Fmt E P→m≤4→i<2^(E+P)→j<2^(E+P)→¬ 4≤kd E P i→¬ 4≤kd E P j→Cal Tryz.prog OQ f [mA E P m (bias E:Nat),oA (kd E P i) (wn E P i) (vl E P i),oA (kd E P j) (wn E P j) (vl E P j)] (resA (R E P m))) :
  Cal Tryz.prog OQ 126 [fA E P,iA M,wA i,wA j,fnA f] (z3 (opZ E P M i j R)):=by
 by_cases h:(0≤M∧M≤4)∧Fmt E P
 ·obtain ⟨e,p,m,rfl,rfl,rfl,hm,hF⟩:=fmt_cases h
  by_cases hw:i<2^(e+p)∧j<2^(e+p)
  ·rw [opZ_good hF hm hw.1 hw.2]
   exact cOperate hF hm hw.1 hw.2 (hf e p m hF hm hw.1 hw.2)
  ·have:opZ e p m i j R=(0,0,6):=by
    have e':((e:Int)+p).toNat=e+p:=by omega
    unfold opZ;rw [if_neg (fun k=>k h),e',if_pos hw]
   rw [this]
   exact cOperateForm hF hm h1 h2 hw
 ·rw [show opZ E P M i j R=_ from if_pos h]
  exact cOperateBad h
section
variable {E P M:Int} {i j:Nat}
def addZ (E P M:Int) (i j:Nat):=opZ E P M i j fun e p m=>sumR e p m (kd e p i) (wn e p i) (vl e p i) (kd e p j) (wn e p j) (vl e p j)
def mulZ (E P M:Int) (i j:Nat):=opZ E P M i j fun e p m=>mulR e p m (kd e p i) (wn e p i) (vl e p i) (kd e p j) (wn e p j) (vl e p j)
def divZ (E P M:Int) (i j:Nat):=opZ E P M i j fun e p m=>quoR e p m (kd e p i) (wn e p i) (vl e p i) (kd e p j) (wn e p j) (vl e p j)
theorem cAddZ (h1:W128 i) (h2:W128 j):Cal Tryz.prog OQ 55 [fA E P,iA M,wA i,wA j] (z3 (addZ E P M i j)):=by
 refine fn_call TK MX Tryz.func55 rfl (by kernel_rfl) (by kernel_rfl) (by kernel_rfl) rfl rfl ?_
 conv=>whnf
 refine ⟨_,cOpZ h1 h2 fun E P m hF hm hi hj _ _=>cAddM hF hm (sm_word hF) (sm_word hF) (by decide),?_⟩
 conv=>whnf
 rfl
theorem cMulZ (h1:W128 i) (h2:W128 j):Cal Tryz.prog OQ 57 [fA E P,iA M,wA i,wA j] (z3 (mulZ E P M i j)):=by
 refine fn_call TK MX Tryz.func57 rfl (by kernel_rfl) (by kernel_rfl) (by kernel_rfl) rfl rfl ?_
 conv=>whnf
 refine ⟨_,cOpZ h1 h2 fun E P m hF hm hi hj _ _=>cMulM hF hm (sm_word hF) (sm_word hF) (by decide),?_⟩
 conv=>whnf
 rfl
theorem cDivZ (h1:W128 i) (h2:W128 j):Cal Tryz.prog OQ 58 [fA E P,iA M,wA i,wA j] (z3 (divZ E P M i j)):=by
 refine fn_call TK MX Tryz.func58 rfl (by kernel_rfl) (by kernel_rfl) (by kernel_rfl) rfl rfl ?_
 conv=>whnf
 refine ⟨_,cOpZ h1 h2 fun E P m hF hm hi hj k1 k2=>cDivM hF hm (sm_word hF) (sm_word hF) (by decide) (by have:=kd_cases E P i;omega) (by have:=kd_cases E P j;omega) (fun h=>vlNe h),?_⟩
 conv=>whnf
 rfl
end
def casR (E P E' P' m n:Nat):Nat×Nat:=if 4≤kd E P n then (nanw E' P',if kd E P n=5 then 1 else 0) else exaR E' P' m (kd E P n) (wn E P n) (vl E P n)
theorem cCast {E P E' P' m n:Nat} (hF:Fmt E P) (hF':Fmt E' P') (hm:m≤4) (hn:n<2^(E+P)):Cal Tryz.prog OQ 61 [fA E P,fA E' P',iA (m:Nat),wA n] (res3 (casR E P E' P' m n)):=by
 refine fn_call TK MX Tryz.func61 rfl (by kernel_rfl) (by kernel_rfl) (by kernel_rfl) rfl rfl ?_
 conv=>whnf
 refine ⟨_,cWith0 hF' hm,?_⟩
 conv=>whnf
 refine ⟨_,cWith1 hF hm (w128 hF hn),?_⟩;rw [if_pos hn]
 conv=>whnf
 refine ⟨_,cLook hF (fmt_n hF).2.2.2.2.2 (w128 hF hn),?_⟩
 conv=>whnf
 refine ⟨_,cSpecial1 hF' _ _ _,?_⟩
 conv=>whnf
 by_cases h:4≤kd E P n
 ·rw [show casR E P E' P' m n=_ from if_pos h,show decide (4≤wkind E P n)=true from dT h]
  conv=>whnf
  split<;>rfl
 ·rw [show casR E P E' P' m n=_ from if_neg h,show decide (4≤wkind E P n)=false from dF h]
  conv=>whnf
  refine ⟨_,cExactly hF' hm (sm_word hF) (by decide),?_⟩
  conv=>whnf
  rfl
theorem cDecode {E P n:Nat} (hF:Fmt E P) (hn:n<2^(E+P)):Cal Tryz.prog OQ 16 [fA E P,wA n] (.t [.g [.v (.int .i64 (kd E P n)),.v (.bool (wn E P n)),.v (.string (numText (vl E P n)))],iA 0]):=by
 refine fn_call TK MX Tryz.func16 rfl (by kernel_rfl) (by kernel_rfl) (by kernel_rfl) rfl rfl ?_
 conv=>whnf
 refine ⟨_,cWith1 (m:=0) hF (by decide) (w128 hF hn),?_⟩;rw [if_pos hn]
 conv=>whnf
 refine ⟨_,cLook hF (fmt_n hF).2.2.2.2.2 (w128 hF hn),?_⟩
 conv=>whnf
 refine ⟨_,cText (sm_word hF) (by decide),?_⟩
 conv=>whnf
 rfl
section
variable {E P m b:Nat} {q r:Rat} {K:Nat}
theorem cRoundF (hF:Fmt E P) (hm:m≤4) (sx:SmQ K q) (hK:K≤12000):Cal Tryz.prog OQ 38 [fA E P,iA (m:Nat),nA q] (res3 (rq E P m q)):=by
 refine fn_call TK MX Tryz.func38 rfl (by kernel_rfl) (by kernel_rfl) (by kernel_rfl) rfl rfl ?_
 conv=>whnf
 refine ⟨_,cWith0 hF hm,?_⟩
 conv=>whnf
 refine ⟨_,cRoundQ hF hm sx hK,?_⟩
 conv=>whnf
 rfl
def hasI (E P:Nat) (q:Rat):Bool:=decide ((q*(2:Rat)^(-(max (lgQ q) (1-(bias E:Int))-P+1))).den=1)
def hasB (E P:Nat) (q:Rat):Bool:=if q=0 then true else hasI E P q&&decide (cmpQ (absQ q) (grQ P (bias E))≤0)
theorem signZ (q:Rat):(q.num.sign==0)=decide (q=0):=by
 rw [Bool.eq_iff_iff];simp [Int.sign_eq_zero_iff_zero,Rat.num_eq_zero]
theorem cHasF (hF:Fmt E P) (sx:SmQ K q) (hK:K≤12000):Cal Tryz.prog OQ 87 [fA E P,nA q] (bA (hasB E P q)):=by
 have hb:=(fmt_n hF).2.2.2.2.2;have hP:=(fmt_n hF).2.2.2.1;refine fn_call TK MX Tryz.func87 rfl (by kernel_rfl) (by kernel_rfl) (by kernel_rfl) rfl rfl ?_;unfold hasB
 conv=>whnf
 refine ⟨_,cWith0 (m:=0) hF (by decide),?_⟩
 conv=>whnf
 refine ⟨_,cSign,?_⟩
 conv=>whnf
 rw [signZ]
 by_cases h:q=0
 ·rw [dT h,if_pos h]
  conv=>whnf
  rfl
 ·rw [dF h,if_neg h]
  conv=>whnf
  have hl:=(lg_is h).bound sx.absQ;refine ⟨_,cLogF sx (by omega) (fun e=>h (Rat.num_eq_zero.1 e)) (lg_is h),?_⟩
  conv=>whnf
  refine ⟨_,cStepM hF hb (by omega),?_⟩
  conv=>whnf
  rw [IntWalk.i64_in (0-(max (lgQ q) (1-(bias E:Int))-P+1)) (by omega),Int.zero_sub];refine ⟨_,cShiftF sx (by omega) (by omega) (by omega),?_⟩
  conv=>whnf
  refine ⟨_,cIsInt,?_⟩
  conv=>whnf
  rw [show decide ((q*(2:Rat)^(-(max (lgQ q) (1-(bias E:Int))-P+1))).den=1)=hasI E P q from rfl]
  cases hi:hasI E P q
  ·conv=>whnf
   rfl
  ·conv=>whnf
   refine ⟨_,cAbs,?_⟩
   conv=>whnf
   refine ⟨_,cGreatM hF hb,?_⟩
   conv=>whnf
   refine ⟨_,cCmp (K:=16000) (sx.absQ.mono (by omega)) (grQ_sm ⟨(fmt_n hF).2.2.1,hP⟩ hb) (by decide),?_⟩
   conv=>whnf
   rfl
end
section
variable {E P m b n:Nat} {q:Rat} {K:Nat}
def numAV (E P n:Nat):AV:=if wkind E P n≤2 then .t [nA (wvalK E P (bias E) n),iA 0] else .t [nA 0,iA 7]
theorem cNumber (hF:Fmt E P) (hn:n<2^(E+P)):Cal Tryz.prog OQ 218 [fA E P,wA n,iA 0] (numAV E P n):=by
 refine fn_call TK MX Tryz.func218 rfl (by kernel_rfl) (by kernel_rfl) (by kernel_rfl) (by unfold numAV;split<;>rfl) rfl ?_
 conv=>whnf
 refine ⟨_,cValue hF hn,?_⟩;unfold valR numAV
 by_cases h:wkind E P n≤2
 ·rw [if_pos h,if_pos h]
  conv=>whnf
  rfl
 ·rw [if_neg h,if_neg h]
  conv=>whnf
  rfl
theorem rq_lt (hF:Fmt E P):(rq E P m q).1<2^(E+P):=rnd_lt (fmt_n hF).1 (by have:=(fmt_n hF).2.2.1;omega) lg_is
theorem cNear (hF:Fmt E P) (hm:m≤4) (sx:SmQ K q) (hK:K≤12000):Cal Tryz.prog OQ 138 [fA E P,iA (m:Nat),nA q] (numAV E P (rq E P m q).1):=by
 refine fn_call TK MX Tryz.func138 rfl (by kernel_rfl) (by kernel_rfl) (by kernel_rfl) (by unfold numAV;split<;>rfl) rfl ?_
 conv=>whnf
 refine ⟨_,cRoundF hF hm sx hK,?_⟩
 conv=>whnf
 refine ⟨_,cNumber hF (rq_lt hF),?_⟩;unfold numAV
 by_cases h:wkind E P (rq E P m q).1≤2
 ·rw [if_pos h]
  conv=>whnf
  rfl
 ·rw [if_neg h]
  conv=>whnf
  rfl
end
/-! ### awake -/
section
variable {low high step:Rat} {c:Int} {o:Bool}
end
def stN (m n:Nat) (t:Rat):Nat:=endN m false n (decide (t.den=1)) (cmpQ ((t-(n:Nat))*2) 1)
theorem endN_st (m:Nat) (neg:Bool) (n:Nat) (t:Rat):endN m neg n (decide (t.den=1)) (cmpQ ((t-(n:Nat))*2) 1)=stN (modeN m neg) n t:=by
 unfold stN endN;rw [show modeN (modeN m neg) false=modeN m neg from rfl]
def szR (P b m:Nat) (q:Rat) (l:Int):Rat:=((stN m (rdN P b l q) (rdT P b l q):Nat):Rat)*(2:Rat)^(rdK P b l)
theorem szR_nonneg (P b m:Nat) (q:Rat) (l:Int):0≤szR P b m q l:=steps_nonneg _ _
def vR (P b m:Nat) (q:Rat) (l:Int):Rat:=if szR P b m q l≤grQ P b then szR P b m q l else if m=2∨m=4 then grQ P b else (2:Rat)^((b:Int)+1)
theorem vR_nonneg (P b m:Nat) (q:Rat) (l:Int):0≤vR P b m q l:=by
 unfold vR;split
 ·exact szR_nonneg _ _ _ _ _
 ·split
  ·exact grQ_nonneg _ _
  ·exact Rat.le_of_lt (p2_pos _)
theorem inf_wn {E P:Nat} (hP:1≤P) (s:Bool):wn E P (infw E P s)=s:=by
 have e:infw E P s=wordN E P s 0 (2^E-1):=by unfold infw wordN;rw [Nat.zero_add]
 rw [e]
 exact wordN_wn _ (by have:=infZ_lt (E:=E) hP;unfold infZ at this;omega)
theorem rq_wval {E P m:Nat} {q:Rat} (hE:2≤E) (hP:1≤P) (h0:q≠0) :
  wval E P (bias E) (rq E P m q).1=(if decide (q.num<0)=true then -1 else 1)*vR P (bias E) (modeN m (decide (q.num<0))) q (lgQ q):=by
 have hl:=lg_is h0;unfold rq rnd;rw [if_neg h0];have hN:=endN_le (P:=P) (b:=bias E) (m:=m) hl (decide (q.num<0)) (decide ((rdT P (bias E) (lgQ q) q).den=1)) (cmpQ ((rdT P (bias E) (lgQ q) q-(rdN P (bias E) (lgQ q) q:Nat))*2) 1);have hge:rdF (bias E) (lgQ q)=0∨2^(P-1)≤endN m (decide (q.num<0)) (rdN P (bias E) (lgQ q) q) (decide ((rdT P (bias E) (lgQ q) q).den=1)) (cmpQ ((rdT P (bias E) (lgQ q) q-(rdN P (bias E) (lgQ q) q:Nat))*2) 1):=by
  rcases rdN_ge (b:=bias E) hP hl with h | h
  ·exact .inl h
  ·exact .inr (Nat.le_trans h hN.2)
 have e:=endN_st m (decide (q.num<0)) (rdN P (bias E) (lgQ q) q) (rdT P (bias E) (lgQ q) q);have hk:rdK P (bias E) (lgQ q)=2-((bias E:Nat):Int)-P+(rdF (bias E) (lgQ q):Nat):=rfl;unfold vR
 by_cases c:szR P (bias E) (modeN m (decide (q.num<0))) q (lgQ q)≤grQ P (bias E)
 ·rw [if_pos c];have c':=c;unfold szR at c';rw [←e,hk] at c'
  have:=round_val (E:=E) (m:=m) (by omega) hP hl _ rfl (by rw [hk];exact c') (end_fits (by omega) hP hN.1 hge c')
  rw [this.1,e];rfl
 ·rw [if_neg c];have c':=c;unfold szR at c';rw [←e,hk] at c';unfold roundR endR;rw [if_neg c']
  by_cases d:modeN m (decide (q.num<0))=2∨modeN m (decide (q.num<0))=4
  ·rw [if_pos d,if_pos d];have hb:1≤bias E:=by
    have h4:=two_bias (E:=E) (by omega)
    have:2^2≤2^E:=Nat.pow_le_pow_right (by decide) hE
    omega
   have hp:2^P=2*2^(P-1):=by rw [←Nat.pow_succ'];congr 1;omega
   have hp1:0<2^(P-1):=Nat.pow_pos (by decide)
   show wval E P (bias E) (wordN E P _ (2^P-1) (2*bias E-1))=_
   rw [wordN_val hP _ (great_fits hE hP) (by omega) (.inr (by omega))];unfold grQ;rw [show 2-((bias E:Nat):Int)-P+((2*bias E-1:Nat):Int)=((bias E:Nat):Int)-P+1 by omega]
  ·rw [if_neg d,if_neg d]
   show wval E P (bias E) (infw E P _)=_
   rw [wval_inf hE hP (inf_kind hP _),inf_wn hP]
   split<;>grind
theorem rq_zero (E P m:Nat):rq E P m 0=(0,0):=by unfold rq rnd;rw [if_pos rfl]
section
variable {E P m:Nat} {q r:Rat}
theorem rq_eq (h0:q≠0):rq E P m q=endR E P (bias E) m (decide (q.num<0)) (rdN P (bias E) (lgQ q) q) (rdF (bias E) (lgQ q)) (decide ((rdT P (bias E) (lgQ q) q).den=1)) (cmpQ ((rdT P (bias E) (lgQ q) q-(rdN P (bias E) (lgQ q) q:Nat))*2) 1) (decide (lgQ q<1-((bias E:Nat):Int))):=by
 unfold rq rnd;rw [if_neg h0];rfl
theorem szR_eq (l:Int):szR P (bias E) (modeN m (decide (q.num<0))) q l=((endN m (decide (q.num<0)) (rdN P (bias E) l q) (decide ((rdT P (bias E) l q).den=1)) (cmpQ ((rdT P (bias E) l q-(rdN P (bias E) l q:Nat))*2) 1):Nat):Rat)*(2:Rat)^(2-((bias E:Nat):Int)-P+(rdF (bias E) l:Nat)):=by
 unfold szR;rw [endN_st];rfl
abbrev szQ (E P m:Nat) (q:Rat):Rat:=szR P (bias E) (modeN m (decide (q.num<0))) q (lgQ q)
theorem rq_big (h0:q≠0) (h:¬ szQ E P m q≤grQ P (bias E)):(rq E P m q).2=20∧(¬ (modeN m (decide (q.num<0))=2∨modeN m (decide (q.num<0))=4)→(rq E P m q).1=infw E P (decide (q.num<0))):=by
 rw [rq_eq h0];unfold endR;rw [szQ,szR_eq] at h;rw [if_neg h]
 by_cases c:modeN m (decide (q.num<0))=2∨modeN m (decide (q.num<0))=4
 ·rw [if_pos c];exact ⟨rfl,fun k=>absurd c k⟩
 ·rw [if_neg c];exact ⟨rfl,fun _=>rfl⟩
theorem sgn_abs {x:Rat} (h:0≤x) (s:Bool):absQ ((if s=true then -1 else 1)*x)=x:=absQ_signed h s
theorem rq_kind (hE:2≤E) (hP:1≤P) (h:q=0∨szQ E P m q≤grQ P (bias E)∨modeN m (decide (q.num<0))=2∨modeN m (decide (q.num<0))=4):wkind E P (rq E P m q).1≤2:=by
 by_cases h0:q=0
 ·subst h0;rw [rq_zero];refine kind_of_le hE hP ?_;rw [wval_zero,absQ_nonneg Rat.le_refl];exact grQ_nonneg _ _
 ·refine kind_of_le hE hP ?_;rw [rq_wval hE hP h0,sgn_abs (vR_nonneg _ _ _ _ _)];unfold vR
  split
  ·assumption
  ·rename_i c
   rcases h with h | h | h
   ·exact absurd h h0
   ·exact absurd h c
   ·rw [if_pos h];exact Rat.le_refl
theorem rq_kd (hE:2≤E) (hP:1≤P):wkind E P (rq E P m q).1≤3:=by
 by_cases h:q=0∨szQ E P m q≤grQ P (bias E)∨modeN m (decide (q.num<0))=2∨modeN m (decide (q.num<0))=4
 ·have:=rq_kind hE hP h;omega
 ·have h0:q≠0:=fun e=>h (.inl e);rw [(rq_big h0 (fun k=>h (.inr (.inl k)))).2 (fun k=>h (.inr (.inr k))),inf_kind hP]
  exact Int.le_refl _
theorem cmp_zero {a b:Rat} (h:cmpQ a b=0):a=b:=by
 unfold cmpQ at h
 by_cases h1:a<b
 ·rw [if_pos h1] at h;cases h
 ·rw [if_neg h1] at h
  by_cases h2:b<a
  ·rw [if_pos h2] at h;cases h
  ·grind
end
theorem isRoot_shift {T s:Nat} (j:Nat) (h:IsRoot T s):IsRoot (T/4^j) (s/2^j):=by
 have h2:0<2^j:=Nat.pow_pos (by decide);have h4:4^j=2^j*2^j:=by rw [show (4:Nat)=2*2 from rfl,Nat.mul_pow]
 have a1:=Nat.div_mul_le_self s (2^j);have a2:s+1≤(s/2^j+1)*2^j:=Nat.lt_mul_of_div_lt (Nat.lt_succ_self (s/2^j)) h2
 constructor
 ·rw [Nat.le_div_iff_mul_le (by rw [h4];exact Nat.mul_pos h2 h2),h4];refine Nat.le_trans ?_ h.1
  have:=Nat.mul_le_mul a1 a1
  have e:s/2^j*(s/2^j)*(2^j*2^j)=s/2^j*2^j*(s/2^j*2^j):=by grind
  omega
 ·rw [Nat.div_lt_iff_lt_mul (by rw [h4];exact Nat.mul_pos h2 h2),h4];refine Nat.lt_of_lt_of_le h.2 ?_
  have:=Nat.mul_le_mul a2 a2
  have e:(s/2^j+1)*(s/2^j+1)*(2^j*2^j)=(s/2^j+1)*2^j*((s/2^j+1)*2^j):=by grind
  omega
theorem p2_nat4 (j:Nat):(2:Rat)^(2*(j:Int))=((4^j:Nat):Rat):=by
 have:(2*(j:Int))=((2*j:Nat):Int):=by omega
 rw [this,p2_nat,Nat.pow_mul]
theorem nat_floor {t:Rat} (h:0≤t):((t.floor.toNat:Nat):Rat)≤t∧t<((t.floor.toNat:Nat):Rat)+1:=by
 have h1:=Rat.floor_le t;have h2:=Rat.lt_floor_add_one t;have h0:0≤t.floor:=by rw [Rat.le_floor_iff];exact h
 rw [Rat.intCast_add] at h2;have i1:((1:Int):Rat)=1:=rfl;rw [i1] at h2;have e:((t.floor.toNat:Nat):Int)=t.floor:=Int.toNat_of_nonneg h0;have e2:((t.floor.toNat:Nat):Rat)=((t.floor:Int):Rat):=by rw [←e];rfl
 rw [e2];exact ⟨h1,h2⟩
theorem floor_shift4 {t:Rat} (h:0≤t) (j:Nat):(t*(2:Rat)^(2*(j:Int))).floor.toNat/4^j=t.floor.toNat:=by
 have hp:=p2_pos (2*(j:Int));obtain ⟨a1,a2⟩:=nat_floor (t:=t*(2:Rat)^(2*(j:Int))) (Rat.mul_nonneg h (Rat.le_of_lt hp));obtain ⟨b1,b2⟩:=nat_floor h;generalize (t*(2:Rat)^(2*(j:Int))).floor.toNat=T at *
 generalize t.floor.toNat=z at *
 rw [p2_nat4] at *
 have h4:0<4^j:=Nat.pow_pos (by decide);generalize 4^j=u at *
 have c1:z*u≤T:=by
  have k1:((z*u:Nat):Rat)≤t*((u:Nat):Rat):=by rw [Rat.natCast_mul];exact Rat.mul_le_mul_of_nonneg_right b1 (Rat.le_of_lt hp)
  have k2:((z*u:Nat):Rat)<((T:Nat):Rat)+1:=by grind
  have k3:((z*u:Nat):Rat)<((T+1:Nat):Rat):=by rw [Rat.natCast_add];exact k2
  rw [Rat.natCast_lt_natCast] at k3
  omega
 have c2:T<(z+1)*u:=by
  have k1:t*((u:Nat):Rat)<(((z+1)*u:Nat):Rat):=by
   rw [Rat.natCast_mul,Rat.natCast_add];exact (Rat.mul_lt_mul_right hp).2 b2
  have k2:((T:Nat):Rat)<(((z+1)*u:Nat):Rat):=by grind
  rwa [Rat.natCast_lt_natCast] at k2
 apply Nat.le_antisymm
 ·exact Nat.le_of_lt_succ ((Nat.div_lt_iff_lt_mul h4).2 c2)
 ·exact (Nat.le_div_iff_mul_le h4).2 c1
def rtK (bits:Int) (q:Rat):Int:=lgQ q/2-inR bits+1
noncomputable def rtS (bits:Int) (q:Rat):Nat:=isq (q*(2:Rat)^(-2*rtK bits q)).floor.toNat
noncomputable def rtDn (bits:Int) (q:Rat):Rat:=if q=0 then 0 else ((rtS bits q:Nat):Rat)*(2:Rat)^(rtK bits q)
theorem rtDn_floor {bits:Int} {q:Rat} (h:0<q) (hk:rtK bits q≤0):(rtDn bits q).floor=((isq q.floor.toNat:Nat):Int):=by
 obtain ⟨j,hj⟩:∃ j:Nat,rtK bits q = -(j:Int):=⟨(-rtK bits q).toNat,by omega⟩;unfold rtDn rtS;rw [if_neg (by grind),hj,nat_floor_half];have e : -2 * -(j:Int)=2*(j:Int):=by omega
 rw [e]
 congr 1
 have h1:=isRoot_shift j (isq_is (q*(2:Rat)^(2*(j:Int))).floor.toNat);rw [floor_shift4 (Rat.le_of_lt h)] at h1
 exact (isq_eq h1).symm
theorem isq_lt {T P:Nat} (h:T<4^P):isq T<2^P:=by
 refine Nat.lt_of_not_le (fun k => ?_)
 have:=(isq_is T).1
 have h2:=Nat.mul_le_mul k k;rw [←Nat.mul_pow] at h2
 have:(2*2:Nat)^P=4^P:=rfl
 omega
theorem isq_ge {T P:Nat} (h:4^P≤T):2^P≤isq T:=by
 refine Nat.le_of_not_lt (fun k => ?_)
 have:=(isq_is T).2
 have h2:=Nat.mul_le_mul (show isq T+1≤2^P from k) (show isq T+1≤2^P from k);rw [←Nat.mul_pow] at h2
 have:(2*2:Nat)^P=4^P:=rfl
 omega
section
variable {P b:Nat} {x:Rat} {l:Int}
def rtT (P b:Nat) (l:Int) (x:Rat):Rat:=x*(2:Rat)^(-2*rdK P b l)
noncomputable def rtN (P b:Nat) (l:Int) (x:Rat):Nat:=isq (rtT P b l x).floor.toNat
theorem rtT_pos (h:0<x):0<rtT P b l x:=Rat.mul_pos h (p2_pos _)
theorem rdK_ge (P b:Nat) (l:Int):l-P+1≤rdK P b l:=by unfold rdK rdF;omega
theorem rtT_lt {L:Int} (h:IsLog x L) (hl:l=L/2):rtT P b l x<(2:Rat)^(2*(P:Int)):=by
 have h1:rtT P b l x<(2:Rat)^(L+1)*(2:Rat)^(-2*rdK P b l):=(Rat.mul_lt_mul_right (p2_pos _)).2 h.2;rw [←p2_add] at h1;have h2:(2:Rat)^(L+1 + -2*rdK P b l)≤(2:Rat)^(2*(P:Int)):=p2_mono (by have:=rdK_ge P b l;omega)
 exact ltle h1 h2
theorem rtT_ge {L:Int} (h:IsLog x L) (hl:l=L/2) (hP:1≤P) (hf:rdF b l≠0):(2:Rat)^(2*((P-1:Nat):Int))≤rtT P b l x:=by
 have h1:(2:Rat)^L*(2:Rat)^(-2*rdK P b l)≤rtT P b l x:=Rat.mul_le_mul_of_nonneg_right h.1 (Rat.le_of_lt (p2_pos _));rw [←p2_add] at h1;refine Rat.le_trans (p2_mono ?_) h1;unfold rdK;unfold rdF at hf ⊢
 omega
theorem rtN_lt {L:Int} (h:IsLog x L) (hl:l=L/2):rtN P b l x<2^P:=by
 refine isq_lt ?_;obtain ⟨a1,a2⟩:=nat_floor (Rat.le_of_lt (rtT_pos (P:=P) (b:=b) (l:=l) h.pos));have h1:=rtT_lt (P:=P) (b:=b) h hl;rw [p2_nat4] at h1
 have:(((rtT P b l x).floor.toNat:Nat):Rat)<((4^P:Nat):Rat):=by grind
 rwa [Rat.natCast_lt_natCast] at this
theorem rtN_ge {L:Int} (h:IsLog x L) (hl:l=L/2) (hP:1≤P):rdF b l=0∨2^(P-1)≤rtN P b l x:=by
 by_cases hf:rdF b l=0
 ·exact .inl hf
 ·right
  refine isq_ge ?_;obtain ⟨a1,a2⟩:=nat_floor (Rat.le_of_lt (rtT_pos (P:=P) (b:=b) (l:=l) h.pos));have h1:=rtT_ge (P:=P) (b:=b) h hl hP hf;rw [p2_nat4] at h1
  have:((4^(P-1):Nat):Rat)<(((rtT P b l x).floor.toNat+1:Nat):Rat):=by rw [Rat.natCast_add];have e:((1:Nat):Rat)=1:=rfl;grind
  rw [Rat.natCast_lt_natCast] at this
  omega
theorem rt_log {L:Int} (hx:IsLog x L) (hl:l=L/2) (bits:Int) (hb:(P:Int)≤inR bits):rtK bits (rtT P b l x)≤0:=by
 have h0:=rtT_pos (P:=P) (b:=b) (l:=l) hx.pos;have h1:=rtT_lt (P:=P) (b:=b) hx hl;have h2:=(lg_is (q:=rtT P b l x) (by grind)).1;rw [absQ_nonneg (Rat.le_of_lt h0)] at h2;have h3:(2:Rat)^(lgQ (rtT P b l x))<(2:Rat)^(2*(P:Int)):=lelt h2 h1;rw [p2_lt_iff] at h3;unfold rtK
 omega
end
section
variable {P b m:Nat} {x:Rat} {l:Int}
noncomputable def rtE (P b:Nat) (l:Int) (x:Rat):Bool:=decide (((rtN P b l x*rtN P b l x:Nat):Rat)=rtT P b l x)
noncomputable def rtC (P b:Nat) (l:Int) (x:Rat):Int:=cmpQ (rtT P b l x*4) (((2*rtN P b l x+1:Nat):Rat)*((2*rtN P b l x+1:Nat):Rat))
end
section
variable {q:Rat} {K:Nat} {bits:Int}
theorem shr1 (L:Int):L.fdiv (2^min (1:Int).toNat IntKind.i64.bits)=L/2:=by
 show L.fdiv 2=L/2
 exact Int.fdiv_eq_ediv_of_nonneg _ (by decide)
theorem num_posN (h:0<q):0<q.num:=by
 have h0:0≤q.num:=Rat.num_nonneg.2 (Rat.le_of_lt h);have h1:q.num≠0:=fun e=>by rw [Rat.num_eq_zero] at e;subst e;exact Rat.lt_irrefl h
 omega
theorem sgn_pos (h:0<q):q.num.sign=1:=Int.sign_eq_one_of_pos (num_posN h)
theorem rt_pos1 (h:0<q):0<(q*(2:Rat)^(-2*rtK bits q)).floor.toNat:=by
 have hl:=(lg_is (q:=q) (by grind)).1;rw [absQ_nonneg (Rat.le_of_lt h)] at hl;have h1:(2:Rat)^(lgQ q)*(2:Rat)^(-2*rtK bits q)≤q*(2:Rat)^(-2*rtK bits q):=Rat.mul_le_mul_of_nonneg_right hl (Rat.le_of_lt (p2_pos _));rw [←p2_add] at h1;have h2:(2:Rat)^(0:Int)≤(2:Rat)^(lgQ q + -2*rtK bits q):=p2_mono (by have:=inR_eq bits;unfold rtK;omega);have h3:(1:Rat)≤q*(2:Rat)^(-2*rtK bits q):=by
  have e:(2:Rat)^(0:Int)=1:=Rat.zpow_zero _;rw [e] at h2;exact Rat.le_trans h2 h1
 have h4:(1:Int)≤(q*(2:Rat)^(-2*rtK bits q)).floor:=by rw [Rat.le_floor_iff];exact h3
 omega
theorem rtK_bound (sx:SmQ K q) (h:0<q) : -(K:Int)-4001≤rtK bits q∧rtK bits q≤K:=by
 have h1:=(lg_is (q:=q) (by grind)).bound sx.absQ
 have:=inR_eq bits
 unfold rtK;omega
theorem floor_nat (h:0≤q):q.floor.toNat=q.num.natAbs/q.den:=by
 have h0:0≤q.num:=Rat.num_nonneg.2 h;rw [Rat.floor_def];have e:q.num=((q.num.natAbs:Nat):Int):=by omega
 generalize q.num.natAbs=a at *
 rw [e]
 show ((a:Int)/(q.den:Int)).toNat=_
 rw [←Int.natCast_ediv]
 rfl
theorem rtDn_sm (sx:SmQ K q) (h:0≤q) (hK:K≤100000):SmQ (2*K+300000) (rtDn bits q):=by
 unfold rtDn
 split
 ·exact SmQ.zero _ (by omega)
 ·rename_i h0
  have hp:0<q:=by grind
  have hk:=rtK_bound (bits:=bits) sx hp;have st:SmQ (K+250000) (q*(2:Rat)^(-2*rtK bits q)):=(sx.mul_p2 (-2*rtK bits q) 250000 (by omega));have hT0:0≤q*(2:Rat)^(-2*rtK bits q):=Rat.mul_nonneg h (Rat.le_of_lt (p2_pos _));have sS:Sm (K+250000) (q*(2:Rat)^(-2*rtK bits q)).floor.toNat:=by rw [floor_nat hT0];exact st.1.of_le (Nat.div_le_self _ _)
  exact ((SmQ.nat (by omega) (isq_sm sS)).mul_p2 (rtK bits q) (K+5000) (by omega)).mono (by omega)
theorem cRtDown (sx:SmQ K q) (h:0≤q) (hK:K≤100000):Cal Tryz.prog OQ 204 [nA q,iA bits] (.t [nA (rtDn bits q),iA 0]):=by
 refine fn_call TK MX Tryz.func204 rfl (by kernel_rfl) (by kernel_rfl) (by kernel_rfl) rfl rfl ?_
 conv=>whnf
 refine ⟨.t [nA (rtDn bits q),iA 0],?_,?_⟩
 ·by_cases h0:q=0
  ·subst h0;refine fn_call TK MX Tryz.func278 rfl (by kernel_rfl) (by kernel_rfl) (by kernel_rfl) rfl rfl ?_;rw [show rtDn bits 0=0 from if_pos rfl]
   conv=>whnf
   refine ⟨_,cSign,?_⟩
   conv=>whnf
   rfl
  ·have hp:0<q:=by grind
   have hk:=rtK_bound (bits:=bits) sx hp;have hl:=(lg_is h0).bound sx.absQ;have hr:=inR_eq bits;have st:SmQ (K+250000) (q*(2:Rat)^(-2*rtK bits q)):=(sx.mul_p2 (-2*rtK bits q) 250000 (by omega));have hT0:0≤q*(2:Rat)^(-2*rtK bits q):=Rat.mul_nonneg h (Rat.le_of_lt (p2_pos _));have hn:=rt_pos1 (bits:=bits) hp;have sS:Sm (K+250000) (q*(2:Rat)^(-2*rtK bits q)).floor.toNat:=by rw [floor_nat hT0];exact st.1.of_le (Nat.div_le_self _ _)
   refine fn_call TK MX Tryz.func278 rfl (by kernel_rfl) (by kernel_rfl) (by kernel_rfl) rfl rfl ?_
   conv=>whnf
   refine ⟨_,cSign,?_⟩;rw [sgn_pos hp]
   conv=>whnf
   refine ⟨_,cNlog sx (by omega) h0,?_⟩
   conv=>whnf
   refine ⟨_,cInRange,?_⟩
   conv=>whnf
   rw [shr1,IntWalk.i64_in (lgQ q/2-inR bits) (by omega),IntWalk.i64_in (lgQ q/2-inR bits+1) (by omega)];rw [show lgQ q/2-inR bits+1=rtK bits q from rfl];generalize hkk:rtK bits q=k at *
   rw [IntWalk.i64_in (-2*k) (by omega)];refine ⟨_,cShifted sx (by omega) (by omega) (by omega),?_⟩
   conv=>whnf
   refine ⟨_,cWholeD st (by omega),?_⟩;have hng:decide ((q*(2:Rat)^(-2*k)).num<0)=false:=dF (by have:=Rat.num_nonneg.2 hT0;omega);have hT:(q*(2:Rat)^(-2*k)).num.natAbs/(q*(2:Rat)^(-2*k)).den=(q*(2:Rat)^(-2*k)).floor.toNat:=(floor_nat hT0).symm;have hres:rtDn bits q=((isq (q*(2:Rat)^(-2*k)).floor.toNat:Nat):Rat)*(2:Rat)^k:=by
    unfold rtDn rtS;rw [if_neg h0,hkk]
   rw [hng,hT,mkq_nat,hres];generalize (q*(2:Rat)^(-2*k)).floor.toNat=T at *
   conv=>whnf
   refine ⟨_,cNatRoot (n:=T) sS (by omega) hn,?_⟩
   conv=>whnf
   refine ⟨_,cOf (n:=1) (by decide),?_⟩
   conv=>whnf
   refine ⟨_,cMade (K:=K+250000) (isq_sm sS) (Nat.one_lt_two_pow (by omega)) (by omega) (by decide),?_⟩;rw [mkq_nat];have s2:SmQ (K+250000) ((isq T:Nat):Rat):=SmQ.nat (by omega) (isq_sm sS)
   conv=>whnf
   refine ⟨_,cShifted s2 (by omega) (by omega) (by omega),?_⟩
   conv=>whnf
   rfl
 ·conv=>whnf
  rfl
end
section
variable {E P m:Nat} {q:Rat} {K:Nat}
noncomputable def rootR (E P m:Nat) (q:Rat):Nat×Nat:=if q=0 then (sgb E P false,0) else
 endR E P (bias E) m false (rtN P (bias E) (lgQ q/2) q) (rdF (bias E) (lgQ q/2)) (rtE P (bias E) (lgQ q/2) q) (rtC P (bias E) (lgQ q/2) q) (decide (lgQ q/2<1-((bias E:Nat):Int)))
theorem lg_pos (h:0<q):IsLog q (lgQ q):=by
 have:=lg_is (q:=q) (by grind)
 rwa [absQ_nonneg (Rat.le_of_lt h)] at this
theorem cmp_eq0 (a b:Rat):(cmpQ a b==0)=decide (a=b):=by
 rw [Bool.eq_iff_iff,beq_iff_eq,decide_eq_true_iff]
 constructor
 ·exact cmp_zero
 ·rintro rfl;exact cmpQ_self _
theorem cRootM (hF:Fmt E P) (hm:m≤4) (sx:SmQ K q) (h:0≤q) (hK:K≤12000):Cal Tryz.prog OQ 133 [mA E P m (bias E:Nat),nA q] (resA (rootR E P m q)):=by
 refine fn_call TK MX Tryz.func133 rfl (by kernel_rfl) (by kernel_rfl) (by kernel_rfl) rfl rfl ?_;have p:=fmt_n hF;unfold rootR
 conv=>whnf
 refine ⟨_,cSign,?_⟩
 conv=>whnf
 rw [signZ]
 by_cases h0:q=0
 ·rw [dT h0,if_pos h0]
  conv=>whnf
  refine ⟨_,cZero hF,?_⟩
  conv=>whnf
  rfl
 ·have hp:0<q:=by grind
  have hL:=lg_pos hp;have hl:=(lg_is h0).bound sx.absQ;rw [dF h0,if_neg h0]
  conv=>whnf
  refine ⟨_,cLogF sx (by omega) (fun e=>h0 (Rat.num_eq_zero.1 e)) (lg_is h0),?_⟩
  conv=>whnf
  rw [shr1];refine ⟨_,cStepM hF (by omega) (by omega),?_⟩;rw [rdK_max];have hn:=rtN_lt (P:=P) (b:=bias E) hL rfl;have hg:=rtN_ge (P:=P) (b:=bias E) hL rfl (by omega);have hfl:=rtDn_floor (bits:=(P:Int)+4) (rtT_pos (P:=P) (b:=bias E) (l:=lgQ q/2) hp) (rt_log hL rfl _ (by unfold inR;split<;>split<;>omega));have hk1:=rdK_ge P (bias E) (lgQ q/2);have hk2:rdK P (bias E) (lgQ q/2)≤8000 ∧ -8000≤rdK P (bias E) (lgQ q/2):=by unfold rdK rdF;omega
  have hf:rdF (bias E) (lgQ q/2)≤15000:=by unfold rdF;omega
  have ek:rdK P (bias E) (lgQ q/2)=2-((bias E:Nat):Int)-P+(rdF (bias E) (lgQ q/2):Nat):=rfl;have eN:rtN P (bias E) (lgQ q/2) q=isq (rtT P (bias E) (lgQ q/2) q).floor.toNat:=rfl;have eE:rtE P (bias E) (lgQ q/2) q=decide (((rtN P (bias E) (lgQ q/2) q*rtN P (bias E) (lgQ q/2) q:Nat):Rat)=rtT P (bias E) (lgQ q/2) q):=rfl;have eC:rtC P (bias E) (lgQ q/2) q=cmpQ (rtT P (bias E) (lgQ q/2) q*4) (((2*rtN P (bias E) (lgQ q/2) q+1:Nat):Rat)*((2*rtN P (bias E) (lgQ q/2) q+1:Nat):Rat)):=rfl;have eT:q*(2:Rat)^(-2*rdK P (bias E) (lgQ q/2))=rtT P (bias E) (lgQ q/2) q:=rfl;have sT:SmQ 32000 (rtT P (bias E) (lgQ q/2) q):=(sx.mul_p2 (-2*rdK P (bias E) (lgQ q/2)) 20000 (by omega)).mono (by omega);have hT0:=Rat.le_of_lt (rtT_pos (P:=P) (b:=bias E) (l:=lgQ q/2) hp);rw [←eN] at hfl;generalize rdK P (bias E) (lgQ q/2)=k at *
  generalize rtC P (bias E) (lgQ q/2) q=cc at *
  generalize rtE P (bias E) (lgQ q/2) q=ex at *
  generalize rtT P (bias E) (lgQ q/2) q=t at *
  generalize rtN P (bias E) (lgQ q/2) q=n at *
  generalize rdF (bias E) (lgQ q/2)=f at *
  conv=>whnf
  rw [IntWalk.i64_in (-2*k) (by omega)];refine ⟨_,cShiftF sx (by omega) (by omega) (by omega),?_⟩;rw [eT]
  conv=>whnf
  rw [IntWalk.i64_in ((P:Int)+4) (by omega)];refine ⟨_,cRtDown sT hT0 (by decide),?_⟩
  conv=>whnf
  refine ⟨_,cFloor (rtDn_sm sT hT0 (by decide)) (by decide),?_⟩;rw [hfl,show (((n:Nat):Int):Rat)=((n:Nat):Rat) from rfl];have hn3:n<2^113:=Nat.lt_of_lt_of_le hn (Nat.pow_le_pow_right (by decide) (by omega));have sn:SmQ 113 ((n:Nat):Rat):=SmQ.nat (by decide) hn3;have e1:((n:Nat):Rat)*(2:Rat)^(1:Int)+((1:Int):Rat)=((2*n+1:Nat):Rat):=by
   rw [Rat.natCast_add,Rat.natCast_mul,Rat.zpow_one];have a1:((1:Int):Rat)=1:=rfl;have a2:((1:Nat):Rat)=1:=rfl;have a3:((2:Nat):Rat)=2:=rfl;rw [a1,a2,a3];grind
  have sh:SmQ 115 ((2*n+1:Nat):Rat):=SmQ.nat (by decide) (by have:2^115=4*2^113:=(by decide);omega)
  conv=>whnf
  refine ⟨_,cShiftF (k:=1) sn (by decide) (by decide) (by decide),?_⟩
  conv=>whnf
  refine ⟨_,cInt (n:=1) (by decide) (by decide),?_⟩
  conv=>whnf
  refine ⟨_,cAdd (K:=200) ((sn.mul_p2 1 2 (by decide)).mono (by decide)) (SmQ.int (n:=1) (by decide) (by decide)) (by decide),?_⟩;rw [e1];have e4:t*(2:Rat)^(2:Int)=t*4:=by
   have:(2:Rat)^(2:Int)=4:=by decide +kernel
   rw [this]
  have e5:((n:Nat):Rat)*((n:Nat):Rat)=((n*n:Nat):Rat):=(Rat.natCast_mul _ _).symm;refine ⟨_,cMul sn sn (by decide),?_⟩;rw [e5]
  conv=>whnf
  refine ⟨_,cCmp (K:=32000) ((SmQ.nat (K:=226) (by decide) (by have:=Nat.mul_lt_mul'' hn3 hn3;exact Nat.lt_of_lt_of_le this (by decide))).mono (by decide)) sT (by decide),?_⟩
  conv=>whnf
  rw [cmp_eq0,←eE];refine ⟨_,cShiftF (k:=2) sT (by decide) (by decide) (by decide),?_⟩;rw [e4]
  conv=>whnf
  refine ⟨_,cMul sh sh (by decide),?_⟩
  conv=>whnf
  refine ⟨_,cCmp (K:=40000) ((e4 ▸ sT.mul_p2 2 3 (by decide)).mono (by decide)) ((sh.mul sh).mono (by decide)) (by decide),?_⟩;rw [←eC]
  conv=>whnf
  refine ⟨_,cNormalF (by omega),?_⟩
  conv=>whnf
  rw [ek];refine ⟨_,cEnd hF hm hn hf hg (by rw [eC];exact cmp_three _ _),?_⟩
  conv=>whnf
  rfl
end
section
variable {E P m b n f:Nat} {q:Rat} {K:Nat}
theorem num_negI:q.num<0↔q<0:=by
 have:=Rat.num_nonneg (q:=q)
 rw [←Int.not_le,this,Rat.not_le]
theorem cRootF (hF:Fmt E P) (hm:m≤4) (sx:SmQ K q) (hK:K≤12000):Cal Tryz.prog OQ 217 [fA E P,iA (m:Nat),nA q] (if q<0 then .t [wA 0,iA 0,iA 9] else res3 (rootR E P m q)):=by
 refine fn_call TK MX Tryz.func217 rfl (by kernel_rfl) (by kernel_rfl) (by kernel_rfl) (by split<;>rfl) rfl ?_
 conv=>whnf
 refine ⟨_,cWith0 hF hm,?_⟩
 conv=>whnf
 refine ⟨_,cSign,?_⟩
 conv=>whnf
 by_cases h:q<0
 ·rw [dT (show q.num.sign<0 from Int.sign_neg_iff.2 (num_negI.2 h)),if_pos h]
  conv=>whnf
  rfl
 ·have h0:0≤q:=Rat.not_lt.1 h;rw [dF (show ¬ q.num.sign<0 from fun k=>h (num_negI.1 (Int.sign_neg_iff.1 k))),if_neg h]
  conv=>whnf
  refine ⟨_,cRootM hF hm sx h0 hK,?_⟩
  conv=>whnf
  rfl
theorem cNumberErr {E P:Int} {n:Nat} {e:Int} (he:e≠0):Cal Tryz.prog OQ 218 [fA E P,wA n,iA e] (.t [nA 0,iA e]):=by
 refine fn_call TK MX Tryz.func218 rfl (by kernel_rfl) (by kernel_rfl) (by kernel_rfl) rfl rfl ?_
 conv=>whnf
 rw [show (e != 0)=true from bne_iff_ne.2 he]
 conv=>whnf
 rfl
theorem cNearRootNeg (hF:Fmt E P) (hm:m≤4) (sx:SmQ K q) (h:q<0) (hK:K≤12000):Cal Tryz.prog OQ 136 [fA E P,iA (m:Nat),nA q] (.t [nA 0,iA 9]):=by
 have hr:=cRootF hF hm sx hK;rw [if_pos h] at hr;refine fn_call TK MX Tryz.func136 rfl (by kernel_rfl) (by kernel_rfl) (by kernel_rfl) rfl rfl ?_
 conv=>whnf
 refine ⟨_,hr,?_⟩
 conv=>whnf
 refine ⟨_,cNumberErr (e:=9) (by decide),?_⟩
 conv=>whnf
 rfl
theorem endN_two (m:Nat) (neg:Bool) (N:Nat) (is:Bool) (mid:Int):endN m neg N is mid=N∨endN m neg N is mid=N+1:=by
 unfold endN
 split<;>simp
theorem rootR_lt (hF:Fmt E P) (hq:0≤q):(rootR E P m q).1<2^(E+P):=by
 have p:=fmt_n hF;have hE:=p.1;have hP:1≤P:=by have:=p.2.2.1;omega
 unfold rootR
 split
 ·exact Nat.pow_pos (by decide)
 ·rename_i h0
  have hp:0<q:=by grind
  have hl:=rtN_lt (P:=P) (b:=bias E) (l:=lgQ q/2) (lg_pos hp) rfl;have hg:=rtN_ge (P:=P) (b:=bias E) (l:=lgQ q/2) (lg_pos hp) rfl hP;generalize rtN P (bias E) (lgQ q/2) q=N at *
  have ht:=endN_two m false N (rtE P (bias E) (lgQ q/2) q) (rtC P (bias E) (lgQ q/2) q);have hN:endN m false N (rtE P (bias E) (lgQ q/2) q) (rtC P (bias E) (lgQ q/2) q)≤2^P:=by omega
  have hge:rdF (bias E) (lgQ q/2)=0∨2^(P-1)≤endN m false N (rtE P (bias E) (lgQ q/2) q) (rtC P (bias E) (lgQ q/2) q):=by
   rcases hg with h | h
   ·exact .inl h
   ·exact .inr (by omega)
  unfold endR
  split
  ·rename_i hgr
   exact wordN_lt (by omega) _ (end_fits (by omega) hP hN hge hgr)
  ·split
   ·exact wordN_lt (by omega) _ (great_fits hE hP)
   ·exact (inf_ok hP _).1
theorem cNearRoot (hF:Fmt E P) (hm:m≤4) (sx:SmQ K q) (h:0≤q) (hK:K≤12000):Cal Tryz.prog OQ 136 [fA E P,iA (m:Nat),nA q] (numAV E P (rootR E P m q).1):=by
 have hr:=cRootF hF hm sx hK;rw [if_neg (Rat.not_lt.2 h)] at hr;refine fn_call TK MX Tryz.func136 rfl (by kernel_rfl) (by kernel_rfl) (by kernel_rfl) (by unfold numAV;split<;>rfl) rfl ?_
 conv=>whnf
 refine ⟨_,hr,?_⟩
 conv=>whnf
 refine ⟨_,cNumber hF (rootR_lt hF h),?_⟩;unfold numAV
 by_cases hk:wkind E P (rootR E P m q).1≤2
 ·rw [if_pos hk]
  conv=>whnf
  rfl
 ·rw [if_neg hk]
  conv=>whnf
  rfl
end
section
variable {E P m n:Nat} {q:Rat} {K:Nat}
theorem sm_word2 (hF:Fmt E P):SmQ 2500 (vl E P n):=by
 by_cases h:wkind E P n≤2
 ·have hE:2≤E∧E≤11:=by unfold Fmt at hF;omega
  have hP:2≤P∧P≤113:=by unfold Fmt at hF;omega
  unfold vl;rw [wvalK_fin h];have h1:=wfr_lt (E:=E) (P:=P) (n:=n) (by omega);have hf:wf E P n<2^E:=Nat.mod_lt _ (Nat.pow_pos (by decide));have hb2:2^E=2*(bias E+1):=by
   have:2^E=2*2^(E-1):=by rw [←Nat.pow_succ'];congr 1;omega
   have h0:0<2^(E-1):=Nat.pow_pos (by decide);unfold bias;omega
  have hb:bias E≤1023:=(fmt_n hF).2.2.2.2.2;have s1:SmQ 113 ((wfr E P n:Nat):Rat):=SmQ.nat (by decide) (Nat.lt_of_lt_of_le h1 (Nat.pow_le_pow_right (by decide) hP.2));have s2:=s1.mul_p2 (2-(bias E:Int)-P+((max (wf E P n) 1-1:Nat):Int)) 1200 (by omega);have s3:SmQ 2500 (((wfr E P n:Nat):Rat)*(2:Rat)^(2-(bias E:Int)-P+((max (wf E P n) 1-1:Nat):Int))):=s2.mono (by decide);unfold wval
  split
  ·have:=s3.neg
   rwa [show -(((wfr E P n:Nat):Rat)*(2:Rat)^(2-(bias E:Int)-P+((max (wf E P n) 1-1:Nat):Int))) = -1*(((wfr E P n:Nat):Rat)*(2:Rat)^(2-(bias E:Int)-P+((max (wf E P n) 1-1:Nat):Int))) from by grind] at this
  ·rwa [Rat.one_mul]
 ·have hp:=fmt_n hF;have hr:wr P n<2^113:=Nat.lt_of_lt_of_le (Nat.mod_lt _ (Nat.pow_pos (by decide))) (Nat.pow_le_pow_right (by decide) (by omega));unfold vl wvalK;rw [if_neg (by omega)]
  split
  ·exact (SmQ.nat (K:=113) (by decide) (Nat.lt_of_le_of_lt (Nat.mod_le _ _) hr)).mono (by decide)
  ·split
   ·exact (SmQ.nat (K:=113) (by decide) hr).mono (by decide)
   ·exact SmQ.zero _ (by decide)
theorem cSubM {k1 k2:Int} {n1 n2:Bool} {q1 q2:Rat} (hF:Fmt E P) (hm:m≤4) (s1:SmQ K q1) (s2:SmQ K q2) (hK:K≤5000) :
  Cal Tryz.prog OQ 128 [mA E P m (bias E:Nat),oA k1 n1 q1,oA k2 n2 q2] (resA (sumR E P m k1 n1 q1 k2 (!n2) (-q2))):=by
 refine fn_call TK MX Tryz.func128 rfl (by kernel_rfl) (by kernel_rfl) (by kernel_rfl) rfl rfl ?_
 conv=>whnf
 refine ⟨_,cNeg,?_⟩
 conv=>whnf
 refine ⟨_,cAddM hF hm s1 s2.neg hK,?_⟩
 conv=>whnf
 rfl
def subZ (E P M:Int) (i j:Nat):=opZ E P M i j fun e p m=>sumR e p m (kd e p i) (wn e p i) (vl e p i) (kd e p j) (!wn e p j) (-vl e p j)
theorem cSubZ {E P M:Int} {i j:Nat} (h1:W128 i) (h2:W128 j):Cal Tryz.prog OQ 56 [fA E P,iA M,wA i,wA j] (z3 (subZ E P M i j)):=by
 refine fn_call TK MX Tryz.func56 rfl (by kernel_rfl) (by kernel_rfl) (by kernel_rfl) rfl rfl ?_
 conv=>whnf
 refine ⟨_,cOpZ h1 h2 fun E P m hF hm hi hj _ _=>cSubM hF hm (sm_word hF) (sm_word hF) (by decide),?_⟩
 conv=>whnf
 rfl
/-! ### Rem -/
/-! ### Sqrt -/
noncomputable def sqrR (E P m n:Nat):Nat×Nat:=if 4≤kd E P n then (nanw E P,if kd E P n=5 then 1 else 0) else if kd E P n=1∨kd E P n=3∧wn E P n=false then (n,0) else if wn E P n=true then (nanw E P,1) else rootR E P m (vl E P n)
theorem vl_nonneg (hF:Fmt E P) (h:kd E P n=2) (hn:wn E P n=false):0≤vl E P n:=by
 have _p:=fmt_n hF;have h:wkind E P n=2:=h;have e:vl E P n=wval E P (bias E) n:=wvalK_fin (by omega);rw [e];unfold wval;rw [hn,if_neg (by decide),Rat.one_mul]
 exact steps_nonneg _ _
theorem cSqrtF (hF:Fmt E P) (hm:m≤4) (hn:n<2^(E+P)):Cal Tryz.prog OQ 59 [fA E P,iA (m:Nat),wA n] (res3 (sqrR E P m n)):=by
 refine fn_call TK MX Tryz.func59 rfl (by kernel_rfl) (by kernel_rfl) (by kernel_rfl) rfl rfl ?_;have hb:=(fmt_n hF).2.2.2.2.2;have hq:kd E P n=2→wn E P n=false→0≤vl E P n:=vl_nonneg hF;have sm:=sm_word (n:=n) hF;have hk:=kd_cases E P n;unfold sqrR
 conv=>whnf
 refine ⟨_,cWith1 hF hm (w128 hF hn),?_⟩;rw [if_pos hn]
 conv=>whnf
 refine ⟨_,cLook hF hb (w128 hF hn),?_⟩
 conv=>whnf
 refine ⟨_,cSpecial1 hF _ _ _,?_⟩;rw [show wvalK E P (bias E) n=vl E P n from rfl];unfold kd at hk hq ⊢;generalize vl E P n=v at *
 generalize wn E P n=ng at *
 generalize wkind E P n=k at *
 rcases hk with rfl | rfl | rfl | rfl | rfl<;>cases ng<;>(conv=>whnf)<;>first
  | rfl
  | (refine ⟨_,cInvalid hF,?_⟩;(conv=>whnf);rfl)
  | (refine ⟨_,cRootM hF hm sm (hq rfl rfl) (by decide),?_⟩;(conv=>whnf);rfl)
theorem cSqrtBad {E P M:Int} {n:Nat} (h:¬ ((0≤M∧M≤4)∧Fmt E P)):Cal Tryz.prog OQ 59 [fA E P,iA M,wA n] (.t [wA 0,iA 0,iA 2]):=by
 refine fn_call TK MX Tryz.func59 rfl (by kernel_rfl) (by kernel_rfl) (by kernel_rfl) rfl rfl ?_
 conv=>whnf
 refine ⟨_,cWithBad (a:=.c (.sl 2 [wdC n])) rfl h,?_⟩
 conv=>whnf
 rfl
theorem cSqrtForm (hF:Fmt E P) (hm:m≤4) (h8:W128 n) (hn:¬ n<2^(E+P)):Cal Tryz.prog OQ 59 [fA E P,iA (m:Nat),wA n] (.t [wA 0,iA 0,iA 6]):=by
 refine fn_call TK MX Tryz.func59 rfl (by kernel_rfl) (by kernel_rfl) (by kernel_rfl) rfl rfl ?_
 conv=>whnf
 refine ⟨_,cWith1 hF hm h8,?_⟩;rw [if_neg hn]
 conv=>whnf
 rfl
/-! ### Fma -/
theorem cSpecial3 {b:Nat} (hF:Fmt E P) (k1 k2 k3:Int) (n1 n2 n3:Bool) (q1 q2 q3:Rat):Cal Tryz.prog OQ 131 [mA E P m b,.c (.sl 5 [opC k1 n1 q1,opC k2 n2 q2,opC k3 n3 q3])]
  (.t [wA (nanw E P),iA (if k1=5∨k2=5∨k3=5 then 1 else 0),bA (decide (4≤k1)||(decide (4≤k2)||decide (4≤k3)))]):=by
 refine fn_call TK MX Tryz.func131 rfl (by kernel_rfl) (by kernel_rfl) (by kernel_rfl) rfl rfl ?_
 conv=>whnf
 refine ⟨4,?_⟩
 conv=>whnf
 cases h1:decide (k1≥4)<;>(conv=>whnf)<;>cases h2:k1==5<;>(conv=>whnf)<;>(try (cases h4:decide (k2≥4)<;>(conv=>whnf)))<;>cases h3:k2==5<;>(conv=>whnf)<;>cases h5:k3==5<;>(conv=>whnf)<;>refine ⟨_,cNanF hF,?_⟩<;>(conv=>whnf) <;>
  simp_all [joinR,wdC,dropC,refC]
def proK (k1 k2:Int):Int:=if minK k1 k2=1 then 1 else maxK k1 k2
def proQ (k1 k2:Int) (q1 q2:Rat):Rat:=if minK k1 k2=1 then 0 else q1*q2
def fmaR (E P m i j l:Nat):Nat×Nat :=
 if ¬ (4≤kd E P i∨4≤kd E P j)∧minK (kd E P i) (kd E P j)=1∧maxK (kd E P i) (kd E P j)=3 then (nanw E P,1)
 else if 4≤kd E P i∨4≤kd E P j∨4≤kd E P l then (nanw E P,if kd E P i=5∨kd E P j=5∨kd E P l=5 then 1 else 0)
 else sumR E P m (proK (kd E P i) (kd E P j)) (wn E P i != wn E P j) (proQ (kd E P i) (kd E P j) (vl E P i) (vl E P j)) (kd E P l) (wn E P l) (vl E P l)
theorem cWith3 {E P m n k l:Nat} (hF:Fmt E P) (hm:m≤4) (hn:W128 n) (hk':W128 k) (hl':W128 l):Cal Tryz.prog OQ 50 [fA E P,iA (m:Nat),.c (.sl 2 [wdC n,wdC k,wdC l])] (if n<2^(E+P)∧k<2^(E+P)∧l<2^(E+P) then .t [mA E P m (bias E:Nat),iA 0] else .t [mA 0 0 0 0,iA 6]):=by
 refine fn_call TK MX Tryz.func50 rfl (by kernel_rfl) (by kernel_rfl) (by kernel_rfl) (by split<;>rfl) rfl ?_;have e1:decide ((m:Int)<0)=false:=dF (by omega);have e2:decide ((m:Int)>4)=false:=dF (by omega);have e3:decide (0≤IntKind.i64.wrap ((E:Int)-1))=true:=dT (by obtain ⟨h1,h2,_⟩:=hF;rw [IntWalk.i64_in ((E:Int)-1) (by omega)];omega);have e4:IntKind.i64.wrap ((E:Int)+P)=((E+P:Nat):Int):=by obtain ⟨h1,h2,h3,h4,_⟩:=hF;rw [IntWalk.i64_in _ (by omega)];omega
 have hk:E+P≤128:=by obtain ⟨h1,h2,h3,h4,_⟩:=hF;omega
 conv=>whnf
 rw [e1]
 conv=>whnf
 rw [e2]
 conv=>whnf
 refine ⟨_,cCheck E P,?_⟩;rw [if_pos hF]
 conv=>whnf
 rw [e3]
 conv=>whnf
 refine ⟨4,?_⟩
 conv=>whnf
 rw [e4];refine ⟨_,cShr hn hk,?_⟩
 conv=>whnf
 rw [wz,shr_z]
 by_cases hlt:n<2^(E+P)
 ·rw [dT hlt]
  conv=>whnf
  rw [e4];refine ⟨_,cShr hk' hk,?_⟩
  conv=>whnf
  rw [wz,shr_z]
  by_cases hlt':k<2^(E+P)
  ·rw [dT hlt']
   conv=>whnf
   rw [e4];refine ⟨_,cShr hl' hk,?_⟩
   conv=>whnf
   rw [wz,shr_z]
   by_cases hl:l<2^(E+P)
   ·rw [if_pos ⟨hlt,hlt',hl⟩,dT hl]
    conv=>whnf
    rw [bias_eq hF]
    rfl
   ·rw [if_neg (fun h=>hl h.2.2),dF hl]
    conv=>whnf
    rfl
  ·rw [if_neg (fun h=>hlt' h.2.1),dF hlt']
   conv=>whnf
   rfl
 ·rw [if_neg (fun h=>hlt h.1),dF hlt]
  conv=>whnf
  rfl
theorem cFmaF {i j l:Nat} (hF:Fmt E P) (hm:m≤4) (hi:i<2^(E+P)) (hj:j<2^(E+P)) (hl:l<2^(E+P)):Cal Tryz.prog OQ 60 [fA E P,iA (m:Nat),wA i,wA j,wA l] (res3 (fmaR E P m i j l)):=by
 refine fn_call TK MX Tryz.func60 rfl (by kernel_rfl) (by kernel_rfl) (by kernel_rfl) rfl rfl ?_;have hb:=(fmt_n hF).2.2.2.2.2;have hw:=cWith3 hF hm (w128 hF hi) (w128 hF hj) (w128 hF hl);rw [if_pos ⟨hi,hj,hl⟩] at hw
 conv=>whnf
 refine ⟨_,hw,?_⟩
 conv=>whnf
 refine ⟨_,cLook hF hb (w128 hF hi),?_⟩
 conv=>whnf
 refine ⟨_,cLook hF hb (w128 hF hj),?_⟩
 conv=>whnf
 refine ⟨_,cLook hF hb (w128 hF hl),?_⟩
 conv=>whnf
 refine ⟨_,cSpecial2 hF _ _ _ _ _ _,?_⟩
 conv=>whnf
 refine ⟨_,cSpecial3 hF _ _ _ _ _ _ _ _ _,?_⟩
 conv=>whnf
 refine ⟨_,cProduct (sm_word2 hF) (sm_word2 hF) (by decide),?_⟩;have hI:∀ b,(decide (4≤kd E P i∨4≤kd E P j∨4≤kd E P l)=b)→(decide (4≤wkind E P i)||(decide (4≤wkind E P j)||decide (4≤wkind E P l)))=b:=fun b h=>by
  rw [←h,Bool.eq_iff_iff];simp
 have hB:∀ b,(decide (4≤kd E P i∨4≤kd E P j)=b)→(decide (4≤wkind E P i)||decide (4≤wkind E P j))=b:=fun b h=>by
  rw [←h,Bool.eq_iff_iff];simp
 by_cases h1:minK (kd E P i) (kd E P j)=1
 ·have eK:proK (kd E P i) (kd E P j)=1:=if_pos h1;have eQ:proQ (kd E P i) (kd E P j) (vl E P i) (vl E P j)=0:=if_pos h1;rw [show proR (minK (wkind E P i) (wkind E P j)) (maxK (wkind E P i) (wkind E P j)) (wn E P i != wn E P j) (wvalK E P (bias E) i*wvalK E P (bias E) j)=_ from if_pos h1]
  conv=>whnf
  by_cases hA:4≤kd E P i∨4≤kd E P j
  ·have hA':4≤kd E P i∨4≤kd E P j∨4≤kd E P l:=by omega
   rw [hB true (dT hA),show fmaR E P m i j l=_ from (if_neg (fun h=>h.1 hA)).trans (if_pos hA')]
   conv=>whnf
   rw [hI true (dT hA')]
   conv=>whnf
   split<;>rfl
  ·rw [hB false (dF hA)]
   conv=>whnf
   by_cases h3:maxK (kd E P i) (kd E P j)=3
   ·rw [show (maxK (wkind E P i) (wkind E P j) != 3)=false by simpa using h3,show fmaR E P m i j l=_ from if_pos ⟨hA,h1,h3⟩]
    conv=>whnf
    refine ⟨_,cInvalid hF,?_⟩
    conv=>whnf
    rfl
   ·rw [show (maxK (wkind E P i) (wkind E P j) != 3)=true by simpa using h3]
    conv=>whnf
    by_cases hC:4≤kd E P i∨4≤kd E P j∨4≤kd E P l
    ·rw [hI true (dT hC),show fmaR E P m i j l=_ from (if_neg (fun h=>h3 h.2.2)).trans (if_pos hC)]
     conv=>whnf
     split<;>rfl
    ·rw [hI false (dF hC),show fmaR E P m i j l=_ from (if_neg (fun h=>h3 h.2.2)).trans (if_neg hC),eK,eQ]
     conv=>whnf
     refine ⟨_,cAddM (k1:=1) (q1:=0) (K:=5000) hF hm (SmQ.zero _ (by decide)) (sm_word hF) (by decide),?_⟩
     conv=>whnf
     rfl
 ·have eK:proK (kd E P i) (kd E P j)=maxK (kd E P i) (kd E P j):=if_neg h1;have eQ:proQ (kd E P i) (kd E P j) (vl E P i) (vl E P j)=vl E P i*vl E P j:=if_neg h1;rw [show proR (minK (wkind E P i) (wkind E P j)) (maxK (wkind E P i) (wkind E P j)) (wn E P i != wn E P j) (wvalK E P (bias E) i*wvalK E P (bias E) j)=_ from if_neg h1]
  conv=>whnf
  by_cases hA:4≤kd E P i∨4≤kd E P j
  ·have hA':4≤kd E P i∨4≤kd E P j∨4≤kd E P l:=by omega
   rw [hB true (dT hA),show fmaR E P m i j l=_ from (if_neg (fun h=>h.1 hA)).trans (if_pos hA')]
   conv=>whnf
   rw [hI true (dT hA')]
   conv=>whnf
   split<;>rfl
  ·rw [hB false (dF hA)]
   conv=>whnf
   by_cases hC:4≤kd E P i∨4≤kd E P j∨4≤kd E P l
   ·rw [hI true (dT hC),show fmaR E P m i j l=_ from (if_neg (fun h=>h1 h.2.1)).trans (if_pos hC)]
    conv=>whnf
    split<;>rfl
   ·rw [hI false (dF hC),show fmaR E P m i j l=_ from (if_neg (fun h=>h1 h.2.1)).trans (if_neg hC),eK,eQ]
    conv=>whnf
    refine ⟨_,cAddM (K:=5000) hF hm (((sm_word2 hF).mul (sm_word2 hF)).mono (show 2500+2500≤5000 by decide)) (sm_word hF) (by decide),?_⟩
    conv=>whnf
    rfl
theorem cFmaBad {E P M:Int} {i j l:Nat} (h:¬ ((0≤M∧M≤4)∧Fmt E P)):Cal Tryz.prog OQ 60 [fA E P,iA M,wA i,wA j,wA l] (.t [wA 0,iA 0,iA 2]):=by
 refine fn_call TK MX Tryz.func60 rfl (by kernel_rfl) (by kernel_rfl) (by kernel_rfl) rfl rfl ?_
 conv=>whnf
 refine ⟨_,cWithBad (a:=.c (.sl 2 [wdC i,wdC j,wdC l])) rfl h,?_⟩
 conv=>whnf
 rfl
theorem cFmaForm {i j l:Nat} (hF:Fmt E P) (hm:m≤4) (h1:W128 i) (h2:W128 j) (h3:W128 l) (hn:¬ (i<2^(E+P)∧j<2^(E+P)∧l<2^(E+P))):Cal Tryz.prog OQ 60 [fA E P,iA (m:Nat),wA i,wA j,wA l] (.t [wA 0,iA 0,iA 6]):=by
 refine fn_call TK MX Tryz.func60 rfl (by kernel_rfl) (by kernel_rfl) (by kernel_rfl) rfl rfl ?_
 conv=>whnf
 refine ⟨_,cWith3 hF hm h1 h2 h3,?_⟩;rw [if_neg hn]
 conv=>whnf
 rfl
end
end Go.Proofs.YtoaoebimjmjpeaaGreatDoor
