/- floats: the operations of whatever format, mode and words; the law's helpers. -/
import Derived.Test.YtgabigepocfllaaGreatDoorG49
import Derived.Test.YtgabigepocfllaaGreatDoorG42
namespace Go.Proofs.YtgabigepocfllaaGreatDoor
open Go.RowKit Vn
set_option maxRecDepth 100000
set_option maxHeartbeats 8000000
abbrev z3 (r:Nat×Int×Int):AV:=.t [wA r.1,iA r.2.1,iA r.2.2]
def opZ (E P M:Int) (i j:Nat) (R:Nat→Nat→Nat→Nat×Nat):Nat×Int×Int :=
 if ¬ ((0≤M∧M≤4)∧Fmt E P) then (0,0,2) else if ¬ (i<2^(E+P).toNat∧j<2^(E+P).toNat) then (0,0,6)
 else ((opnR E.toNat P.toNat i j (R E.toNat P.toNat M.toNat)).1,((opnR E.toNat P.toNat i j (R E.toNat P.toNat M.toNat)).2:Nat),0)
theorem opZ_good {E P m i j:Nat} {R:Nat→Nat→Nat→Nat×Nat} (hF:Fmt E P) (hm:m≤4) (hi:i<2^(E+P)) (hj:j<2^(E+P)) :
  opZ E P m i j R=((opnR E P i j (R E P m)).1,(((opnR E P i j (R E P m)).2:Nat):Int),0):=by
 have e:((E:Int)+P).toNat=E+P:=by omega
 unfold opZ;rw [if_neg (fun h=>h ⟨⟨by omega,by omega⟩,hF⟩),e,if_neg (fun h=>h ⟨hi,hj⟩)]
 simp
theorem fmt_cases {E P M:Int} (h:(0≤M∧M≤4)∧Fmt E P):∃ e p m:Nat,E=e∧P=p∧M=m∧m≤4∧Fmt (e:Int) (p:Int):=by
 have hF:=h.2;obtain ⟨h1,h2,h3,h4,h5⟩:=hF
 exact ⟨E.toNat,P.toNat,M.toNat,by omega,by omega,by omega,by omega,by rw [show ((E.toNat:Nat):Int)=E by omega,show ((P.toNat:Nat):Int)=P by omega];exact h.2⟩
theorem cOpZ {f:FuncId} {E P M:Int} {i j:Nat} {R:Nat→Nat→Nat→Nat×Nat} (h1:W128 i) (h2:W128 j)
  (hf:∀ E P m:Nat,Fmt E P→m≤4→i<2^(E+P)→j<2^(E+P)→¬ 4≤kd E P i→¬ 4≤kd E P j→Cal Tryz.prog OQ f [mA E P m (bias E:Nat),oA (kd E P i) (wn E P i) (vl E P i),oA (kd E P j) (wn E P j) (vl E P j)] (resA (R E P m))) :
  Cal Tryz.prog OQ 143 [fA E P,iA M,wA i,wA j,fnA f] (z3 (opZ E P M i j R)):=by
 by_cases h:(0≤M∧M≤4)∧Fmt E P
 ·obtain ⟨e,p,m,rfl,rfl,rfl,hm,hF⟩:=fmt_cases h
  by_cases hw:i<2^(e+p)∧j<2^(e+p)
  ·rw [opZ_good hF hm hw.1 hw.2]
   exact cOperate hF hm hw.1 hw.2 (hf e p m hF hm hw.1 hw.2)
  ·have:opZ e p m i j R=(0,0,6):=by
    have e':((e:Int)+p).toNat=e+p:=by omega
    unfold opZ;rw [if_neg (fun k=>k h),e',if_pos hw]
   rw [this]
   exact cOperateForm hF hm h1 h2 hw
 ·rw [show opZ E P M i j R=_ from if_pos h]
  exact cOperateBad h
section
variable {E P M:Int} {i j:Nat}
def addZ (E P M:Int) (i j:Nat):=opZ E P M i j fun e p m=>sumR e p m (kd e p i) (wn e p i) (vl e p i) (kd e p j) (wn e p j) (vl e p j)
theorem cAddZ (h1:W128 i) (h2:W128 j):Cal Tryz.prog OQ 57 [fA E P,iA M,wA i,wA j] (z3 (addZ E P M i j)):=by
 refine fn_call TK MX Tryz.func57 rfl (by kernel_rfl) (by kernel_rfl) (by kernel_rfl) rfl rfl ?_
 conv=>whnf
 refine ⟨_,cOpZ h1 h2 fun E P m hF hm hi hj _ _=>cAddM hF hm (sm_word hF) (sm_word hF) (by decide),?_⟩
 conv=>whnf
 rfl
end
theorem cDecode {E P n:Nat} (hF:Fmt E P) (hn:n<2^(E+P)):Cal Tryz.prog OQ 26 [fA E P,wA n] (.t [.g [.v (.int .i64 (kd E P n)),.v (.bool (wn E P n)),.v (.string (numText (vl E P n)))],iA 0]):=by
 refine fn_call TK MX Tryz.func26 rfl (by kernel_rfl) (by kernel_rfl) (by kernel_rfl) rfl rfl ?_
 conv=>whnf
 refine ⟨_,cWith1 (m:=0) hF (by decide) (w128 hF hn),?_⟩;rw [if_pos hn]
 conv=>whnf
 refine ⟨_,cLook hF (fmt_n hF).2.2.2.2.2 (w128 hF hn),?_⟩
 conv=>whnf
 refine ⟨_,cText (sm_word hF) (by decide),?_⟩
 conv=>whnf
 rfl
theorem cSix:Cal Tryz.prog OQ 92 [] (fA 3 3):=by
 refine fn_call TK MX Tryz.func92 rfl (by kernel_rfl) (by kernel_rfl) (by kernel_rfl) rfl rfl ?_
 conv=>whnf
 rfl
theorem cal_law {f:FuncId} {cs:List Value} (h:Cal Tryz.prog OQ f [.g (cs.map AC.v)] (bA true)) (hk:(cs.all (·.oneCell'))=true) (w:World) (hw:WM w) (hT:Tabs w) :
  Calls Tryz.prog f #[.agg cs.toArray] w fun e w'=>e=.returned (.bool true)∧Ext w w' :=
 (h.run (fun _=>False) w [.agg cs.toArray] (fun _ h=>h.elim) ⟨hw,hT⟩ ⟨⟨cs,rfl,of_scs hk⟩,trivial⟩).mono fun _ _ ⟨_,h1,h2,h3⟩=>by
  subst h1;exact ⟨congrArg _ (show _=Value.bool true from h3.1),h2⟩
section
variable {E P m b:Nat} {q r:Rat} {K:Nat}
theorem cGreatM (hF:Fmt E P) (hb:b≤1023):Cal Tryz.prog OQ 101 [mA E P m b] (nA (grQ P b)) :=
 calA [.mc E P m b] (r:=.n _) (by kernel_rfl) rfl fun w vs _ hv=>by
  obtain ⟨x,rfl,rfl⟩:=one_arg hv;exact (greatest_c E P m b w ⟨(fmt_n hF).2.2.1,(fmt_n hF).2.2.2.1⟩ hb).mono fun _ _ ⟨v,h1,h2,h3⟩=>⟨v,h1,h2,h3⟩
theorem cStepM {l:Int} (hF:Fmt E P) (hb:b≤1023) (hl : -100000000≤l∧l≤100000000):Cal Tryz.prog OQ 99 [mA E P m b,iA l] (iA (max l (1-(b:Int))-P+1)) :=
 calA [.mc E P m b,.s (.int .i64 l)] (r:=.s (.int .i64 (max l (1-(b:Int))-P+1))) (by kernel_rfl) rfl fun w vs _ hv=>by
  obtain ⟨x,y,rfl,rfl,rfl⟩:=two_args hv;exact (step_c E P m b l w ⟨(fmt_n hF).2.2.1,(fmt_n hF).2.2.2.1⟩ hb hl).mono fun _ _ ⟨h1,h2⟩=>⟨_,h1,rfl,h2⟩
theorem cRoundF (hF:Fmt E P) (hm:m≤4) (sx:SmQ K q) (hK:K≤12000):Cal Tryz.prog OQ 16 [fA E P,iA (m:Nat),nA q] (res3 (rq E P m q)):=by
 refine fn_call TK MX Tryz.func16 rfl (by kernel_rfl) (by kernel_rfl) (by kernel_rfl) rfl rfl ?_
 conv=>whnf
 refine ⟨_,cWith0 hF hm,?_⟩
 conv=>whnf
 refine ⟨_,cRoundQ hF hm sx hK,?_⟩
 conv=>whnf
 rfl
theorem cRoundBad {E P M:Int} (h:¬ ((0≤M∧M≤4)∧Fmt E P)):Cal Tryz.prog OQ 16 [fA E P,iA M,nA q] (.t [wA 0,iA 0,iA 2]):=by
 refine fn_call TK MX Tryz.func16 rfl (by kernel_rfl) (by kernel_rfl) (by kernel_rfl) rfl rfl ?_
 conv=>whnf
 refine ⟨_,cWithBad (a:=.c (.v (.slice none 0 0))) rfl h,?_⟩
 conv=>whnf
 rfl
def hasI (E P:Nat) (q:Rat):Bool:=decide ((q*(2:Rat)^(-(max (lgQ q) (1-(bias E:Int))-P+1))).den=1)
def hasB (E P:Nat) (q:Rat):Bool:=if q=0 then true else hasI E P q&&decide (cmpQ (absQ q) (grQ P (bias E))≤0)
theorem hasB_iff:hasB E P q=true↔IsVal P (bias E) q∧absQ q≤grQ P (bias E):=by
 unfold hasB
 by_cases h:q=0
 ·rw [if_pos h];subst h;refine ⟨fun _=>⟨IsVal.zero _ _,?_⟩,fun _=>rfl⟩;rw [absQ_nonneg Rat.le_refl];exact grQ_nonneg _ _
 ·rw [if_neg h,Bool.and_eq_true];unfold hasI;rw [decide_eq_true_iff,decide_eq_true_iff,isVal_iff_int (lg_is h),cmpQ_iff]
theorem signZ (q:Rat):(q.num.sign==0)=decide (q=0):=by
 rw [Bool.eq_iff_iff];simp [Int.sign_eq_zero_iff_zero,Rat.num_eq_zero]
theorem cHasF (hF:Fmt E P) (sx:SmQ K q) (hK:K≤12000):Cal Tryz.prog OQ 18 [fA E P,nA q] (bA (hasB E P q)):=by
 have hb:=(fmt_n hF).2.2.2.2.2;have hP:=(fmt_n hF).2.2.2.1;refine fn_call TK MX Tryz.func18 rfl (by kernel_rfl) (by kernel_rfl) (by kernel_rfl) rfl rfl ?_;unfold hasB
 conv=>whnf
 refine ⟨_,cWith0 (m:=0) hF (by decide),?_⟩
 conv=>whnf
 refine ⟨_,cSign,?_⟩
 conv=>whnf
 rw [signZ]
 by_cases h:q=0
 ·rw [dT h,if_pos h]
  conv=>whnf
  rfl
 ·rw [dF h,if_neg h]
  conv=>whnf
  have hl:=(lg_is h).bound sx.absQ;refine ⟨_,cLogF sx (by omega) (fun e=>h (Rat.num_eq_zero.1 e)) (lg_is h),?_⟩
  conv=>whnf
  refine ⟨_,cStepM hF hb (by omega),?_⟩
  conv=>whnf
  rw [IntWalk.i64_in (0-(max (lgQ q) (1-(bias E:Int))-P+1)) (by omega),Int.zero_sub];refine ⟨_,cShiftF sx (by omega) (by omega) (by omega),?_⟩
  conv=>whnf
  refine ⟨_,cIsInt,?_⟩
  conv=>whnf
  rw [show decide ((q*(2:Rat)^(-(max (lgQ q) (1-(bias E:Int))-P+1))).den=1)=hasI E P q from rfl]
  cases hi:hasI E P q
  ·conv=>whnf
   rfl
  ·conv=>whnf
   refine ⟨_,cAbs,?_⟩
   conv=>whnf
   refine ⟨_,cGreatM hF hb,?_⟩
   conv=>whnf
   refine ⟨_,cCmp (K:=16000) (sx.absQ.mono (by omega)) (grQ_sm ⟨(fmt_n hF).2.2.1,hP⟩ hb) (by decide),?_⟩
   conv=>whnf
   rfl
theorem cMinN (sx:SmQ K q) (sy:SmQ K r) (hK:K≤20000000):Cal Tryz.prog OQ 14 [nA q,nA r] (nA (if cmpQ q r<0 then q else r)):=by
 refine fn_call TK MX Tryz.func14 rfl (by kernel_rfl) (by kernel_rfl) (by kernel_rfl) rfl rfl ?_
 conv=>whnf
 refine ⟨_,cCmp sx sy hK,?_⟩
 conv=>whnf
 by_cases h:cmpQ q r<0
 ·rw [dT h,if_pos h]
  conv=>whnf
  rfl
 ·rw [dF h,if_neg h]
  conv=>whnf
  rfl
theorem cMaxN (sx:SmQ K q) (sy:SmQ K r) (hK:K≤20000000):Cal Tryz.prog OQ 15 [nA q,nA r] (nA (if cmpQ q r<0 then r else q)):=by
 refine fn_call TK MX Tryz.func15 rfl (by kernel_rfl) (by kernel_rfl) (by kernel_rfl) rfl rfl ?_
 conv=>whnf
 refine ⟨_,cCmp sx sy hK,?_⟩
 conv=>whnf
 by_cases h:cmpQ q r<0
 ·rw [dT h,if_pos h]
  conv=>whnf
  rfl
 ·rw [dF h,if_neg h]
  conv=>whnf
  rfl
theorem cCmpF {i j:Nat} (hF:Fmt E P) (hi:i<2^(E+P)) (hj:j<2^(E+P)) (ki:kd E P i≤3) (kj:kd E P j≤3):Cal Tryz.prog OQ 17 [fA E P,wA i,wA j] (.t [iA (cmpQ ((rankZ E P i:Int):Rat) ((rankZ E P j:Int):Rat)),iA 0,iA 0]):=by
 have hb:=(fmt_n hF).2.2.2.2.2;have hEP:E+P≤124:=by have:=fmt_n hF;omega
 have hs:∀ n,SmQ 130 ((rankZ E P n:Int):Rat):=fun n=>(SmQ.int (K:=124) (by decide) (rankZ_lt hEP)).mono (by decide);refine fn_call TK MX Tryz.func17 rfl (by kernel_rfl) (by kernel_rfl) (by kernel_rfl) rfl rfl ?_
 conv=>whnf
 refine ⟨_,cWith2 (m:=0) hF (by decide) (w128 hF hi) (w128 hF hj),?_⟩;rw [if_pos ⟨hi,hj⟩]
 conv=>whnf
 refine ⟨_,cLook hF hb (w128 hF hi),?_⟩
 conv=>whnf
 refine ⟨_,cLook hF hb (w128 hF hj),?_⟩
 conv=>whnf
 refine ⟨_,cSpecial2 hF _ _ _ _ _ _,?_⟩
 conv=>whnf
 have k1:¬ 4≤wkind E P i:=fun h=>by have:wkind E P i≤3:=ki;omega
 have k2:¬ 4≤wkind E P j:=fun h=>by have:wkind E P j≤3:=kj;omega
 rw [dF k1,dF k2]
 conv=>whnf
 refine ⟨_,cRank hF hb (w128 hF hi),?_⟩
 conv=>whnf
 refine ⟨_,cRank hF hb (w128 hF hj),?_⟩
 conv=>whnf
 refine ⟨_,cCmp (hs i) (hs j) (by decide),?_⟩
 conv=>whnf
 rfl
end
section
variable {E P m b n:Nat} {q:Rat} {K:Nat}
def numAV (E P n:Nat):AV:=if wkind E P n≤2 then .t [nA (wvalK E P (bias E) n),iA 0] else .t [nA 0,iA 7]
theorem cNumber (hF:Fmt E P) (hn:n<2^(E+P)):Cal Tryz.prog OQ 120 [fA E P,wA n,iA 0] (numAV E P n):=by
 refine fn_call TK MX Tryz.func120 rfl (by kernel_rfl) (by kernel_rfl) (by kernel_rfl) (by unfold numAV;split<;>rfl) rfl ?_
 conv=>whnf
 refine ⟨_,cValue hF hn,?_⟩;unfold valR numAV
 by_cases h:wkind E P n≤2
 ·rw [if_pos h,if_pos h]
  conv=>whnf
  rfl
 ·rw [if_neg h,if_neg h]
  conv=>whnf
  rfl
theorem rq_lt (hF:Fmt E P):(rq E P m q).1<2^(E+P):=rnd_lt (fmt_n hF).1 (by have:=(fmt_n hF).2.2.1;omega) lg_is
theorem cNear (hF:Fmt E P) (hm:m≤4) (sx:SmQ K q) (hK:K≤12000):Cal Tryz.prog OQ 42 [fA E P,iA (m:Nat),nA q] (numAV E P (rq E P m q).1):=by
 refine fn_call TK MX Tryz.func42 rfl (by kernel_rfl) (by kernel_rfl) (by kernel_rfl) (by unfold numAV;split<;>rfl) rfl ?_
 conv=>whnf
 refine ⟨_,cRoundF hF hm sx hK,?_⟩
 conv=>whnf
 refine ⟨_,cNumber hF (rq_lt hF),?_⟩;unfold numAV
 by_cases h:wkind E P (rq E P m q).1≤2
 ·rw [if_pos h]
  conv=>whnf
  rfl
 ·rw [if_neg h]
  conv=>whnf
  rfl
end
abbrev flA (k:Int) (neg:Bool) (S:ByteArray):AV:=.g [.v (.int .i64 k),.v (.bool neg),.v (.string S)]
theorem cEncode2 {E P:Nat} {neg:Bool} {l:List UInt8} (hF:Fmt E P) (hl:l.length≤9223372036854775807) (hz:(parseV l).2=0)
  (hk:kd E P (rq E P 0 (parseV l).1).1=2) (hn:wn E P (rq E P 0 (parseV l).1).1=neg) (ht:(numText (vl E P (rq E P 0 (parseV l).1).1)).toList=(ba l).toList) :
  Cal Tryz.prog OQ 10 [fA E P,flA 2 neg (ba l)] (.t [wA (rq E P 0 (parseV l).1).1,iA 0]):=by
 refine fn_call TK MX Tryz.func10 rfl (by kernel_rfl) (by kernel_rfl) (by kernel_rfl) rfl rfl ?_
 conv=>whnf
 refine ⟨_,cWith0 (m:=0) hF (by decide),?_⟩
 conv=>whnf
 refine ⟨_,cParse hl,?_⟩;rw [hz]
 conv=>whnf
 refine ⟨_,cRoundQ hF (by decide) (parse_sm l) (by decide),?_⟩
 conv=>whnf
 refine ⟨_,cDecode hF (rq_lt hF),?_⟩
 conv=>whnf
 rw [show (!(kd E P (rq E P 0 (parseV l).1).1==2&&(wn E P (rq E P 0 (parseV l).1).1==neg&&((numText (vl E P (rq E P 0 (parseV l).1).1)).toList==(ba l).toList&&true))))=false by rw [hk,hn,ht];simp]
 conv=>whnf
 rfl
/-! ### awake -/
theorem f33:Fmt ((3:Nat):Int) ((3:Nat):Int):=by unfold Fmt;decide
theorem parse1:parseV [49]=(1,0):=by decide +kernel
theorem rq1:rq 3 3 0 1=(12,0):=by decide +kernel
theorem txt_whole {n:Nat} (h:n<10):numText ((n:Nat):Rat)=ba [UInt8.ofNat (48+n)]:=by
 have e1:((n:Nat):Rat).num=n:=rfl;have e2:((n:Nat):Rat).den=1:=rfl;unfold numText;rw [e1,e2,if_neg (by omega),if_pos rfl,ba_empty];unfold decT;rw [Int.natAbs_natCast,Lib.decDigits_one h]
 rfl
theorem txt38:numText (3/8:Rat)=ba [51,47,56]:=by
 have e1:(3/8:Rat).num=3:=by decide +kernel
 have e2:(3/8:Rat).den=8:=by decide +kernel
 unfold numText;rw [e1,e2,if_neg (by omega),if_neg (by decide)];unfold decT;rw [show ((3:Int).natAbs)=3 from rfl,Lib.decDigits_one (by decide),Lib.decDigits_one (by decide)]
 rfl
theorem cEncOne:Cal Tryz.prog OQ 10 [fA 3 3,flA 2 false (ba [49])] (.t [wA 12,iA 0]):=by
 have e:(rq 3 3 0 (parseV [49]).1).1=12:=by rw [parse1];exact congrArg Prod.fst rq1
 have v:vl 3 3 12=((1:Nat):Rat):=by decide +kernel
 have h:=cEncode2 (E:=3) (P:=3) (neg:=false) (l:=[49]) f33 (by decide) (by rw [parse1]) (by rw [e];decide +kernel) (by rw [e];decide +kernel) (by rw [e,v,txt_whole (by decide)];rfl);rw [e] at h
 exact h
def thrQ:Rat:=((1:Int):Rat)/((3:Int):Rat)
theorem cAwakeE:Cal Tryz.prog OQ 12 [] (bA true):=by
 have sm:SmQ 10 thrQ:=⟨by unfold Sm;decide +kernel,by unfold Sm;decide +kernel⟩;have hA:=cAddZ (E:=3) (P:=3) (M:=0) (i:=12) (j:=12) (by decide) (by decide);rw [show addZ 3 3 0 12 12=(16,0,0) by decide +kernel] at hA;have hV:=cValue (E:=3) (P:=3) (n:=16) f33 (by decide);rw [show valR 3 3 16=.t [nA ((2:Nat):Rat),iA 0] by
  unfold valR;rw [if_pos (by decide),show wvalK 3 3 (bias 3) 16=((2:Nat):Rat) by decide +kernel]] at hV
 have hN:=cNear (E:=3) (P:=3) (m:=3) (q:=thrQ) f33 (by decide) sm (by decide);rw [show (rq 3 3 3 thrQ).1=6 by decide +kernel,show numAV 3 3 6=.t [nA (3/8:Rat),iA 0] by
  unfold numAV;rw [if_pos (by decide),show wvalK 3 3 (bias 3) 6=(3/8:Rat) by decide +kernel]] at hN
 have t2:=cText (q:=((2:Nat):Rat)) (K:=10) ⟨by unfold Sm;decide +kernel,by unfold Sm;decide +kernel⟩ (by decide);rw [txt_whole (by decide)] at t2;have t8:=cText (q:=(3/8:Rat)) (K:=10) ⟨by unfold Sm;decide +kernel,by unfold Sm;decide +kernel⟩ (by decide);rw [txt38] at t8;refine fn_call TK MX Tryz.func12 rfl (by kernel_rfl) (by kernel_rfl) (by kernel_rfl) rfl rfl ?_
 conv=>whnf
 refine ⟨_,cSix,?_⟩
 conv=>whnf
 refine ⟨_,cEncOne,?_⟩
 conv=>whnf
 refine ⟨_,hA,?_⟩
 conv=>whnf
 refine ⟨_,hV,?_⟩
 conv=>whnf
 refine ⟨_,cRatio (m:=1) (n:=3) (by decide) (by decide) (by decide) (by decide) (by decide),?_⟩
 conv=>whnf
 refine ⟨_,hN,?_⟩
 conv=>whnf
 refine ⟨_,cValueForm (E:=3) (P:=3) (n:=64) f33 (by decide) (by decide),?_⟩
 conv=>whnf
 refine ⟨_,t2,?_⟩
 conv=>whnf
 rw [show ((ba [UInt8.ofNat (48+2)]).toList==(⟨#[50]⟩:ByteArray).toList)=true by rw [ByteArray.toList_eq,ByteArray.toList_eq];rfl]
 conv=>whnf
 refine ⟨_,t8,?_⟩
 conv=>whnf
 rw [show ((ba [51,47,56]).toList==(⟨#[51,47,56]⟩:ByteArray).toList)=true by rw [ByteArray.toList_eq,ByteArray.toList_eq];rfl]
 conv=>whnf
 rfl
end Go.Proofs.YtgabigepocfllaaGreatDoor
