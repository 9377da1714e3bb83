/- the law's read, by reckoning; FloatsMonotone. -/
import Derived.Test.YtgabigepocfllaaGreatDoorP54
namespace Go.Proofs.YtgabigepocfllaaGreatDoor
open Go.RowKit Vn
set_option maxRecDepth 100000
set_option maxHeartbeats 8000000
def askC (E P M:Int) (S T:List UInt8):List AC:=[.v (.int .i64 E),.v (.int .i64 P),.v (.int .i64 M),.v (.string (ba S)),.v (.string (ba T))]
def okP (l:List UInt8):Bool:=(parseV l).2==0
theorem cRead {l:List UInt8} (hl:l.length≤9223372036854775807):Cal Tryz.prog OQ 13 [sA (ba l)] (.t [nA (parseV l).1,rA (parseV l).1,bA (okP l)]):=by
 refine fn_callB [(3,[(0,5),(1,7),(8,2),(9,3)])] TK MX Tryz.func13 rfl (by kernel_rfl) (by kernel_rfl) (by kernel_rfl) rfl rfl ?_;unfold okP
 conv=>whnf
 refine ⟨_,cParse hl,?_⟩
 conv=>whnf
 refine ⟨_,cRParse hl,?_⟩
 conv=>whnf
 cases h:(parseV l).2==0
 ·conv=>whnf
  rfl
 ·conv=>whnf
  rw [h]
  rfl
section
variable {E P m b n:Nat} {q r:Rat} {K:Nat} {neg:Bool}
theorem cSignM (hF:Fmt E P):Cal Tryz.prog OQ 167 [mA E P m b,bA neg] (wA (sgb E P neg)) :=
 calA [.mc E P m b,.s (.bool neg)] (r:=.w _) (by kernel_rfl) rfl fun w vs _ hv=>by
  obtain ⟨x,y,rfl,rfl,rfl⟩:=two_args hv;exact (sign_c' E P m b neg w hF).mono fun _ _ ⟨h1,h2⟩=>⟨_,h1,rfl,h2⟩
theorem absQ_intc (z:Int):absQ ((z:Int):Rat)=((z.natAbs:Nat):Rat):=by
 have h:=absQ_int z 0;rw [Rat.zpow_zero,Rat.mul_one,Rat.mul_one] at h
 exact h
theorem int_sign (z:Int):((z:Int):Rat).num.sign=z.sign:=rfl
theorem cRanked {z:Int} (hF:Fmt E P) (hz:z.natAbs<2^124):Cal Tryz.prog OQ 135 [mA E P m b,nA ((z:Int):Rat)] (wA (rankW E P z)):=by
 refine fn_call TK MX Tryz.func135 rfl (by kernel_rfl) (by kernel_rfl) (by kernel_rfl) rfl rfl ?_;have hw:W128 z.natAbs:=Nat.lt_of_lt_of_le hz (by decide);have hs:W128 (sgb E P (decide (z<0))):=w128 hF (sgb_lt (by have:=(fmt_n hF).1;omega) _)
 conv=>whnf
 refine ⟨_,cSign,?_⟩;rw [int_sign]
 conv=>whnf
 rw [show decide (z.sign<0)=decide (z<0) by simp only [Int.sign_neg_iff]];refine ⟨_,cSignM hF,?_⟩
 conv=>whnf
 refine ⟨_,cAbs,?_⟩;rw [absQ_intc]
 conv=>whnf
 refine ⟨_,cPacked hw,?_⟩
 conv=>whnf
 refine ⟨_,cBoth hs hw,?_⟩
 conv=>whnf
 rfl
theorem word_eq {i j:Nat} (hi:W128 i) (hj:W128 j):(((i/18446744073709551616:Nat):Int)==((j/18446744073709551616:Nat):Int)&&(((i%18446744073709551616:Nat):Int)==((j%18446744073709551616:Nat):Int)&&true))=decide (i=j):=by
 have _h:=hi;have _k:=hj;rw [Bool.eq_iff_iff];simp;omega
theorem rank_sm (hF:Fmt E P) (z:Int) (hz:z.natAbs≤1):SmQ 130 (((rankZ E P n+z:Int)):Rat):=by
 have hEP:E+P≤124:=by have:=fmt_n hF;omega
 have h:=rankZ_lt (n:=n) hEP;refine SmQ.int (by decide) ?_
 have:(2:Nat)^124+1<2^130:=by decide
 omega
theorem cNextU (hF:Fmt E P) (hn:n<2^(E+P)) (hk:kd E P n≤3):Cal Tryz.prog OQ 106 [fA E P,wA n,bA true] (.t [wA (nextU E P n),iA 0]):=by
 have hb:=(fmt_n hF).2.2.2.2.2;have hE:=(fmt_n hF).1;have hP1:1≤P:=by have:=(fmt_n hF).2.2.1;omega
 have hEP:E+P≤124:=by have:=fmt_n hF;omega
 refine fn_call TK MX Tryz.func106 rfl (by kernel_rfl) (by kernel_rfl) (by kernel_rfl) rfl rfl ?_;unfold nextU
 conv=>whnf
 refine ⟨_,cWith1 (m:=0) hF (by decide) (w128 hF hn),?_⟩;rw [if_pos hn]
 conv=>whnf
 refine ⟨_,cLook hF hb (w128 hF hn),?_⟩
 conv=>whnf
 rw [dF (show ¬ wkind E P n≥4 from fun h=>by have:wkind E P n≤3:=hk;omega)]
 conv=>whnf
 refine ⟨_,cInf (neg:=false) hF,?_⟩
 conv=>whnf
 rw [word_eq (w128 hF hn) (w128 hF (inf_ok hP1 _).1)]
 by_cases hi:n=infw E P false
 ·rw [dT hi,if_pos hi]
  conv=>whnf
  rfl
 ·rw [dF hi,if_neg hi];have hR:(rankZ E P n+1).natAbs<2^124:=by
   have hm:=(kind_mag (E:=E) (n:=n) hP1).1 hk;have ha:=rank_abs E P n;have hI:infZ E P<2^123:=Nat.lt_of_lt_of_le (infZ_lt hP1) (Nat.pow_le_pow_right (by decide) (by omega))
   have:(2:Nat)^123+1<2^124:=by decide
   omega
  conv=>whnf
  refine ⟨_,cInt (by decide) (by decide),?_⟩
  conv=>whnf
  refine ⟨_,cRank hF hb (w128 hF hn),?_⟩
  conv=>whnf
  refine ⟨_,cAdd (K:=130) ((rank_sm (n:=n) hF 0 (by decide)).mono (Nat.le_refl _) |> fun h=>by rw [Int.add_zero] at h;exact h) (SmQ.int (by decide) (by decide)) (by decide),?_⟩;rw [show ((rankZ E P n:Int):Rat)+((1:Int):Rat)=((rankZ E P n+1:Int):Rat) by rw [Rat.intCast_add]]
  conv=>whnf
  refine ⟨_,cSign,?_⟩
  conv=>whnf
  rw [signZ]
  by_cases h0:rankZ E P n+1=0
  ·rw [if_pos h0,dT (show ((rankZ E P n+1:Int):Rat)=0 by rw [h0];rfl)]
   conv=>whnf
   refine ⟨_,cZero hF,?_⟩
   conv=>whnf
   rfl
  ·rw [if_neg h0,dF (show ¬ ((rankZ E P n+1:Int):Rat)=0 from fun h=>h0 (by
    have:((rankZ E P n+1:Int):Rat)=((0:Int):Rat):=h
    rwa [Rat.intCast_inj] at this))]
   conv=>whnf
   refine ⟨_,cRanked hF hR,?_⟩
   conv=>whnf
   rfl
theorem cNextD (hF:Fmt E P) (hn:n<2^(E+P)) (hk:kd E P n≤3):Cal Tryz.prog OQ 106 [fA E P,wA n,bA false] (.t [wA (nextD E P n),iA 0]):=by
 have hb:=(fmt_n hF).2.2.2.2.2;have hE:=(fmt_n hF).1;have hP1:1≤P:=by have:=(fmt_n hF).2.2.1;omega
 have hEP:E+P≤124:=by have:=fmt_n hF;omega
 refine fn_call TK MX Tryz.func106 rfl (by kernel_rfl) (by kernel_rfl) (by kernel_rfl) rfl rfl ?_;unfold nextD
 conv=>whnf
 refine ⟨_,cWith1 (m:=0) hF (by decide) (w128 hF hn),?_⟩;rw [if_pos hn]
 conv=>whnf
 refine ⟨_,cLook hF hb (w128 hF hn),?_⟩
 conv=>whnf
 rw [dF (show ¬ wkind E P n≥4 from fun h=>by have:wkind E P n≤3:=hk;omega)]
 conv=>whnf
 refine ⟨_,cInf (neg:=true) hF,?_⟩
 conv=>whnf
 rw [word_eq (w128 hF hn) (w128 hF (inf_ok hP1 _).1)]
 by_cases hi:n=infw E P true
 ·rw [dT hi,if_pos hi]
  conv=>whnf
  rfl
 ·rw [dF hi,if_neg hi];have hR:(rankZ E P n + -1).natAbs<2^124:=by
   have hm:=(kind_mag (E:=E) (n:=n) hP1).1 hk;have ha:=rank_abs E P n;have hI:infZ E P<2^123:=Nat.lt_of_lt_of_le (infZ_lt hP1) (Nat.pow_le_pow_right (by decide) (by omega))
   have:(2:Nat)^123+1<2^124:=by decide
   omega
  conv=>whnf
  refine ⟨_,cInt (by decide) (by decide),?_⟩
  conv=>whnf
  refine ⟨_,cInt (by decide) (by decide),?_⟩
  conv=>whnf
  refine ⟨_,cRank hF hb (w128 hF hn),?_⟩
  conv=>whnf
  refine ⟨_,cAdd (K:=130) ((rank_sm (n:=n) hF 0 (by decide)).mono (Nat.le_refl _) |> fun h=>by rw [Int.add_zero] at h;exact h) (SmQ.int (by decide) (by decide)) (by decide),?_⟩;rw [show ((rankZ E P n:Int):Rat)+((-1:Int):Rat)=((rankZ E P n + -1:Int):Rat) by rw [Rat.intCast_add]]
  conv=>whnf
  refine ⟨_,cSign,?_⟩
  conv=>whnf
  rw [signZ]
  cases hs0:decide (((rankZ E P n + -1:Int):Rat)=0)
  ·conv=>whnf
   refine ⟨_,cRanked hF hR,?_⟩
   conv=>whnf
   rfl
  ·conv=>whnf
   refine ⟨_,cRanked hF hR,?_⟩
   conv=>whnf
   rfl
theorem cGreatF (hF:Fmt E P):Cal Tryz.prog OQ 21 [fA E P] (.t [nA (grQ P (bias E)),iA 0]):=by
 refine fn_call TK MX Tryz.func21 rfl (by kernel_rfl) (by kernel_rfl) (by kernel_rfl) rfl rfl ?_
 conv=>whnf
 refine ⟨_,cWith0 (m:=0) hF (by decide),?_⟩
 conv=>whnf
 refine ⟨_,cGreatM hF (fmt_n hF).2.2.2.2.2,?_⟩
 conv=>whnf
 rfl
theorem cNormalW (hF:Fmt E P):Cal Tryz.prog OQ 22 [fA E P] (.t [nA ((2:Rat)^(1-(bias E:Int))),iA 0]):=by
 refine fn_call TK MX Tryz.func22 rfl (by kernel_rfl) (by kernel_rfl) (by kernel_rfl) rfl rfl ?_;have hb:=(fmt_n hF).2.2.2.2.2
 conv=>whnf
 refine ⟨_,cWith0 (m:=0) hF (by decide),?_⟩
 conv=>whnf
 refine ⟨_,cNormalF ⟨by omega,by omega⟩,?_⟩
 conv=>whnf
 refine ⟨_,cTwoF (by omega) (by omega),?_⟩
 conv=>whnf
 rfl
theorem cGreatBad {E P:Int} (hF:¬ Fmt E P):Cal Tryz.prog OQ 21 [fA E P] (.t [nA 0,iA 2]):=by
 refine fn_call TK MX Tryz.func21 rfl (by kernel_rfl) (by kernel_rfl) (by kernel_rfl) rfl rfl ?_
 conv=>whnf
 refine ⟨_,cWithBad (M:=0) (a:=.c (.v (.slice none 0 0))) rfl (fun h=>hF h.2),?_⟩
 conv=>whnf
 rfl
theorem cNormalBad {E P:Int} (hF:¬ Fmt E P):Cal Tryz.prog OQ 22 [fA E P] (.t [nA 0,iA 2]):=by
 refine fn_call TK MX Tryz.func22 rfl (by kernel_rfl) (by kernel_rfl) (by kernel_rfl) rfl rfl ?_
 conv=>whnf
 refine ⟨_,cWithBad (M:=0) (a:=.c (.v (.slice none 0 0))) rfl (fun h=>hF h.2),?_⟩
 conv=>whnf
 rfl
theorem cFar (sx:SmQ K q) (sy:SmQ K r) (hK:K≤20000000):Cal Tryz.prog OQ 107 [nA q,nA r] (nA (absQ (q-r))):=by
 refine fn_call TK MX Tryz.func107 rfl (by kernel_rfl) (by kernel_rfl) (by kernel_rfl) rfl rfl ?_
 conv=>whnf
 refine ⟨_,cSub sx sy hK,?_⟩
 conv=>whnf
 refine ⟨_,cAbs,?_⟩
 conv=>whnf
 rfl
theorem cmp_ge {a c:Rat} (h:c≤a):cmpQ a c≥0:=by
 have h1:¬ cmpQ a c<0:=fun k=>Rat.not_lt.2 h (cmpQ_lt.1 k)
 omega
end
theorem cBeside {E P m K:Nat} {q:Rat} (hF:Fmt E P) (hm:m≤4) (sx:SmQ K q) (hK:K≤12000) (hw:wkind E P (rq E P m q).1≤2):Cal Tryz.prog OQ 24 [fA E P,iA (m:Nat),nA q,nA (rdV E P m q),wA (rq E P m q).1] (bA true):=by
 have hE:=(fmt_n hF).1;have hE1:1≤E:=by omega
 have hP:1≤P:=by have:=(fmt_n hF).2.2.1;omega
 have hlt:=rq_lt (m:=m) (q:=q) hF;obtain ⟨u1,u2,u3⟩:=up_facts2 hE1 hP hlt hw;obtain ⟨d1,d2,d3⟩:=down_facts hE1 hP hlt hw;have sy:SmQ 12000 (rdV E P m q):=(sm_word hF).mono (by decide);have sx':SmQ 12000 q:=sx.mono hK;have su:SmQ 12000 (vl E P (nextU E P (rq E P m q).1)):=(sm_word hF).mono (by decide);have sd:SmQ 12000 (vl E P (nextD E P (rq E P m q).1)):=(sm_word hF).mono (by decide);have hu:wkind E P (nextU E P (rq E P m q).1)≤2→q<vl E P (nextU E P (rq E P m q).1):=fun h=>beyond_up hE hP hw (val_has hE hP h) (rank_val hP hw h (by omega));have hd:wkind E P (nextD E P (rq E P m q).1)≤2→vl E P (nextD E P (rq E P m q).1)<q:=fun h=>beyond_down hE hP hw (val_has hE hP h) (rank_val hP h hw (by omega));have n1:(m=0∨m=1)→wkind E P (nextU E P (rq E P m q).1)≤2→absQ (rdV E P m q-q)≤absQ (vl E P (nextU E P (rq E P m q).1)-q):=fun h k=>dir_near hE hP h hw (val_has hE hP k);have n2:(m=0∨m=1)→wkind E P (nextD E P (rq E P m q).1)≤2→absQ (rdV E P m q-q)≤absQ (vl E P (nextD E P (rq E P m q).1)-q):=fun h k=>dir_near hE hP h hw (val_has hE hP k);have t3:m=3→q≤rdV E P m q:=fun h=>by subst h;exact dir_up hE hP hw
 have t4:m=4→rdV E P m q≤q:=fun h=>by subst h;exact dir_down hE hP hw
 have t2:m=2→absQ (rdV E P m q)≤absQ q:=fun h=>by subst h;exact dir_trunc hE hP hw
 have cU:=cNextU hF hlt (show wkind E P _≤3 by omega);have cD:=cNextD hF hlt (show wkind E P _≤3 by omega);have vU:=cValue hF u1;have vD:=cValue hF d1;unfold valR at vU vD;rw [show wvalK E P (bias E) (nextU E P (rq E P m q).1)=vl E P (nextU E P (rq E P m q).1) from rfl] at vU;rw [show wvalK E P (bias E) (nextD E P (rq E P m q).1)=vl E P (nextD E P (rq E P m q).1) from rfl] at vD;clear u2 d2 u3 d3;generalize vl E P (nextU E P (rq E P m q).1)=hi at *
 generalize vl E P (nextD E P (rq E P m q).1)=lo at *
 generalize rdV E P m q=y at *
 generalize nextU E P (rq E P m q).1=U at *
 generalize nextD E P (rq E P m q).1=D at *
 refine fn_call TK MX Tryz.func24 rfl (by kernel_rfl) (by kernel_rfl) (by kernel_rfl) rfl rfl ?_
 conv=>whnf
 refine ⟨_,cU,?_⟩
 conv=>whnf
 refine ⟨_,cD,?_⟩
 conv=>whnf
 refine ⟨_,vU,?_⟩
 by_cases kU:wkind E P U≤2
 ·rw [if_pos kU]
  conv=>whnf
  refine ⟨_,vD,?_⟩
  by_cases kD:wkind E P D≤2
  ·rw [if_pos kD]
   conv=>whnf
   rcases (show m=0∨m=1∨m=2∨m=3∨m=4 by omega) with rfl | rfl | rfl | rfl | rfl
   ·conv=>whnf
    refine ⟨_,cFar sy sx' (by decide),?_⟩
    conv=>whnf
    refine ⟨_,cFar su sx' (by decide),?_⟩
    conv=>whnf
    refine ⟨_,cCmp (sy.sub sx').absQ (su.sub sx').absQ (by decide),?_⟩
    conv=>whnf
    rw [dT (show cmpQ (absQ (y-q)) (absQ (hi-q))≤0 from cmpQ_iff.2 (n1 (by omega) kU))]
    conv=>whnf
    refine ⟨_,cFar sy sx' (by decide),?_⟩
    conv=>whnf
    refine ⟨_,cFar sd sx' (by decide),?_⟩
    conv=>whnf
    refine ⟨_,cCmp (sy.sub sx').absQ (sd.sub sx').absQ (by decide),?_⟩
    conv=>whnf
    rw [dT (show cmpQ (absQ (y-q)) (absQ (lo-q))≤0 from cmpQ_iff.2 (n2 (by omega) kD))]
    conv=>whnf
    rfl
   ·conv=>whnf
    refine ⟨_,cFar sy sx' (by decide),?_⟩
    conv=>whnf
    refine ⟨_,cFar su sx' (by decide),?_⟩
    conv=>whnf
    refine ⟨_,cCmp (sy.sub sx').absQ (su.sub sx').absQ (by decide),?_⟩
    conv=>whnf
    rw [dT (show cmpQ (absQ (y-q)) (absQ (hi-q))≤0 from cmpQ_iff.2 (n1 (by omega) kU))]
    conv=>whnf
    refine ⟨_,cFar sy sx' (by decide),?_⟩
    conv=>whnf
    refine ⟨_,cFar sd sx' (by decide),?_⟩
    conv=>whnf
    refine ⟨_,cCmp (sy.sub sx').absQ (sd.sub sx').absQ (by decide),?_⟩
    conv=>whnf
    rw [dT (show cmpQ (absQ (y-q)) (absQ (lo-q))≤0 from cmpQ_iff.2 (n2 (by omega) kD))]
    conv=>whnf
    rfl
   ·conv=>whnf
    refine ⟨_,cAbs,?_⟩
    conv=>whnf
    refine ⟨_,cAbs,?_⟩
    conv=>whnf
    refine ⟨_,cCmp sy.absQ sx'.absQ (by decide),?_⟩
    conv=>whnf
    rw [dT (show cmpQ (absQ y) (absQ q)≤0 from cmpQ_iff.2 (t2 rfl))]
    conv=>whnf
    refine ⟨_,cSign,?_⟩
    conv=>whnf
    by_cases h1:q.num.sign≤0
    ·rw [dT h1]
     conv=>whnf
     refine ⟨_,cSign,?_⟩
     conv=>whnf
     by_cases h2:q.num.sign≥0
     ·rw [dT h2]
      conv=>whnf
      rfl
     ·rw [dF h2]
      conv=>whnf
      refine ⟨_,cCmp sd sx' (by decide),?_⟩
      conv=>whnf
      rw [dT (show cmpQ lo q<0 from cmpQ_lt.2 (hd kD))]
      conv=>whnf
      rfl
    ·rw [dF h1]
     conv=>whnf
     refine ⟨_,cCmp su sx' (by decide),?_⟩
     conv=>whnf
     rw [dT (show cmpQ hi q>0 from cmpQ_gt.2 (hu kU))]
     conv=>whnf
     refine ⟨_,cSign,?_⟩
     conv=>whnf
     by_cases h2:q.num.sign≥0
     ·rw [dT h2]
      conv=>whnf
      rfl
     ·rw [dF h2]
      conv=>whnf
      refine ⟨_,cCmp sd sx' (by decide),?_⟩
      conv=>whnf
      rw [dT (show cmpQ lo q<0 from cmpQ_lt.2 (hd kD))]
      conv=>whnf
      rfl
   ·conv=>whnf
    refine ⟨_,cCmp sy sx' (by decide),?_⟩
    conv=>whnf
    rw [dT (show cmpQ y q≥0 from cmp_ge (t3 rfl))]
    conv=>whnf
    refine ⟨_,cCmp sd sx' (by decide),?_⟩
    conv=>whnf
    rw [dT (show cmpQ lo q<0 from cmpQ_lt.2 (hd kD))]
    conv=>whnf
    rfl
   ·conv=>whnf
    refine ⟨_,cCmp sy sx' (by decide),?_⟩
    conv=>whnf
    rw [dT (show cmpQ y q≤0 from cmpQ_iff.2 (t4 rfl))]
    conv=>whnf
    refine ⟨_,cCmp su sx' (by decide),?_⟩
    conv=>whnf
    rw [dT (show cmpQ hi q>0 from cmpQ_gt.2 (hu kU))]
    conv=>whnf
    rfl
  ·rw [if_neg kD]
   conv=>whnf
   rcases (show m=0∨m=1∨m=2∨m=3∨m=4 by omega) with rfl | rfl | rfl | rfl | rfl
   ·conv=>whnf
    refine ⟨_,cFar sy sx' (by decide),?_⟩
    conv=>whnf
    refine ⟨_,cFar su sx' (by decide),?_⟩
    conv=>whnf
    refine ⟨_,cCmp (sy.sub sx').absQ (su.sub sx').absQ (by decide),?_⟩
    conv=>whnf
    rw [dT (show cmpQ (absQ (y-q)) (absQ (hi-q))≤0 from cmpQ_iff.2 (n1 (by omega) kU))]
    conv=>whnf
    rfl
   ·conv=>whnf
    refine ⟨_,cFar sy sx' (by decide),?_⟩
    conv=>whnf
    refine ⟨_,cFar su sx' (by decide),?_⟩
    conv=>whnf
    refine ⟨_,cCmp (sy.sub sx').absQ (su.sub sx').absQ (by decide),?_⟩
    conv=>whnf
    rw [dT (show cmpQ (absQ (y-q)) (absQ (hi-q))≤0 from cmpQ_iff.2 (n1 (by omega) kU))]
    conv=>whnf
    rfl
   ·conv=>whnf
    refine ⟨_,cAbs,?_⟩
    conv=>whnf
    refine ⟨_,cAbs,?_⟩
    conv=>whnf
    refine ⟨_,cCmp sy.absQ sx'.absQ (by decide),?_⟩
    conv=>whnf
    rw [dT (show cmpQ (absQ y) (absQ q)≤0 from cmpQ_iff.2 (t2 rfl))]
    conv=>whnf
    refine ⟨_,cSign,?_⟩
    conv=>whnf
    by_cases h1:q.num.sign≤0
    ·rw [dT h1]
     conv=>whnf
     rfl
    ·rw [dF h1]
     conv=>whnf
     refine ⟨_,cCmp su sx' (by decide),?_⟩
     conv=>whnf
     rw [dT (show cmpQ hi q>0 from cmpQ_gt.2 (hu kU))]
     conv=>whnf
     rfl
   ·conv=>whnf
    refine ⟨_,cCmp sy sx' (by decide),?_⟩
    conv=>whnf
    rw [dT (show cmpQ y q≥0 from cmp_ge (t3 rfl))]
    conv=>whnf
    rfl
   ·conv=>whnf
    refine ⟨_,cCmp sy sx' (by decide),?_⟩
    conv=>whnf
    rw [dT (show cmpQ y q≤0 from cmpQ_iff.2 (t4 rfl))]
    conv=>whnf
    refine ⟨_,cCmp su sx' (by decide),?_⟩
    conv=>whnf
    rw [dT (show cmpQ hi q>0 from cmpQ_gt.2 (hu kU))]
    conv=>whnf
    rfl
 ·rw [if_neg kU]
  conv=>whnf
  refine ⟨_,vD,?_⟩
  by_cases kD:wkind E P D≤2
  ·rw [if_pos kD]
   conv=>whnf
   rcases (show m=0∨m=1∨m=2∨m=3∨m=4 by omega) with rfl | rfl | rfl | rfl | rfl
   ·conv=>whnf
    refine ⟨_,cFar sy sx' (by decide),?_⟩
    conv=>whnf
    refine ⟨_,cFar sd sx' (by decide),?_⟩
    conv=>whnf
    refine ⟨_,cCmp (sy.sub sx').absQ (sd.sub sx').absQ (by decide),?_⟩
    conv=>whnf
    rw [dT (show cmpQ (absQ (y-q)) (absQ (lo-q))≤0 from cmpQ_iff.2 (n2 (by omega) kD))]
    conv=>whnf
    rfl
   ·conv=>whnf
    refine ⟨_,cFar sy sx' (by decide),?_⟩
    conv=>whnf
    refine ⟨_,cFar sd sx' (by decide),?_⟩
    conv=>whnf
    refine ⟨_,cCmp (sy.sub sx').absQ (sd.sub sx').absQ (by decide),?_⟩
    conv=>whnf
    rw [dT (show cmpQ (absQ (y-q)) (absQ (lo-q))≤0 from cmpQ_iff.2 (n2 (by omega) kD))]
    conv=>whnf
    rfl
   ·conv=>whnf
    refine ⟨_,cAbs,?_⟩
    conv=>whnf
    refine ⟨_,cAbs,?_⟩
    conv=>whnf
    refine ⟨_,cCmp sy.absQ sx'.absQ (by decide),?_⟩
    conv=>whnf
    rw [dT (show cmpQ (absQ y) (absQ q)≤0 from cmpQ_iff.2 (t2 rfl))]
    conv=>whnf
    refine ⟨_,cSign,?_⟩
    conv=>whnf
    by_cases h2:q.num.sign≥0
    ·rw [dT h2]
     conv=>whnf
     rfl
    ·rw [dF h2]
     conv=>whnf
     refine ⟨_,cCmp sd sx' (by decide),?_⟩
     conv=>whnf
     rw [dT (show cmpQ lo q<0 from cmpQ_lt.2 (hd kD))]
     conv=>whnf
     rfl
   ·conv=>whnf
    refine ⟨_,cCmp sy sx' (by decide),?_⟩
    conv=>whnf
    rw [dT (show cmpQ y q≥0 from cmp_ge (t3 rfl))]
    conv=>whnf
    refine ⟨_,cCmp sd sx' (by decide),?_⟩
    conv=>whnf
    rw [dT (show cmpQ lo q<0 from cmpQ_lt.2 (hd kD))]
    conv=>whnf
    rfl
   ·conv=>whnf
    refine ⟨_,cCmp sy sx' (by decide),?_⟩
    conv=>whnf
    rw [dT (show cmpQ y q≤0 from cmpQ_iff.2 (t4 rfl))]
    conv=>whnf
    rfl
  ·rw [if_neg kD]
   conv=>whnf
   rcases (show m=0∨m=1∨m=2∨m=3∨m=4 by omega) with rfl | rfl | rfl | rfl | rfl
   ·conv=>whnf
    rfl
   ·conv=>whnf
    rfl
   ·conv=>whnf
    refine ⟨_,cAbs,?_⟩
    conv=>whnf
    refine ⟨_,cAbs,?_⟩
    conv=>whnf
    refine ⟨_,cCmp sy.absQ sx'.absQ (by decide),?_⟩
    conv=>whnf
    rw [dT (show cmpQ (absQ y) (absQ q)≤0 from cmpQ_iff.2 (t2 rfl))]
    conv=>whnf
    rfl
   ·conv=>whnf
    refine ⟨_,cCmp sy sx' (by decide),?_⟩
    conv=>whnf
    rw [dT (show cmpQ y q≥0 from cmp_ge (t3 rfl))]
    conv=>whnf
    rfl
   ·conv=>whnf
    refine ⟨_,cCmp sy sx' (by decide),?_⟩
    conv=>whnf
    rw [dT (show cmpQ y q≤0 from cmpQ_iff.2 (t4 rfl))]
    conv=>whnf
    rfl
theorem norm_le {E P:Nat} (hE:2≤E) (hP:1≤P):(2:Rat)^(1-(bias E:Int))≤grQ P (bias E):=by
 have hb:=bias_pos hE;unfold grQ;have h1:(2:Rat)^(((P-1:Nat):Int)+((bias E:Int)-P+1))≤((2^P-1:Nat):Rat)*(2:Rat)^((bias E:Int)-P+1):=by
  rw [p2_add,p2_nat];have hp:2^P=2*2^(P-1):=by rw [←Nat.pow_succ'];congr 1;omega
  have hp1:0<2^(P-1):=Nat.pow_pos (by decide)
  exact Rat.mul_le_mul_of_nonneg_right (by rw [Rat.natCast_le_natCast];omega) (Rat.le_of_lt (p2_pos _))
 exact Rat.le_trans (p2_mono (by omega)) h1
theorem near_cases {E P m:Nat} {q:Rat} (hE:2≤E) (hP:1≤P) :
  (wkind E P (rq E P m q).1=3∧(rq E P m q).2=20∧grQ P (bias E)<absQ q) ∨
  (wkind E P (rq E P m q).1≤2∧(((rq E P m q).2=0∧rdV E P m q=q)∨((rq E P m q).2=16∧rdV E P m q≠q∧¬ absQ q<(2:Rat)^(1-(bias E:Int))) ∨
   ((rq E P m q).2=24∧rdV E P m q≠q∧absQ q<(2:Rat)^(1-(bias E:Int)))∨((rq E P m q).2=20∧rdV E P m q≠q∧¬ absQ q<(2:Rat)^(1-(bias E:Int))∧grQ P (bias E)<absQ q))):=by
 by_cases h0:q=0
 ·right
  subst h0;refine ⟨rq_kind hE hP (.inl rfl),.inl ⟨by rw [rq_zero],rdV_zero hP hE⟩⟩
 ·by_cases c:szQ E P m q≤grQ P (bias E)
  ·right
   have hk:=rq_kind (m:=m) hE hP (.inr (.inl c));refine ⟨hk,?_⟩;have hv:rdV E P m q=sgnQ (decide (q.num<0))*szQ E P m q:=by
    rw [rdV_eq hE hP hk h0];unfold vR;rw [if_pos c]
   have he:=sz_exact (E:=E) (P:=P) (m:=m) (q:=q);rw [←hv] at he;rw [rq_fin h0 c];have hb:decide (lgQ q<1-((bias E:Nat):Int))=decide (absQ q<(2:Rat)^(1-(bias E:Int))):=by simp only [below_log h0]
   rw [hb];unfold endF
   by_cases d:(rdT P (bias E) (lgQ q) q).den=1
   ·left
    rw [decide_eq_true d] at he ⊢;rw [if_pos rfl]
    exact ⟨rfl,(cmp_zero (beq_iff_eq.1 he)).symm⟩
   ·right
    have hne:rdV E P m q≠q:=fun k=>by
     rw [k,cmpQ_self,decide_eq_false d] at he
     exact absurd he (by decide)
    rw [decide_eq_false d,if_neg (by decide)]
    by_cases t:absQ q<(2:Rat)^(1-(bias E:Int))
    ·right;left
     rw [decide_eq_true t,if_pos rfl]
     exact ⟨rfl,hne,t⟩
    ·left
     rw [decide_eq_false t,if_neg (by decide)]
     exact ⟨rfl,hne,t⟩
  ·have hg:=over_big (b:=bias E) (bias_pos hE) (lg_is h0) c;have hr:=rq_big h0 c
   by_cases d:modeN m (decide (q.num<0))=2∨modeN m (decide (q.num<0))=4
   ·right
    have hk:=rq_kind (m:=m) hE hP (.inr (.inr d));refine ⟨hk,.inr (.inr (.inr ⟨hr.1,fun k => ?_,fun k => ?_,hg⟩))⟩
    ·have h1:=(hasB_iff.1 (val_has hE hP hk)).2;have k:vl E P (rq E P m q).1=q:=k;rw [k] at h1
     exact Rat.not_lt.2 h1 hg
    ·exact Rat.not_lt.2 (Rat.le_trans (norm_le hE hP) (Rat.le_of_lt hg)) k
   ·left
    refine ⟨?_,hr.1,hg⟩;rw [hr.2 d,inf_kind hP]
theorem cmp_ne {a c:Rat} (h:a≠c):(cmpQ a c != 0)=true:=bne_iff_ne.2 (fun k=>h (cmp_zero k))
theorem cNearest {E P M:Int} {S T:List UInt8} (hS:S.length≤9223372036854775807) (_hT:T.length≤9223372036854775807):Cal Tryz.prog OQ 5 [.g (askC E P M S T)] (bA true):=by
 refine fn_call TK MX Tryz.func5 rfl (by kernel_rfl) (by kernel_rfl) (by kernel_rfl) rfl rfl ?_;have sq:=parse_sm S
 by_cases hF':Fmt E P
 ·by_cases hM:0≤M∧M≤4
  ·obtain ⟨e,p,m,rfl,rfl,rfl,hm,hF⟩:=fmt_cases ⟨hM,hF'⟩;have hE:=(fmt_n hF).1;have hP:1≤p:=by have:=(fmt_n hF).2.2.1;omega
   have hb:=(fmt_n hF).2.2.2.2.2;have sg:SmQ 16000 (grQ p (bias e)):=grQ_sm ⟨(fmt_n hF).2.2.1,(fmt_n hF).2.2.2.1⟩ hb;have sn:SmQ 16000 ((2:Rat)^(1-(bias e:Int))):=(p2_sm (L:=2000) (by omega)).mono (by decide)
   conv=>whnf
   refine ⟨_,cRead hS,?_⟩;generalize (parseV S).1=q at *
   have sq':SmQ 16000 q:=sq.mono (by decide)
   conv=>whnf
   refine ⟨_,cRoundF hF hm sq (by decide),?_⟩
   conv=>whnf
   refine ⟨_,cGreatF hF,?_⟩
   conv=>whnf
   refine ⟨_,cNormalW hF,?_⟩
   conv=>whnf
   cases hok:okP S
   ·conv=>whnf
    refine ⟨_,cAwakeE,?_⟩
    conv=>whnf
    rfl
   conv=>whnf
   have hv:=cValue hF (rq_lt (m:=m) (q:=q) hF);unfold valR at hv;rw [show wvalK e p (bias e) (rq e p m q).1=rdV e p m q from rfl] at hv
   rcases near_cases (m:=m) (q:=q) hE hP with ⟨k3,fl,hg⟩ | ⟨hk,hc⟩
   ·rw [if_neg (show ¬ wkind e p (rq e p m q).1≤2 by omega)] at hv;refine ⟨_,hv,?_⟩
    conv=>whnf
    refine ⟨_,cAbs,?_⟩
    conv=>whnf
    refine ⟨_,cCmp sq'.absQ sg (by decide),?_⟩
    conv=>whnf
    rw [dT (show cmpQ (absQ q) (grQ p (bias e))>0 from cmpQ_gt.2 hg)]
    conv=>whnf
    rw [fl]
    conv=>whnf
    refine ⟨_,cAwakeE,?_⟩
    conv=>whnf
    rfl
   ·rw [if_pos hk] at hv;have sy:SmQ 16000 (rdV e p m q):=(sm_word hF).mono (by decide);have cB:=cBeside hF hm sq (by decide) hk;have hss:=sign_same (m:=m) (q:=q) hE hP hk;refine ⟨_,hv,?_⟩;generalize rdV e p m q=y at *
    conv=>whnf
    refine ⟨_,cAbs,?_⟩
    conv=>whnf
    refine ⟨_,cCmp sq'.absQ sg (by decide),?_⟩
    conv=>whnf
    rcases hc with ⟨fl,hy⟩ | ⟨fl,hne,ht⟩ | ⟨fl,hne,ht⟩ | ⟨fl,hne,ht,hg⟩
    ·rw [fl] at *
     subst hy
     conv=>whnf
     refine ⟨_,cB,?_⟩
     conv=>whnf
     refine ⟨_,cSign,?_⟩
     conv=>whnf
     by_cases hz:y.num.sign=0
     ·rw [show (y.num.sign != 0)=false by rw [hz];rfl]
      conv=>whnf
      refine ⟨_,cCmp sy sq' (by decide),?_⟩
      conv=>whnf
      rw [cmpQ_self]
      conv=>whnf
      refine ⟨_,cAwakeE,?_⟩
      conv=>whnf
      rfl
     ·rw [show (y.num.sign != 0)=true from bne_iff_ne.2 hz]
      conv=>whnf
      refine ⟨_,cSign,?_⟩
      conv=>whnf
      refine ⟨_,cSign,?_⟩
      conv=>whnf
      rw [show (y.num.sign != y.num.sign)=false by simp]
      conv=>whnf
      refine ⟨_,cCmp sy sq' (by decide),?_⟩
      conv=>whnf
      rw [cmpQ_self]
      conv=>whnf
      refine ⟨_,cAwakeE,?_⟩
      conv=>whnf
      rfl
    ·rw [fl] at *
     conv=>whnf
     refine ⟨_,cB,?_⟩
     conv=>whnf
     refine ⟨_,cSign,?_⟩
     conv=>whnf
     by_cases hz:y.num.sign=0
     ·rw [show (y.num.sign != 0)=false by rw [hz];rfl]
      conv=>whnf
      refine ⟨_,cCmp sy sq' (by decide),?_⟩
      conv=>whnf
      rw [cmp_ne hne]
      conv=>whnf
      refine ⟨_,cAbs,?_⟩
      conv=>whnf
      refine ⟨_,cCmp sq'.absQ sn (by decide),?_⟩
      conv=>whnf
      rw [dF (show ¬ cmpQ (absQ q) ((2:Rat)^(1-(bias e:Int)))<0 from fun k=>ht (cmpQ_lt.1 k))]
      conv=>whnf
      refine ⟨_,cAwakeE,?_⟩
      conv=>whnf
      rfl
     ·rw [show (y.num.sign != 0)=true from bne_iff_ne.2 hz]
      conv=>whnf
      refine ⟨_,cSign,?_⟩
      conv=>whnf
      refine ⟨_,cSign,?_⟩
      conv=>whnf
      rw [hss hz,show (q.num.sign != q.num.sign)=false by simp]
      conv=>whnf
      refine ⟨_,cCmp sy sq' (by decide),?_⟩
      conv=>whnf
      rw [cmp_ne hne]
      conv=>whnf
      refine ⟨_,cAbs,?_⟩
      conv=>whnf
      refine ⟨_,cCmp sq'.absQ sn (by decide),?_⟩
      conv=>whnf
      rw [dF (show ¬ cmpQ (absQ q) ((2:Rat)^(1-(bias e:Int)))<0 from fun k=>ht (cmpQ_lt.1 k))]
      conv=>whnf
      refine ⟨_,cAwakeE,?_⟩
      conv=>whnf
      rfl
    ·rw [fl] at *
     conv=>whnf
     refine ⟨_,cB,?_⟩
     conv=>whnf
     refine ⟨_,cSign,?_⟩
     conv=>whnf
     by_cases hz:y.num.sign=0
     ·rw [show (y.num.sign != 0)=false by rw [hz];rfl]
      conv=>whnf
      refine ⟨_,cCmp sy sq' (by decide),?_⟩
      conv=>whnf
      rw [cmp_ne hne]
      conv=>whnf
      refine ⟨_,cAbs,?_⟩
      conv=>whnf
      refine ⟨_,cCmp sq'.absQ sn (by decide),?_⟩
      conv=>whnf
      rw [dT (show cmpQ (absQ q) ((2:Rat)^(1-(bias e:Int)))<0 from cmpQ_lt.2 ht)]
      conv=>whnf
      refine ⟨_,cAwakeE,?_⟩
      conv=>whnf
      rfl
     ·rw [show (y.num.sign != 0)=true from bne_iff_ne.2 hz]
      conv=>whnf
      refine ⟨_,cSign,?_⟩
      conv=>whnf
      refine ⟨_,cSign,?_⟩
      conv=>whnf
      rw [hss hz,show (q.num.sign != q.num.sign)=false by simp]
      conv=>whnf
      refine ⟨_,cCmp sy sq' (by decide),?_⟩
      conv=>whnf
      rw [cmp_ne hne]
      conv=>whnf
      refine ⟨_,cAbs,?_⟩
      conv=>whnf
      refine ⟨_,cCmp sq'.absQ sn (by decide),?_⟩
      conv=>whnf
      rw [dT (show cmpQ (absQ q) ((2:Rat)^(1-(bias e:Int)))<0 from cmpQ_lt.2 ht)]
      conv=>whnf
      refine ⟨_,cAwakeE,?_⟩
      conv=>whnf
      rfl
    ·rw [fl] at *
     rw [dT (show cmpQ (absQ q) (grQ p (bias e))>0 from cmpQ_gt.2 hg)]
     conv=>whnf
     refine ⟨_,cB,?_⟩
     conv=>whnf
     refine ⟨_,cSign,?_⟩
     conv=>whnf
     by_cases hz:y.num.sign=0
     ·rw [show (y.num.sign != 0)=false by rw [hz];rfl]
      conv=>whnf
      refine ⟨_,cCmp sy sq' (by decide),?_⟩
      conv=>whnf
      rw [cmp_ne hne]
      conv=>whnf
      refine ⟨_,cAbs,?_⟩
      conv=>whnf
      refine ⟨_,cCmp sq'.absQ sn (by decide),?_⟩
      conv=>whnf
      rw [dF (show ¬ cmpQ (absQ q) ((2:Rat)^(1-(bias e:Int)))<0 from fun k=>ht (cmpQ_lt.1 k))]
      conv=>whnf
      refine ⟨_,cAwakeE,?_⟩
      conv=>whnf
      rfl
     ·rw [show (y.num.sign != 0)=true from bne_iff_ne.2 hz]
      conv=>whnf
      refine ⟨_,cSign,?_⟩
      conv=>whnf
      refine ⟨_,cSign,?_⟩
      conv=>whnf
      rw [hss hz,show (q.num.sign != q.num.sign)=false by simp]
      conv=>whnf
      refine ⟨_,cCmp sy sq' (by decide),?_⟩
      conv=>whnf
      rw [cmp_ne hne]
      conv=>whnf
      refine ⟨_,cAbs,?_⟩
      conv=>whnf
      refine ⟨_,cCmp sq'.absQ sn (by decide),?_⟩
      conv=>whnf
      rw [dF (show ¬ cmpQ (absQ q) ((2:Rat)^(1-(bias e:Int)))<0 from fun k=>ht (cmpQ_lt.1 k))]
      conv=>whnf
      refine ⟨_,cAwakeE,?_⟩
      conv=>whnf
      rfl
  ·obtain ⟨e,p,m,rfl,rfl,_,hm,hF⟩:=fmt_cases (M:=0) ⟨by omega,hF'⟩
   conv=>whnf
   refine ⟨_,cRead hS,?_⟩
   conv=>whnf
   refine ⟨_,cRoundBad (fun h=>hM h.1),?_⟩
   conv=>whnf
   refine ⟨_,cGreatF hF,?_⟩
   conv=>whnf
   refine ⟨_,cNormalW hF,?_⟩
   conv=>whnf
   cases hok:okP S
   ·conv=>whnf
    refine ⟨_,cAwakeE,?_⟩
    conv=>whnf
    rfl
   ·conv=>whnf
    refine ⟨_,cAwakeE,?_⟩
    conv=>whnf
    rfl
 ·conv=>whnf
  refine ⟨_,cRead hS,?_⟩
  conv=>whnf
  refine ⟨_,cRoundBad (fun h=>hF' h.2),?_⟩
  conv=>whnf
  refine ⟨_,cGreatBad hF',?_⟩
  conv=>whnf
  refine ⟨_,cNormalBad hF',?_⟩
  conv=>whnf
  cases hok:okP S
  ·conv=>whnf
   refine ⟨_,cAwakeE,?_⟩
   conv=>whnf
   rfl
  ·conv=>whnf
   refine ⟨_,cAwakeE,?_⟩
   conv=>whnf
   rfl
end Go.Proofs.YtgabigepocfllaaGreatDoor
