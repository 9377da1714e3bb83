/- The reference: roots of numbers, by reckoning. -/
import Derived.Test.YtgabigepocfllaaGreatDoorQ49
import Derived.Test.YtgabigepocfllaaGreatDoorQ50
namespace Go.Proofs.YtgabigepocfllaaGreatDoor
open Go.RowKit Vn
set_option maxRecDepth 100000
set_option maxHeartbeats 8000000
section
variable {q:Rat} {K n:Nat} {bits:Int}
theorem cRroot (sx:Sm K n) (hK:K≤250000) (h0:0<n):Cal Tryz.prog OQ 272 [rN n] (rN (isq n)) :=
 cal_of (by kernel_rfl) rfl fun _ w vs _ hv=>match vs,hv with
  | [x],hv=>(rroot_c x n K w hv.1 sx hK h0).mono fun _ _ ⟨_,_,_,s,h1,h2,h3,h4⟩=>⟨_,h1,h4,fun _=>by rw [isq_eq h3];exact h2⟩
theorem cROne:Cal Tryz.prog OQ 179 [] (rN 1) :=
 cal_of (by kernel_rfl) rfl fun _ w vs _ hv=>match vs,hv with
  | [],_=>(rone_c w).mono fun _ _ ⟨_,_,_,h1,h2,h3⟩=>⟨_,h1,h3,fun _=>h2⟩
theorem cRBitsI {b:Int}:Cal Tryz.prog OQ 271 [iA b] (iA (inR b)):=by
 refine fn_call TK MX Tryz.func271 rfl (by kernel_rfl) (by kernel_rfl) (by kernel_rfl) rfl rfl ?_
 conv=>whnf
 rfl
theorem cRHalved {b:Int} (h0 : -100000000≤b) (h1:b≤100000000):Cal Tryz.prog OQ 270 [iA b] (iA (b/2)):=by
 refine fn_call TK MX Tryz.func270 rfl (by kernel_rfl) (by kernel_rfl) (by kernel_rfl) rfl rfl ?_
 conv=>whnf
 by_cases h:b<0
 ·rw [dT h]
  conv=>whnf
  have e1:(1-b).tdiv 2=(1-b)/2:=Int.tdiv_eq_ediv_of_nonneg (by omega);rw [IntWalk.i64_in (1-b) (by omega),e1,IntWalk.i64_in ((1-b)/2) (by omega),IntWalk.i64_in (0-(1-b)/2) (by omega),show 0-(1-b)/2=b/2 by omega]
  rfl
 ·rw [dF h]
  conv=>whnf
  have e1:b.tdiv 2=b/2:=Int.tdiv_eq_ediv_of_nonneg (by omega);rw [e1,IntWalk.i64_in (b/2) (by omega)]
  rfl
theorem smQ_of {K n:Nat} (hK:0<K) (h:Sm K n):SmQ K ((n:Nat):Rat):=SmQ.nat hK h
theorem rt_top (h:0<q):Sm 8000 (q*(2:Rat)^(-2*rtK bits q)).floor.toNat:=by
 have hL:=lg_pos h;have h1:q*(2:Rat)^(-2*rtK bits q)<(2:Rat)^(lgQ q+1)*(2:Rat)^(-2*rtK bits q):=(Rat.mul_lt_mul_right (p2_pos _)).2 hL.2;rw [←p2_add] at h1;have h2:(2:Rat)^(lgQ q+1 + -2*rtK bits q)≤(2:Rat)^((8000:Nat):Int):=p2_mono (by have:=inR_eq bits;unfold rtK;omega);have h3:=ltle h1 h2;rw [p2_nat] at h3;have h4:=(nat_floor (t:=q*(2:Rat)^(-2*rtK bits q)) (Rat.mul_nonneg (Rat.le_of_lt h) (Rat.le_of_lt (p2_pos _)))).1;have h5:=lelt h4 h3
 rwa [Rat.natCast_lt_natCast] at h5
theorem floor_cast {t:Rat} (h:0≤t):((t.floor:Int):Rat)=((t.floor.toNat:Nat):Rat):=by
 have h0:0≤t.floor:=by rw [Rat.le_floor_iff];exact h
 have e:((t.floor.toNat:Nat):Int)=t.floor:=Int.toNat_of_nonneg h0;have e2:((t.floor.toNat:Nat):Rat)=(((t.floor.toNat:Nat):Int):Rat):=rfl;rw [e2,e]
theorem mkRat_one (s:Nat):mkRat (1*(s:Int)) 1=((s:Nat):Rat):=by
 have:mkq false s 1=((s:Nat):Rat):=mkq_nat s
 rw [Int.one_mul,←this];rfl
theorem cRRtDown (sx:SmQ K q) (h:0≤q) (hK:K≤100000):Cal Tryz.prog OQ 208 [rA q,iA bits] (rA (rtDn bits q)):=by
 refine fn_call TK MX Tryz.func208 rfl (by kernel_rfl) (by kernel_rfl) (by kernel_rfl) rfl rfl ?_
 conv=>whnf
 refine ⟨rA (rtDn bits q),?_,?_⟩
 ·refine fn_call TK MX Tryz.func242 rfl (by kernel_rfl) (by kernel_rfl) (by kernel_rfl) rfl rfl ?_
  conv=>whnf
  by_cases h0:q=0
  ·subst h0;rw [show rtDn bits 0=0 from if_pos rfl]
   conv=>whnf
   rfl
  ·have hp:0<q:=by grind
   have hk:=rtK_bound (bits:=bits) sx hp;have hl:=(lg_is h0).bound sx.absQ;have hr:=inR_eq bits;have st:SmQ (K+250000) (q*(2:Rat)^(-2*rtK bits q)):=(sx.mul_p2 (-2*rtK bits q) 250000 (by omega));have hT0:0≤q*(2:Rat)^(-2*rtK bits q):=Rat.mul_nonneg h (Rat.le_of_lt (p2_pos _));have hn:=rt_pos1 (bits:=bits) hp;have sS:=rt_top (bits:=bits) hp;have hres:rtDn bits q=((isq (q*(2:Rat)^(-2*rtK bits q)).floor.toNat:Nat):Rat)*(2:Rat)^(rtK bits q):=by
    unfold rtDn rtS;rw [if_neg h0]
   rw [signZ,dF h0]
   conv=>whnf
   refine ⟨_,cRLog sx (by omega) h0 (lg_is h0),?_⟩
   conv=>whnf
   refine ⟨_,cRHalved (by omega) (by omega),?_⟩
   conv=>whnf
   refine ⟨_,cRBitsI,?_⟩
   conv=>whnf
   rw [IntWalk.i64_in (lgQ q/2-inR bits) (by omega),IntWalk.i64_in (lgQ q/2-inR bits+1) (by omega)];rw [show lgQ q/2-inR bits+1=rtK bits q from rfl];generalize hkk:rtK bits q=k at *
   rw [IntWalk.i64_in (-2*k) (by omega)];refine ⟨_,cRShift sx (by omega) (by omega) (by omega),?_⟩
   conv=>whnf
   refine ⟨_,cRFloor st (by omega),?_⟩;rw [floor_cast hT0,hres];generalize (q*(2:Rat)^(-2*k)).floor.toNat=T at *
   conv=>whnf
   refine ⟨_,cRroot (n:=T) sS (by omega) hn,?_⟩
   conv=>whnf
   refine ⟨_,cROne,?_⟩
   conv=>whnf
   refine ⟨_,cRmade (K:=8000) (.inl rfl) (isq_sm sS) (Sm.one 7999) (by decide) (by decide),?_⟩;rw [mkRat_one];have s2:SmQ 8000 ((isq T:Nat):Rat):=smQ_of (by omega) (isq_sm sS)
   conv=>whnf
   refine ⟨_,cRShift s2 (by omega) (by omega) (by omega),?_⟩
   conv=>whnf
   rfl
 ·conv=>whnf
  rfl
end
section
variable {E P m:Nat} {q:Rat} {K:Nat}
def rsE (E P:Nat) (q:Rat):Int:=if q=0 then 2-((bias E:Nat):Int)-P else rdK P (bias E) (lgQ q/2)
theorem p2_sq (k:Int):(2:Rat)^k*(2:Rat)^k=(2:Rat)^(2*k):=by rw [←p2_add];congr 1;omega
theorem rt_below {b:Nat} (h:0<q):q<(2:Rat)^(1-(b:Int))*(2:Rat)^(1-(b:Int))↔lgQ q/2<1-(b:Int):=by
 have hL:=lg_pos h;rw [p2_sq]
 constructor
 ·intro k
  have:(2:Rat)^lgQ q<(2:Rat)^(2*(1-(b:Int))):=lelt hL.1 k
  rw [p2_lt_iff] at this
  omega
 ·intro k
  exact ltle hL.2 (p2_mono (by omega))
theorem cmp_lt0 (a b:Rat):decide (cmpQ a b<0)=decide (a<b):=by
 rw [Bool.eq_iff_iff,decide_eq_true_iff,decide_eq_true_iff];unfold cmpQ
 by_cases h:a<b
 ·rw [if_pos h];simp [h]
 ·rw [if_neg h]
  constructor
  ·intro k;split at k<;>omega
  ·intro k;exact absurd k h
theorem cRRootStep (hF:Fmt E P) (sx:SmQ K q) (h:0≤q) (hK:K≤12000):Cal Tryz.prog OQ 207 [fA E P,rA q] (rA ((2:Rat)^(rsE E P q))):=by
 have p:=fmt_n hF;have sn:SmQ 3000 ((2:Rat)^(1-((bias E:Nat):Int))):=(p2_sm (L:=2000) (by omega)).mono (by decide);refine fn_call TK MX Tryz.func207 rfl (by kernel_rfl) (by kernel_rfl) (by kernel_rfl) rfl rfl ?_;have es0:q=0→rsE E P q=2-((bias E:Nat):Int)-P:=fun h=>if_pos h;have es1:q≠0→rsE E P q=rdK P (bias E) (lgQ q/2):=fun h=>if_neg h
 conv=>whnf
 refine ⟨_,cRNormal hF,?_⟩
 conv=>whnf
 refine ⟨_,cRNormal hF,?_⟩
 conv=>whnf
 refine ⟨_,cRTimes sn sn (by decide),?_⟩
 conv=>whnf
 refine ⟨_,cRCmp (K:=20000) (sx.mono (by omega)) ((sn.mul sn).mono (by decide)) (by decide),?_⟩
 conv=>whnf
 rw [cmp_lt0]
 by_cases h0:q=0
 ·subst h0;have hz:(0:Rat)<(2:Rat)^(1-((bias E:Nat):Int))*(2:Rat)^(1-((bias E:Nat):Int)):=Rat.mul_pos (p2_pos _) (p2_pos _);rw [dT hz,es0 rfl]
  conv=>whnf
  refine ⟨_,cRLeast hF,?_⟩
  conv=>whnf
  rfl
 ·have hp:0<q:=by grind
  have hl:=(lg_is h0).bound sx.absQ;rw [es1 h0]
  by_cases hb:lgQ q/2<1-((bias E:Nat):Int)
  ·rw [dT ((rt_below hp).2 hb),show rdK P (bias E) (lgQ q/2)=2-((bias E:Nat):Int)-P by unfold rdK rdF;omega]
   conv=>whnf
   refine ⟨_,cRLeast hF,?_⟩
   conv=>whnf
   rfl
  ·rw [dF (fun k=>hb ((rt_below hp).1 k)),show rdK P (bias E) (lgQ q/2)=lgQ q/2-P+1 by unfold rdK rdF;omega]
   conv=>whnf
   refine ⟨_,cRLog sx (by omega) h0 (lg_is h0),?_⟩
   conv=>whnf
   by_cases hn:lgQ q<0
   ·rw [dT hn]
    conv=>whnf
    have e1:(lgQ q-1).tdiv 2=lgQ q/2:=by
     have e2:lgQ q-1 = -(1-lgQ q):=by omega
     rw [e2,Int.neg_tdiv,Int.tdiv_eq_ediv_of_nonneg (by omega)];omega
    rw [IntWalk.i64_in (lgQ q-1) (by omega),e1,IntWalk.i64_in (lgQ q/2) (by omega),IntWalk.i64_in (lgQ q/2-(P:Int)) (by omega),IntWalk.i64_in (lgQ q/2-(P:Int)+1) (by omega)];refine ⟨_,cRTwo (by omega) (by omega),?_⟩
    conv=>whnf
    rfl
   ·rw [dF hn]
    conv=>whnf
    have e1:(lgQ q).tdiv 2=lgQ q/2:=Int.tdiv_eq_ediv_of_nonneg (by omega);rw [e1,IntWalk.i64_in (lgQ q/2) (by omega),IntWalk.i64_in (lgQ q/2-(P:Int)) (by omega),IntWalk.i64_in (lgQ q/2-(P:Int)+1) (by omega)];refine ⟨_,cRTwo (by omega) (by omega),?_⟩
    conv=>whnf
    rfl
noncomputable def rmQ (E P m:Nat) (q:Rat):Rat:=if q=0 then 0 else ((rtR P (bias E) m (lgQ q/2) q:Nat):Rat)*(2:Rat)^(rdK P (bias E) (lgQ q/2))
theorem cRRootMultiple (hF:Fmt E P) (hm:m≤4) (sx:SmQ K q) (h:0≤q) (hK:K≤12000):Cal Tryz.prog OQ 123 [fA E P,iA (m:Nat),rA q] (rA (rmQ E P m q)):=by
 have p:=fmt_n hF;refine fn_call TK MX Tryz.func123 rfl (by kernel_rfl) (by kernel_rfl) (by kernel_rfl) rfl rfl ?_;have hb1 : -1200≤rsE E P q∧rsE E P q≤8000:=by
  unfold rsE
  split
  ·omega
  ·rename_i h0
   have hl:=(lg_is h0).bound sx.absQ;unfold rdK rdF;omega
 have ss:SmQ 8003 ((2:Rat)^(rsE E P q)):=p2_sm (L:=8001) (by omega);have hs:=p2_pos (rsE E P q);have hss:(2:Rat)^(rsE E P q)*(2:Rat)^(rsE E P q)≠0:=by have:=Rat.mul_pos hs hs;grind
 have s2:(2:Rat)^(rsE E P q)+(2:Rat)^(rsE E P q)≠0:=by grind
 have sx':SmQ 20000 q:=sx.mono (by omega);have hst:=cRRootStep hF sx h hK;have hm0:q=0→rmQ E P m q=0:=fun h=>if_pos h;have hm1:q≠0→rmQ E P m q=((rtR P (bias E) m (lgQ q/2) q:Nat):Rat)*(2:Rat)^(rdK P (bias E) (lgQ q/2)):=fun h=>if_neg h
 conv=>whnf
 refine ⟨_,hst,?_⟩
 conv=>whnf
 refine ⟨_,cRTimes ss ss (by decide),?_⟩
 conv=>whnf
 refine ⟨_,cROver sx' ((ss.mul ss).mono (by decide)) (by decide) hss,?_⟩
 conv=>whnf
 rw [IntWalk.i64_in ((P:Int)+8) (by omega)]
 by_cases h0:q=0
 ·subst h0;have e0:(0:Rat)/((2:Rat)^(rsE E P 0)*(2:Rat)^(rsE E P 0))=0:=by rw [Rat.div_def,Rat.zero_mul]
  rw [e0,hm0 rfl];generalize (2:Rat)^(rsE E P 0)=st at *
  have z1:SmQ 9000 0:=SmQ.zero _ (by decide);refine ⟨_,cRRtDown (K:=10) (SmQ.zero _ (by decide)) Rat.le_refl (by decide),?_⟩;rw [show rtDn ((P:Int)+8) 0=0 from if_pos rfl]
  conv=>whnf
  refine ⟨_,cRFloor (K:=10) (SmQ.zero _ (by decide)) (by decide),?_⟩;rw [show (((0:Rat).floor:Int):Rat)=0 by decide +kernel]
  conv=>whnf
  refine ⟨_,cRTimes z1 (ss.mono (by decide)) (by decide),?_⟩;rw [Rat.zero_mul]
  conv=>whnf
  refine ⟨_,cRTimes z1 z1 (by decide),?_⟩;rw [Rat.zero_mul]
  conv=>whnf
  refine ⟨_,cRCmp z1 z1 (by decide),?_⟩;rw [cmpQ_self]
  conv=>whnf
  refine ⟨_,cRHalf z1 z1 (by decide),?_⟩;rw [show midQ 0 0=0 by decide +kernel]
  conv=>whnf
  refine ⟨_,cRTimes z1 z1 (by decide),?_⟩;rw [Rat.zero_mul]
  conv=>whnf
  refine ⟨_,cRCmp z1 z1 (by decide),?_⟩
  conv=>whnf
  refine ⟨_,cRChosen z1 z1 (ss.mono (by decide)) (by decide) s2 hm,?_⟩;rw [choQ_same]
  conv=>whnf
  rfl
 ·have hp:0<q:=by grind
  have hL:=lg_pos hp;have eT:q/((2:Rat)^(rsE E P q)*(2:Rat)^(rsE E P q))=rtT P (bias E) (lgQ q/2) q:=by
   unfold rtT rsE;rw [if_neg h0,←p2_add,Rat.div_def,←Rat.zpow_neg]
   congr 2;omega
  have es:rsE E P q=rdK P (bias E) (lgQ q/2):=if_neg h0;rw [eT,hm1 h0];clear hm0 hm1 hst;rw [es] at ss hs hss s2 hb1 ⊢;have hn:=rtN_lt (P:=P) (b:=bias E) hL rfl;have hfl:=rtDn_floor (bits:=(P:Int)+8) (rtT_pos (P:=P) (b:=bias E) (l:=lgQ q/2) hp) (rt_log hL rfl _ (by unfold inR;split<;>split<;>omega));have hT0:=Rat.le_of_lt (rtT_pos (P:=P) (b:=bias E) (l:=lgQ q/2) hp);have sT:SmQ 32000 (rtT P (bias E) (lgQ q/2) q):=(sx.mul_p2 (-2*rdK P (bias E) (lgQ q/2)) 20000 (by omega)).mono (by omega);have eN:isq (rtT P (bias E) (lgQ q/2) q).floor.toNat=rtN P (bias E) (lgQ q/2) q:=rfl;rw [eN] at hfl;have hlow:=rt_low (P:=P) (b:=bias E) (l:=lgQ q/2) hp;have hmid:=rt_mid (P:=P) (b:=bias E) (l:=lgQ q/2) (x:=q);have hmul:=fun c h=>rt_multiple (P:=P) (b:=bias E) (l:=lgQ q/2) (x:=q) (m:=m) hm (c:=c) h;generalize rtC P (bias E) (lgQ q/2) q=cc at *
  generalize rtE P (bias E) (lgQ q/2) q=ex at *
  generalize rtT P (bias E) (lgQ q/2) q=t at *
  generalize rtN P (bias E) (lgQ q/2) q=n at *
  generalize rtR P (bias E) m (lgQ q/2) q=R at *
  generalize (2:Rat)^(rdK P (bias E) (lgQ q/2))=st at *
  have hn3:n<2^113:=Nat.lt_of_lt_of_le hn (Nat.pow_le_pow_right (by decide) (by omega));have sn:SmQ 114 ((n:Nat):Rat):=SmQ.nat (by decide) (Nat.lt_of_lt_of_le hn3 (by decide));have sn1:SmQ 114 (((n:Nat):Rat)+1):=by
   have:SmQ 114 ((n+1:Nat):Rat):=SmQ.nat (by decide) (by have:2^114=2*2^113:=(by decide);omega)
   rw [Rat.natCast_add] at this
   exact this
  have slo:=sn.mul ss;have shi:=sn1.mul ss;refine ⟨_,cRRtDown sT hT0 (by decide),?_⟩
  conv=>whnf
  refine ⟨_,cRFloor (rtDn_sm sT hT0 (by decide)) (by decide),?_⟩;rw [hfl,show (((n:Nat):Int):Rat)=((n:Nat):Rat) from rfl]
  conv=>whnf
  refine ⟨_,cRTimes (sn.mono (by decide)) ss (by decide),?_⟩;have e1:((n:Nat):Rat)*st+st=(((n:Nat):Rat)+1)*st:=by grind
  generalize hlo:((n:Nat):Rat)*st=lo at *
  generalize hhi:(((n:Nat):Rat)+1)*st=hi at *
  conv=>whnf
  refine ⟨_,cRTimes slo slo (by decide),?_⟩
  conv=>whnf
  refine ⟨_,cRCmp (K:=40000) ((slo.mul slo).mono (by decide)) (sx.mono (by omega)) (by decide),?_⟩
  conv=>whnf
  rw [cmp_lt0,hlow]
  cases ex
  ·conv=>whnf
   refine ⟨_,cRAdd slo (ss.mono (by decide)) (by decide),?_⟩;rw [e1]
   conv=>whnf
   refine ⟨_,cRHalf slo shi (by decide),?_⟩;have sm:SmQ 20000 (midQ lo hi):=((slo.add shi).mul_p2 (-1) 2 (by decide)).mono (by decide)
   conv=>whnf
   refine ⟨_,cRTimes sm sm (by decide),?_⟩
   conv=>whnf
   refine ⟨_,cRCmp (K:=40000) (sx.mono (by omega)) ((sm.mul sm).mono (by decide)) (by decide),?_⟩
   conv=>whnf
   refine ⟨_,cRChosen slo shi (ss.mono (by decide)) (by decide) s2 hm,?_⟩;have hh:=hmul _ (fun _=>hmid);rw [if_neg (by decide)] at hh;rw [hh]
   conv=>whnf
   rfl
  ·conv=>whnf
   refine ⟨_,cRHalf slo slo (by decide),?_⟩;have sm:SmQ 20000 (midQ lo lo):=((slo.add slo).mul_p2 (-1) 2 (by decide)).mono (by decide)
   conv=>whnf
   refine ⟨_,cRTimes sm sm (by decide),?_⟩
   conv=>whnf
   refine ⟨_,cRCmp (K:=40000) (sx.mono (by omega)) ((sm.mul sm).mono (by decide)) (by decide),?_⟩
   conv=>whnf
   refine ⟨_,cRChosen slo slo (ss.mono (by decide)) (by decide) s2 hm,?_⟩;have hh:=hmul (cmpQ q (midQ lo lo*midQ lo lo)) (fun h=>absurd h (by decide));rw [if_pos rfl] at hh;rw [hh]
   conv=>whnf
   rfl
end
section
variable {E P m n f:Nat} {q:Rat} {K:Nat}
theorem num_negI:q.num<0↔q<0:=by
 have:=Rat.num_nonneg (q:=q)
 rw [←Int.not_le,this,Rat.not_le]
theorem rootR_res (h0:q≠0):resW E P m false (rtR P (bias E) m (lgQ q/2) q) (rdF (bias E) (lgQ q/2)) (rtE P (bias E) (lgQ q/2) q) (decide (lgQ q/2<1-((bias E:Nat):Int)))=rootR E P m q:=by
 unfold rootR;rw [if_neg h0]
 rfl
theorem rmQ_wv (h0:q≠0):rmQ E P m q=sgnQ false*wv P (bias E) (rtR P (bias E) m (lgQ q/2) q) (rdF (bias E) (lgQ q/2)):=by
 unfold rmQ sgnQ wv;rw [if_neg h0,if_neg (by decide),Rat.one_mul]
 rfl
theorem rt_hyps (hF:Fmt E P) (hp:0<q):rtR P (bias E) m (lgQ q/2) q≤2^P∧(rdF (bias E) (lgQ q/2)=0∨2^(P-1)≤rtR P (bias E) m (lgQ q/2) q):=by
 have hL:=lg_pos hp;have h1:=rtN_lt (P:=P) (b:=bias E) hL rfl;have h2:=rtN_ge (P:=P) (b:=bias E) hL rfl (by have:=(fmt_n hF).2.2.1;omega);have h3:rtN P (bias E) (lgQ q/2) q≤rtR P (bias E) m (lgQ q/2) q∧rtR P (bias E) m (lgQ q/2) q≤rtN P (bias E) (lgQ q/2) q+1:=by
  unfold rtR endN;split
  ·omega
  ·split<;>omega
 omega
theorem rmQ_sm (hF:Fmt E P) (sx:SmQ K q) (h:0≤q) (hK:K≤12000):SmQ 20000 (rmQ E P m q):=by
 unfold rmQ
 split
 ·exact SmQ.zero _ (by decide)
 ·rename_i h0
  have p:=fmt_n hF;have hp:0<q:=by grind
  have hl:=(lg_is h0).bound sx.absQ;have h1:=(rt_hyps (m:=m) hF hp).1;have h3:2^P≤2^113:=Nat.pow_le_pow_right (by decide) p.2.2.2.1
  exact ((SmQ.nat (K:=114) (by decide) (by have:2^114=2*2^113:=(by decide);omega)).mul_p2 _ 19000 (by unfold rdK rdF;omega)).mono (by decide)
theorem cRRooted (hF:Fmt E P) (hm:m≤4) (sx:SmQ K q) (h:0≤q) (hK:K≤12000):Cal Tryz.prog OQ 119 [fA E P,iA (m:Nat),rA q] (resA (rootR E P m q)):=by
 have p:=fmt_n hF;have sx':SmQ 40000 q:=sx.mono (by omega);have sn:SmQ 3000 ((2:Rat)^(1-((bias E:Nat):Int))):=(p2_sm (L:=2000) (by omega)).mono (by decide);have sy:=rmQ_sm (m:=m) hF sx h hK;refine fn_call TK MX Tryz.func119 rfl (by kernel_rfl) (by kernel_rfl) (by kernel_rfl) rfl rfl ?_
 conv=>whnf
 refine ⟨_,cRRootMultiple hF hm sx h hK,?_⟩
 conv=>whnf
 refine ⟨_,cRNormal hF,?_⟩
 conv=>whnf
 refine ⟨_,cRNormal hF,?_⟩
 conv=>whnf
 refine ⟨_,cRTimes sn sn (by decide),?_⟩
 conv=>whnf
 refine ⟨_,cRCmp (K:=40000) sx' ((sn.mul sn).mono (by decide)) (by decide),?_⟩
 conv=>whnf
 rw [cmp_lt0];refine ⟨_,cRSign,?_⟩
 conv=>whnf
 refine ⟨_,cRTimes sy sy (by decide),?_⟩
 conv=>whnf
 refine ⟨_,cRCmp (K:=40000) ((sy.mul sy).mono (by decide)) sx' (by decide),?_⟩
 conv=>whnf
 rw [cmp_eq0]
 by_cases h0:q=0
 ·subst h0;rw [show rmQ E P m 0=0 from if_pos rfl,Rat.mul_zero,dT rfl];have e:rootR E P m 0=(0,0):=by
   have:rootR E P m 0=(sgb E P false,0):=if_pos rfl
   rw [this];rfl
  have hz:(0:Rat)<(2:Rat)^(1-((bias E:Nat):Int))*(2:Rat)^(1-((bias E:Nat):Int)):=Rat.mul_pos (p2_pos _) (p2_pos _);rw [dT hz];have hr:resW E P m false 0 0 true true=(0,0):=by
   unfold resW wv;have hz:((0:Nat):Rat)*(2:Rat)^(2-((bias E:Nat):Int)-P+((0:Nat):Int))=0:=by
    have:((0:Nat):Rat)=0:=rfl
    rw [this,Rat.zero_mul]
   rw [hz,if_pos (grQ_nonneg _ _)]
   have:wordN E P false 0 0=0:=by rw [wordN_eq false (by simp;exact Nat.pow_pos (by decide))];simp
   rw [this];rfl
  refine ⟨_,cRResult (n:=0) (f:=0) (neg:=false) hF hm rfl (by unfold wv;grind) (SmQ.zero 1 (by decide)) (by decide) (Nat.zero_le _) (.inl rfl),?_⟩;rw [hr,e]
  conv=>whnf
  rfl
 ·have hp:0<q:=by grind
  have hx:=rt_exact (P:=P) (b:=bias E) (m:=m) (l:=lgQ q/2) hp;have e1:rmQ E P m q=((rtR P (bias E) m (lgQ q/2) q:Nat):Rat)*(2:Rat)^(rdK P (bias E) (lgQ q/2)):=if_neg h0;rw [←e1] at hx;have hb:decide (q<(2:Rat)^(1-((bias E:Nat):Int))*(2:Rat)^(1-((bias E:Nat):Int)))=decide (lgQ q/2<1-((bias E:Nat):Int)):=by simp only [rt_below hp]
  rw [hx,hb];have hh:=rt_hyps (m:=m) hF hp;refine ⟨_,cRResult (neg:=false) hF hm (by rw [sgn_pos hp];rfl) (rmQ_wv h0) sy (by decide) hh.1 hh.2,?_⟩;rw [rootR_res h0]
  conv=>whnf
  rfl
theorem cRRootF (hF:Fmt E P) (hm:m≤4) (sx:SmQ K q) (hK:K≤12000):Cal Tryz.prog OQ 41 [fA E P,iA (m:Nat),rA q] (if q<0 then .t [wA 0,iA 0,iA 9] else res3 (rootR E P m q)):=by
 refine fn_call TK MX Tryz.func41 rfl (by kernel_rfl) (by kernel_rfl) (by kernel_rfl) (by split<;>rfl) rfl ?_
 conv=>whnf
 refine ⟨_,cRAsked,?_⟩;rw [ask_good ⟨⟨by omega,by omega⟩,hF⟩]
 conv=>whnf
 refine ⟨_,cRSign,?_⟩
 conv=>whnf
 rw [sgn_lt]
 by_cases h:q<0
 ·rw [dT (num_negI.2 h),if_pos h]
  conv=>whnf
  rfl
 ·have h0:0≤q:=Rat.not_lt.1 h;rw [dF (fun k=>h (num_negI.1 k)),if_neg h]
  conv=>whnf
  refine ⟨_,cRRooted hF hm sx h0 hK,?_⟩
  conv=>whnf
  rfl
theorem cRRootBad {E P M:Int} (h:¬ ((0≤M∧M≤4)∧Fmt E P)):Cal Tryz.prog OQ 41 [fA E P,iA M,rA q] (.t [wA 0,iA 0,iA 2]):=by
 refine fn_call TK MX Tryz.func41 rfl (by kernel_rfl) (by kernel_rfl) (by kernel_rfl) rfl rfl ?_
 conv=>whnf
 refine ⟨_,cRAsked,?_⟩;rw [ask_bad h]
 conv=>whnf
 rfl
theorem cRootF (hF:Fmt E P) (hm:m≤4) (sx:SmQ K q) (hK:K≤12000):Cal Tryz.prog OQ 40 [fA E P,iA (m:Nat),nA q] (if q<0 then .t [wA 0,iA 0,iA 9] else res3 (rootR E P m q)):=by
 refine fn_call TK MX Tryz.func40 rfl (by kernel_rfl) (by kernel_rfl) (by kernel_rfl) (by split<;>rfl) rfl ?_
 conv=>whnf
 refine ⟨_,cWith0 hF hm,?_⟩
 conv=>whnf
 refine ⟨_,cSign,?_⟩
 conv=>whnf
 by_cases h:q<0
 ·rw [dT (show q.num.sign<0 from Int.sign_neg_iff.2 (num_negI.2 h)),if_pos h]
  conv=>whnf
  rfl
 ·have h0:0≤q:=Rat.not_lt.1 h;rw [dF (show ¬ q.num.sign<0 from fun k=>h (num_negI.1 (Int.sign_neg_iff.1 k))),if_neg h]
  conv=>whnf
  refine ⟨_,cRootM hF hm sx h0 hK,?_⟩
  conv=>whnf
  rfl
theorem cRootBad {E P M:Int} (h:¬ ((0≤M∧M≤4)∧Fmt E P)):Cal Tryz.prog OQ 40 [fA E P,iA M,nA q] (.t [wA 0,iA 0,iA 2]):=by
 refine fn_call TK MX Tryz.func40 rfl (by kernel_rfl) (by kernel_rfl) (by kernel_rfl) rfl rfl ?_
 conv=>whnf
 refine ⟨_,cWithBad (a:=.c (.v (.slice none 0 0))) rfl h,?_⟩
 conv=>whnf
 rfl
/-! ### the values -/
theorem wordN_near (hF:Fmt E P) (neg:Bool) (hn:n≤2^P) (h:f=0∨2^(P-1)≤n) (hg:wv P (bias E) n f≤grQ P (bias E)):wkind E P (wordN E P neg n f)≤2∧vl E P (wordN E P neg n f)=sgnQ neg*wv P (bias E) n f:=by
 have hE:=(fmt_n hF).1;have hP:1≤P:=by have:=(fmt_n hF).2.2.1;omega
 have hv:=wordN_val (E:=E) (b:=bias E) hP neg (end_fits (by omega) hP hn h hg) hn h;have hs:(if neg=true then (-1:Rat) else 1)=sgnQ neg:=rfl;rw [hs] at hv;have hv:wval E P (bias E) (wordN E P neg n f)=sgnQ neg*wv P (bias E) n f:=hv;have hk:wkind E P (wordN E P neg n f)≤2:=kind_of_le hE hP (by rw [hv,show absQ (sgnQ neg*wv P (bias E) n f)=wv P (bias E) n f from absQ_signed (wv_nonneg _ _ _ _) neg];exact hg)
 exact ⟨hk,by unfold vl;rw [wvalK_fin hk];exact hv⟩
def keptV (E P m:Nat) (neg:Bool) (n f:Nat):Rat×Bool:=if wv P (bias E) n f≤grQ P (bias E) then (sgnQ neg*wv P (bias E) n f,true)
 else if modeN m neg=2∨modeN m neg=4 then (sgnQ neg*grQ P (bias E),true) else (0,false)
theorem near_res (hF:Fmt E P) {neg ex tiny:Bool} (hn:n≤2^P) (h:f=0∨2^(P-1)≤n) :
  numAV E P (resW E P m neg n f ex tiny).1=.t [nA (keptV E P m neg n f).1,iA (if (keptV E P m neg n f).2=true then 0 else 7)]:=by
 have hE:=(fmt_n hF).1;have hP:1≤P:=by have:=(fmt_n hF).2.2.1;omega
 unfold numAV resW keptV
 by_cases hg:wv P (bias E) n f≤grQ P (bias E)
 ·have hw:=wordN_near hF neg hn h hg;rw [if_pos hg,if_pos hg]
  show (if wkind E P (wordN E P neg n f)≤2 then _ else _)=_
  rw [if_pos hw.1]
  show AV.t [nA (vl E P (wordN E P neg n f)),iA 0]=_
  rw [hw.2];rfl
 ·rw [if_neg hg,if_neg hg]
  by_cases hc:modeN m neg=2∨modeN m neg=4
  ·rw [if_pos hc,if_pos hc];have hp:2^P=2*2^(P-1):=by rw [←Nat.pow_succ'];congr 1;omega
   have hp1:0<2^(P-1):=Nat.pow_pos (by decide);have hw:=wordN_near hF neg (n:=2^P-1) (f:=2*bias E-1) (by omega) (.inr (by omega)) (by rw [←grQ_wv hE];exact Rat.le_refl);rw [←grQ_wv hE] at hw
   show (if wkind E P (wordN E P neg (2^P-1) (2*bias E-1))≤2 then _ else _)=_
   rw [if_pos hw.1]
   show AV.t [nA (vl E P (wordN E P neg (2^P-1) (2*bias E-1))),iA 0]=_
   rw [hw.2];rfl
  ·rw [if_neg hc,if_neg hc]
   show (if wkind E P (infw E P neg)≤2 then _ else _)=_
   rw [if_neg (by rw [inf_kind hP];omega)]
   rfl
theorem keptV_sm (hF:Fmt E P) {neg:Bool} (sy:SmQ 40000 (sgnQ neg*wv P (bias E) n f)):SmQ 40000 (keptV E P m neg n f).1:=by
 have p:=fmt_n hF;have sg:SmQ 40000 (grQ P (bias E)):=(grQ_sm ⟨by omega,by omega⟩ (by omega)).mono (by decide);unfold keptV
 split
 ·exact sy
 ·split
  ·show SmQ 40000 (sgnQ neg*grQ P (bias E))
   unfold sgnQ
   split
   ·have : -1*grQ P (bias E) = -grQ P (bias E):=by grind
    rw [this];exact sg.neg
   ·rw [Rat.one_mul];exact sg
  ·exact SmQ.zero _ (by decide)
theorem cRKept (hF:Fmt E P) (hm:m≤4) {neg:Bool} (sy:SmQ 40000 (sgnQ neg*wv P (bias E) n f)) :
  Cal Tryz.prog OQ 121 [fA E P,iA (m:Nat),rA (sgnQ neg*wv P (bias E) n f)] (.t [rA (keptV E P m neg n f).1,bA (keptV E P m neg n f).2]):=by
 have p:=fmt_n hF;have ha:absQ (sgnQ neg*wv P (bias E) n f)=wv P (bias E) n f:=absQ_signed (wv_nonneg _ _ _ _) neg;have hsn:grQ P (bias E)<wv P (bias E) n f→decide ((sgnQ neg*wv P (bias E) n f).num.sign<0)=neg:=fun h=>by
  have h0:0<wv P (bias E) n f:=lelt (grQ_nonneg _ _) h;rw [sgn_lt]
  cases neg with
  | false =>
   refine dF (fun k => ?_)
   have:=num_negI.1 k
   unfold sgnQ at this;rw [if_neg (by decide),Rat.one_mul] at this
   grind
  | true =>
   refine dT (num_negI.2 ?_);unfold sgnQ;rw [if_pos rfl]
   have:(-1:Rat)*wv P (bias E) n f = -wv P (bias E) n f:=by grind
   rw [this]
   grind
 have sg:SmQ 40000 (grQ P (bias E)):=(grQ_sm ⟨by omega,by omega⟩ (by omega)).mono (by decide);unfold keptV;generalize sgnQ neg*wv P (bias E) n f=y at *
 refine fn_call TK MX Tryz.func121 rfl (by kernel_rfl) (by kernel_rfl) (by kernel_rfl) (by split<;>(try split)<;>rfl) rfl ?_
 conv=>whnf
 refine ⟨_,cRSign,?_⟩
 conv=>whnf
 refine ⟨_,cRBeyond hF sy (by decide),?_⟩
 conv=>whnf
 rw [ha]
 by_cases hg:wv P (bias E) n f≤grQ P (bias E)
 ·rw [dF (Rat.not_lt.2 hg),if_pos hg]
  conv=>whnf
  rfl
 ·rw [dT (Rat.not_le.1 hg),if_neg hg,hsn (Rat.not_le.1 hg)]
  conv=>whnf
  refine ⟨_,cRStays hm,?_⟩
  conv=>whnf
  by_cases hc:modeN m neg=2∨modeN m neg=4
  ·rw [dT hc,if_pos hc]
   conv=>whnf
   cases neg
   ·conv=>whnf
    refine ⟨_,cRGreatest hF,?_⟩
    conv=>whnf
    rw [show sgnQ false*grQ P (bias E)=grQ P (bias E) by unfold sgnQ;rw [if_neg (by decide),Rat.one_mul]]
    rfl
   ·conv=>whnf
    refine ⟨_,cRGreatest hF,?_⟩
    conv=>whnf
    refine ⟨_,cRNeg,?_⟩
    conv=>whnf
    rw [show sgnQ true*grQ P (bias E) = -grQ P (bias E) by unfold sgnQ;rw [if_pos rfl];grind]
    rfl
  ·rw [dF hc,if_neg hc]
   conv=>whnf
   rfl
end
end Go.Proofs.YtgabigepocfllaaGreatDoor
