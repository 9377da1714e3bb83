/- Plain: no value lies nearer to a number than the one to which it is rounded, or between both. -/
import Derived.Test.YtgabigepocfllaaGreatDoorP49
namespace Go.Proofs.YtgabigepocfllaaGreatDoor
open Go.RowKit Vn
set_option maxRecDepth 100000
set_option maxHeartbeats 8000000
section
variable {E P m b:Nat} {q r:Rat} {l:Int}
theorem st_rd (mm:Nat):szR P b mm q l=((stN mm (rdN P b l q) (rdT P b l q):Nat):Rat)*(2:Rat)^(rdK P b l):=rfl
theorem st_small {mm:Nat} {n:Nat} {t:Rat} (h:stN mm n t=n∨t.den=1):stN mm n t=n:=by
 rcases h with h | h
 ·exact h
 ·unfold stN endN;rw [if_pos (decide_eq_true h)]
theorem over_big (hb:1≤b) (hl:IsLog (absQ q) l) {mm:Nat} (h:¬ szR P b mm q l≤grQ P b):grQ P b<absQ q:=by
 have f1:=floor_le_rd P b l q;have hab:=absQ_back P b q l;have hp:=p2_pos (rdK P b l);have hN:=stN_le mm (rdN P b l q) (rdT P b l q);refine Rat.not_le.1 (fun hc=>h ?_);have hlo:((rdN P b l q:Nat):Rat)*(2:Rat)^(rdK P b l)≤absQ q:=by
  rw [hab];exact Rat.mul_le_mul_of_nonneg_right f1.1 (Rat.le_of_lt hp)
 rw [st_rd]
 rcases (show stN mm (rdN P b l q) (rdT P b l q)=rdN P b l q∨stN mm (rdN P b l q) (rdT P b l q)=rdN P b l q+1 by omega) with e | e
 ·rw [e];exact Rat.le_trans hlo hc
 ·have hd:¬ (rdT P b l q).den=1:=fun k=>by have:=st_small (mm:=mm) (n:=rdN P b l q) (.inr k);omega
  have hlt:((rdN P b l q:Nat):Rat)<rdT P b l q:=by
   rcases Rat.le_iff_lt_or_eq.1 f1.1 with h | h
   ·exact h
   ·exact absurd (by rw [←h];rfl) hd
  have hlog:l≤(b:Int):=by
   have h1:(2:Rat)^l<(2:Rat)^((b:Int)+1):=lelt (Rat.le_trans hl.1 hc) (grQ_lt P b);rw [p2_lt_iff] at h1;omega
  have hK:rdK P b l≤(b:Int)-P+1:=by unfold rdK rdF;omega
  obtain ⟨d,hd2⟩:=finer (2^P-1) hK;have hg:grQ P b=(((2^P-1)*2^d:Nat):Rat)*(2:Rat)^(rdK P b l):=hd2;rw [e,hg];have h2:((rdN P b l q:Nat):Rat)*(2:Rat)^(rdK P b l)<(((2^P-1)*2^d:Nat):Rat)*(2:Rat)^(rdK P b l):=by
   rw [←hg];refine ltle ?_ hc;rw [hab];exact (Rat.mul_lt_mul_right hp).2 hlt
  rw [Rat.mul_lt_mul_right hp,Rat.natCast_lt_natCast] at h2
  exact Rat.mul_le_mul_of_nonneg_right (by rw [Rat.natCast_le_natCast];omega) (Rat.le_of_lt hp)
theorem near_steps {N:Nat} {t:Rat} (h1:2*(((N:Nat):Rat)-t)≤1) (h2 : -1≤2*(((N:Nat):Rat)-t)) (z:Int):absQ (((N:Nat):Rat)-t)≤absQ ((z:Rat)-t):=by
 have a:=absQ_ge ((z:Rat)-t);have c:=absQ_cases (((N:Nat):Rat)-t);have a0:=absQ_ge (((N:Nat):Rat)-t)
 by_cases hz:(z:Rat)=((N:Nat):Rat)
 ·rw [hz];exact Rat.le_refl
 ·have hz:z≠(N:Int):=fun h=>hz (by rw [h];rfl)
  rcases Int.lt_or_gt_of_ne hz with h | h
  ·have h3:(z:Rat)+1≤((N:Nat):Rat):=by
    have:((z+1:Int):Rat)≤(((N:Nat):Int):Rat):=by rw [Rat.intCast_le_intCast];omega
    rw [Rat.intCast_add] at this;exact this
   rcases c with c | c<;>grind
  ·have h3:((N:Nat):Rat)+1≤(z:Rat):=by
    have:((((N:Nat):Int)+1:Int):Rat)≤((z:Int):Rat):=by rw [Rat.intCast_le_intCast];omega
    rw [Rat.intCast_add] at this;exact this
   rcases c with c | c<;>grind
theorem abs_mul_p (x:Rat) {s:Rat} (hs:0<s):absQ (x*s)=absQ x*s:=by
 rcases Rat.le_total (a:=0) (b:=x) with h | h
 ·rw [absQ_nonneg h,absQ_nonneg (Rat.mul_nonneg h (Rat.le_of_lt hs))]
 ·have h':0 ≤ -x:=by grind
  rw [←absQ_neg x,←absQ_neg (x*s),absQ_nonneg h',show -(x*s) = -x*s by grind,absQ_nonneg (Rat.mul_nonneg h' (Rat.le_of_lt hs))]
theorem near_gen {x:Rat} {N:Nat} (hP:1≤P) (hl:IsLog (absQ q) l) (hx:IsVal P b x) (h1:2*(((N:Nat):Rat)-rdT P b l q)≤1) (h2 : -1≤2*(((N:Nat):Rat)-rdT P b l q)) :
  absQ (((N:Nat):Rat)*(2:Rat)^(rdK P b l)-absQ q)≤absQ (x-absQ q):=by
 have hp:=p2_pos (rdK P b l);have hab:=absQ_back P b q l;have key:∀ z:Int,absQ (((N:Nat):Rat)*(2:Rat)^(rdK P b l)-absQ q)≤absQ ((z:Rat)*(2:Rat)^(rdK P b l)-absQ q):=by
  intro z
  have e:∀ y:Rat,y*(2:Rat)^(rdK P b l)-absQ q=(y-rdT P b l q)*(2:Rat)^(rdK P b l):=by intro y;rw [hab];grind
  rw [e,e,abs_mul_p _ hp,abs_mul_p _ hp]
  exact Rat.mul_le_mul_of_nonneg_right (near_steps h1 h2 z) (Rat.le_of_lt hp)
 obtain ⟨m,j,hj,hm,ex⟩:=hx
 rcases Int.lt_or_le j (rdK P b l) with h | h
 ·have e:rdK P b l=l-P+1:=by unfold rdK at *;unfold rdF at *;omega
  have k1:=key ((2^(P-1):Nat):Int);have e2:((((2^(P-1):Nat):Int)):Rat)*(2:Rat)^(rdK P b l)=(2:Rat)^l:=by
   show ((2^(P-1):Nat):Rat)*_=_
   rw [←p2_nat,←p2_add];congr 1;omega
  rw [e2] at k1;have hq:=hl.1;have e3:absQ ((2:Rat)^l-absQ q)=absQ q-(2:Rat)^l:=by
   rw [←absQ_neg,absQ_nonneg (by grind)];grind
  rw [e3] at k1;have hxl:absQ x≤(2:Rat)^l:=by
   rw [ex];have a1:((m:Nat):Rat)*(2:Rat)^j≤((2^P:Nat):Rat)*(2:Rat)^j:=Rat.mul_le_mul_of_nonneg_right (by rw [Rat.natCast_le_natCast];omega) (Rat.le_of_lt (p2_pos j));rw [←p2_nat,←p2_add] at a1
   exact Rat.le_trans a1 (p2_mono (by omega))
  have h4:=(absQ_ge (x-absQ q)).2;have h5:=(absQ_ge x).1
  grind
 ·obtain ⟨d,hd⟩:=finer m h;rw [hd] at ex
  rcases absQ_cases x with hs | hs
  ·have k1:=key ((m*2^d:Nat):Int);have e:((((m*2^d:Nat):Int)):Rat)*(2:Rat)^(rdK P b l)=x:=by rw [hs,ex];rfl
   rw [e] at k1;exact k1
  ·have k1:=key (-((m*2^d:Nat):Int));have e:(((-((m*2^d:Nat):Int)):Int):Rat)*(2:Rat)^(rdK P b l)=x:=by
    rw [hs,ex,Rat.intCast_neg]
    show -((m*2^d:Nat):Rat)*_=_
    rw [Rat.neg_mul]
   rw [e] at k1;exact k1
theorem st_half {mm:Nat} (hm:mm=0∨mm=1):2*(((stN mm (rdN P b l q) (rdT P b l q):Nat):Rat)-rdT P b l q)≤1 ∧ -1≤2*(((stN mm (rdN P b l q) (rdT P b l q):Nat):Rat)-rdT P b l q):=by
 obtain ⟨h1,h2⟩:=floor_le_rd P b l q;unfold stN endN;rw [show modeN mm false=mm from rfl]
 by_cases hd:(rdT P b l q).den=1
 ·rw [if_pos (decide_eq_true hd)]
  have:=den_one hd
  rw [rdN_floor] at this;have e:((rdN P b l q:Nat):Rat)=rdT P b l q:=this;rw [e];constructor<;>grind
 ·rw [if_neg (show ¬ decide ((rdT P b l q).den=1)=true by rw [decide_eq_false hd];decide)];have e1:((rdN P b l q+1:Nat):Rat)=((rdN P b l q:Nat):Rat)+1:=by rw [Rat.natCast_add];rfl
  generalize rdT P b l q=t at *
  generalize rdN P b l q=n at *
  unfold cmpQ
  by_cases c1:(t-(n:Rat))*2<1
  ·rw [if_pos c1];have hu:upB mm (decide (n%2=1)) (-1)=false:=by rcases hm with rfl | rfl<;>unfold upB<;>simp
   rw [hu,if_neg (by decide)]
   constructor<;>grind
  ·rw [if_neg c1]
   by_cases c2:1<(t-(n:Rat))*2
   ·rw [if_pos c2];have hu:upB mm (decide (n%2=1)) 1=true:=by rcases hm with rfl | rfl<;>unfold upB<;>simp
    rw [hu,if_pos rfl,e1]
    constructor<;>grind
   ·rw [if_neg c2]
    split
    ·rw [e1];constructor<;>grind
    ·constructor<;>grind
theorem st_down {mm:Nat} (hm:mm=2∨mm=4):szR P b mm q l≤absQ q:=by
 have hp:=p2_pos (rdK P b l);have f1:=floor_le_rd P b l q;have e:stN mm (rdN P b l q) (rdT P b l q)=rdN P b l q:=by
  unfold stN endN
  split
  ·rfl
  ·rcases hm with rfl | rfl<;>rfl
 rw [st_rd,e,absQ_back P b q l]
 exact Rat.mul_le_mul_of_nonneg_right f1.1 (Rat.le_of_lt hp)
theorem st_up:absQ q≤szR P b 3 q l:=by
 have hp:=p2_pos (rdK P b l);have f1:=floor_le_rd P b l q;rw [st_rd,absQ_back P b q l];refine Rat.mul_le_mul_of_nonneg_right ?_ (Rat.le_of_lt hp);unfold stN endN
 split
 ·rename_i h
  have:=den_one (of_decide_eq_true h)
  rw [rdN_floor] at this;have e:((rdN P b l q:Nat):Rat)=rdT P b l q:=this;rw [e];exact Rat.le_refl
 ·rw [if_pos (show upB (modeN 3 false) _ _=true from rfl),Rat.natCast_add]
  exact Rat.le_of_lt f1.2
end
section
variable {E P m:Nat} {q r v:Rat}
abbrev rdV (E P m:Nat) (q:Rat):Rat:=vl E P (rq E P m q).1
theorem rdV_wval (h:wkind E P (rq E P m q).1≤2):rdV E P m q=wval E P (bias E) (rq E P m q).1:=wvalK_fin h
theorem rdV_zero (hP:1≤P) (hE:2≤E):rdV E P m 0=0:=by
 rw [rdV_wval (rq_kind hE hP (.inl rfl)),rq_zero,wval_zero]
theorem rdV_eq (hE:2≤E) (hP:1≤P) (h:wkind E P (rq E P m q).1≤2) (h0:q≠0):rdV E P m q=sgnQ (decide (q.num<0))*vR P (bias E) (modeN m (decide (q.num<0))) q (lgQ q):=by
 rw [rdV_wval h,rq_wval hE hP h0];rfl
theorem fin_or (hP:1≤P) (h:wkind E P (rq E P m q).1≤2) (h0:q≠0):szQ E P m q≤grQ P (bias E)∨modeN m (decide (q.num<0))=2∨modeN m (decide (q.num<0))=4:=by
 by_cases c:szQ E P m q≤grQ P (bias E)
 ·exact .inl c
 ·by_cases d:modeN m (decide (q.num<0))=2∨modeN m (decide (q.num<0))=4
  ·exact .inr d
  ·rw [(rq_big h0 c).2 d,inf_kind hP] at h
   omega
theorem vR_down {mm:Nat} {b:Nat} {l:Int} (hm:mm=2∨mm=4):vR P b mm q l≤absQ q:=by
 have h:=st_down (P:=P) (b:=b) (q:=q) (l:=l) hm;unfold vR
 split
 ·exact h
 ·rename_i c
  exact Rat.le_trans (Rat.le_of_lt (Rat.not_le.1 c)) h
theorem q_pos (h:decide (q.num<0)=false):absQ q=q:=absQ_nonneg (Rat.num_nonneg.1 (by have:=of_decide_eq_false h;omega))
theorem q_neg (h:decide (q.num<0)=true):absQ q = -q:=by
 have:=num_neg_iff.1 (of_decide_eq_true h)
 rw [←absQ_neg,absQ_nonneg (by grind)]
theorem dir_up (hE:2≤E) (hP:1≤P) (h:wkind E P (rq E P 3 q).1≤2):q≤rdV E P 3 q:=by
 by_cases h0:q=0
 ·subst h0;rw [rdV_zero hP hE];exact Rat.le_refl
 ·rw [rdV_eq hE hP h h0];have hf:=fin_or hP h h0
  cases hs:decide (q.num<0)
  ·rw [hs] at hf;have c:szQ E P 3 q≤grQ P (bias E):=by rcases hf with hf | hf;exact hf;exact absurd hf (by decide)
   unfold szQ at c;rw [hs] at c;have hq:=q_pos hs;have hu:=st_up (P:=P) (b:=bias E) (q:=q) (l:=lgQ q);have c':szR P (bias E) 3 q (lgQ q)≤grQ P (bias E):=c;have e:vR P (bias E) (modeN 3 false) q (lgQ q)=szR P (bias E) 3 q (lgQ q):=by
    show vR P (bias E) 3 q (lgQ q)=_
    unfold vR;rw [if_pos c']
   rw [e];unfold sgnQ;rw [if_neg (by decide)]
   grind
  ·have hq:=q_neg hs;have hd:=vR_down (P:=P) (b:=bias E) (q:=q) (l:=lgQ q) (mm:=modeN 3 true) (.inr rfl);unfold sgnQ;rw [if_pos rfl]
   grind
theorem dir_down (hE:2≤E) (hP:1≤P) (h:wkind E P (rq E P 4 q).1≤2):rdV E P 4 q≤q:=by
 by_cases h0:q=0
 ·subst h0;rw [rdV_zero hP hE];exact Rat.le_refl
 ·rw [rdV_eq hE hP h h0];have hf:=fin_or hP h h0
  cases hs:decide (q.num<0)
  ·have hq:=q_pos hs;have hd:=vR_down (P:=P) (b:=bias E) (q:=q) (l:=lgQ q) (mm:=modeN 4 false) (.inr rfl);unfold sgnQ;rw [if_neg (by decide)]
   grind
  ·rw [hs] at hf;have c:szQ E P 4 q≤grQ P (bias E):=by rcases hf with hf | hf;exact hf;exact absurd hf (by decide)
   unfold szQ at c;rw [hs] at c;have hq:=q_neg hs;have hu:=st_up (P:=P) (b:=bias E) (q:=q) (l:=lgQ q);have c':szR P (bias E) 3 q (lgQ q)≤grQ P (bias E):=c;have e:vR P (bias E) (modeN 4 true) q (lgQ q)=szR P (bias E) 3 q (lgQ q):=by
    show vR P (bias E) 3 q (lgQ q)=_
    unfold vR;rw [if_pos c']
   rw [e];unfold sgnQ;rw [if_pos rfl]
   grind
theorem dir_trunc (hE:2≤E) (hP:1≤P) (h:wkind E P (rq E P 2 q).1≤2):absQ (rdV E P 2 q)≤absQ q:=by
 by_cases h0:q=0
 ·subst h0;rw [rdV_zero hP hE];exact Rat.le_refl
 ·rw [rdV_eq hE hP h h0];have e:modeN 2 (decide (q.num<0))=2:=by cases decide (q.num<0)<;>rfl
  rw [e]
  have:absQ (sgnQ (decide (q.num<0))*vR P (bias E) 2 q (lgQ q))=vR P (bias E) 2 q (lgQ q):=absQ_signed (vR_nonneg _ _ _ _ _) _
  rw [this]
  exact vR_down (.inl rfl)
theorem sgn_sub (s:Bool) (a c:Rat):absQ (sgnQ s*a-sgnQ s*c)=absQ (a-c):=by
 unfold sgnQ
 cases s
 ·rw [if_neg (by decide),Rat.one_mul,Rat.one_mul]
 ·rw [if_pos rfl,←absQ_neg];congr 1;grind
theorem dir_near (hE:2≤E) (hP:1≤P) (hm:m=0∨m=1) (h:wkind E P (rq E P m q).1≤2) (hv:hasB E P v=true):absQ (rdV E P m q-q)≤absQ (v-q):=by
 by_cases h0:q=0
 ·subst h0;rw [rdV_zero hP hE];have e:(0:Rat)-0=0:=by decide +kernel
  rw [e,absQ_nonneg Rat.le_refl];exact absQ_zero_le _
 ·have hf:=fin_or hP h h0;have e:modeN m (decide (q.num<0))=m:=by rcases hm with rfl | rfl<;>cases decide (q.num<0)<;>rfl
  have c:szR P (bias E) m q (lgQ q)≤grQ P (bias E):=by
   rcases hf with hf | hf
   ·unfold szQ at hf;rw [e] at hf;exact hf
   ·rw [e] at hf;omega
  have ev:vR P (bias E) m q (lgQ q)=szR P (bias E) m q (lgQ q):=by unfold vR;rw [if_pos c]
  rw [rdV_eq hE hP h h0,e,ev];have hs:sgnQ (decide (q.num<0))*absQ q=q:=absQ_sign q;have hh:=st_half (P:=P) (b:=bias E) (q:=q) (l:=lgQ q) hm;have hiv:IsVal P (bias E) (sgnQ (decide (q.num<0))*v):=by
   have:=(hasB_iff.1 hv).1
   unfold sgnQ
   split
   ·have e : -1*v = -v:=by grind
    rw [e];exact this.neg
   ·rw [Rat.one_mul];exact this
  have hn:=near_gen (b:=bias E) hP (lg_is h0) hiv hh.1 hh.2;have e1:absQ (sgnQ (decide (q.num<0))*szR P (bias E) m q (lgQ q)-q)=absQ (szR P (bias E) m q (lgQ q)-absQ q):=by
   conv=>lhs;rw [←hs]
   rw [hs]
   have:=sgn_sub (decide (q.num<0)) (szR P (bias E) m q (lgQ q)) (absQ q)
   rw [hs] at this;exact this
  have e2:absQ (v-q)=absQ (sgnQ (decide (q.num<0))*v-absQ q):=by
   have:=sgn_sub (decide (q.num<0)) (sgnQ (decide (q.num<0))*v) (absQ q)
   rw [hs] at this;rw [←this]
   congr 2
   unfold sgnQ
   split<;>grind
  rw [e1,e2]
  exact hn
theorem has_wval (hE:2≤E) (hP:1≤P) (h:hasB E P v=true):wval E P (bias E) (rq E P m v).1=v:=by
 obtain ⟨_,h2,h3⟩:=rq_has (m:=m) hE hP h;rw [wvalK_fin h2] at h3
 exact h3
theorem beyond_up (hE:2≤E) (hP:1≤P) (h:wkind E P (rq E P m q).1≤2) (hv:hasB E P v=true) (hlt:rdV E P m q<v):q<v:=by
 refine Rat.not_le.1 (fun hc => ?_)
 have:=rq_mono (m:=m) hE hP hc
 rw [has_wval hE hP hv,←rdV_wval h] at this
 exact Rat.not_lt.2 this hlt
theorem beyond_down (hE:2≤E) (hP:1≤P) (h:wkind E P (rq E P m q).1≤2) (hv:hasB E P v=true) (hlt:v<rdV E P m q):v<q:=by
 refine Rat.not_le.1 (fun hc => ?_)
 have:=rq_mono (m:=m) hE hP hc
 rw [has_wval hE hP hv,←rdV_wval h] at this
 exact Rat.not_lt.2 this hlt
theorem sign_same (hE:2≤E) (hP:1≤P) (h:wkind E P (rq E P m q).1≤2) (hy:(rdV E P m q).num.sign≠0):(rdV E P m q).num.sign=q.num.sign:=by
 by_cases h0:q=0
 ·subst h0;rw [rdV_zero hP hE] at hy;exact absurd rfl hy
 ·have hr:=rdV_eq hE hP h h0;have hv:=vR_nonneg P (bias E) (modeN m (decide (q.num<0))) q (lgQ q);have hne:rdV E P m q≠0:=fun e=>hy (by rw [e];rfl)
  cases hs:decide (q.num<0)
  ·rw [hs] at hr hv;have h1:=of_decide_eq_false hs;unfold sgnQ at hr;rw [if_neg (by decide),Rat.one_mul] at hr;have a:0≤(rdV E P m q).num:=Rat.num_nonneg.2 (by rw [hr];exact hv);have a':(rdV E P m q).num≠0:=fun e=>hne (Rat.num_eq_zero.1 e);have b':q.num≠0:=fun e=>h0 (Rat.num_eq_zero.1 e);rw [Int.sign_eq_one_of_pos (by omega),Int.sign_eq_one_of_pos (by omega)]
  ·rw [hs] at hr hv;have h1:=of_decide_eq_true hs;unfold sgnQ at hr;rw [if_pos rfl] at hr;have a:(rdV E P m q).num<0:=num_neg_iff.2 (by grind);rw [Int.sign_eq_neg_one_of_neg a,Int.sign_eq_neg_one_of_neg h1]
theorem val_has (hE:2≤E) (hP:1≤P) {w:Nat} (h:wkind E P w≤2):hasB E P (vl E P w)=true:=by
 rw [hasB_iff,show vl E P w=wval E P (bias E) w from wvalK_fin h]
 exact ⟨wval_isVal hP,wval_le hE hP (fin_wf h)⟩
theorem rank_val (hP:1≤P) {i j:Nat} (hi:wkind E P i≤2) (hj:wkind E P j≤2) (h:rankZ E P i<rankZ E P j):vl E P i<vl E P j:=by
 rw [show vl E P i=wval E P (bias E) i from wvalK_fin hi,show vl E P j=wval E P (bias E) j from wvalK_fin hj];refine Rat.not_le.1 (fun hc => ?_)
 have:=(rank_le_iff hP).1 hc
 omega
theorem down_facts {n:Nat} (hE:1≤E) (hP:1≤P) (_hn:n<2^(E+P)) (hk:wkind E P n≤2) :
  nextD E P n<2^(E+P)∧rankZ E P (nextD E P n)=rankZ E P n-1∧wkind E P (nextD E P n)≤3:=by
 have hI:=infZ_lt (E:=E) hP;have hm:=(kind_mag (E:=E) (n:=n) hP).1 (by omega);have hi:mag E P n≠infZ E P:=fun h=>by have:=(kind_inf (E:=E) (n:=n) hP).2 h;omega
 have ha:=rank_abs E P n;have hb:(rankZ E P n + -1).natAbs≤infZ E P:=by omega
 unfold nextD;rw [if_neg (fun h=>by have:=inf_kind (E:=E) hP true;rw [←h] at this;omega)];have h1:=rankZ_rankW (E:=E) (P:=P) (z:=rankZ E P n + -1) (by omega);refine ⟨rankW_lt (by omega) (by omega),by rw [h1];omega,?_⟩;rw [kind_mag hP,←rank_abs,h1];exact hb
theorem up_facts2 {n:Nat} (hE:1≤E) (hP:1≤P) (hn:n<2^(E+P)) (hk:wkind E P n≤2) :
  nextU E P n<2^(E+P)∧rankZ E P (nextU E P n)=rankZ E P n+1∧wkind E P (nextU E P n)≤3:=by
 obtain ⟨h1,h2,h3,_⟩:=up_facts hE hP hn (by omega) (fun h=>by have:=inf_kind (E:=E) hP false;rw [←h] at this;omega)
 exact ⟨h1,h2,h3⟩
end
end Go.Proofs.YtgabigepocfllaaGreatDoor
