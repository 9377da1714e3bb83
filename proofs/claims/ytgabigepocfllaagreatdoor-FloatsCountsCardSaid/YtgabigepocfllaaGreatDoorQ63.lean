/- Plain: no value lies nearer to a number than the one to which it is rounded, or between both. -/
import Derived.Test.YtgabigepocfllaaGreatDoorQ52
import Derived.Test.YtgabigepocfllaaGreatDoorQ58
namespace Go.Proofs.YtgabigepocfllaaGreatDoor
open Go.RowKit Vn
set_option maxRecDepth 100000
set_option maxHeartbeats 8000000
section
variable {E P m b:Nat} {q r:Rat} {l:Int}
theorem st_rd (mm:Nat):szR P b mm q l=((stN mm (rdN P b l q) (rdT P b l q):Nat):Rat)*(2:Rat)^(rdK P b l):=rfl
theorem st_small {mm:Nat} {n:Nat} {t:Rat} (h:stN mm n t=n∨t.den=1):stN mm n t=n:=by
 rcases h with h | h
 ·exact h
 ·unfold stN endN;rw [if_pos (decide_eq_true h)]
theorem over_big (hb:1≤b) (hl:IsLog (absQ q) l) {mm:Nat} (h:¬ szR P b mm q l≤grQ P b):grQ P b<absQ q:=by
 have f1:=floor_le_rd P b l q;have hab:=absQ_back P b q l;have hp:=p2_pos (rdK P b l);have hN:=stN_le mm (rdN P b l q) (rdT P b l q);refine Rat.not_le.1 (fun hc=>h ?_);have hlo:((rdN P b l q:Nat):Rat)*(2:Rat)^(rdK P b l)≤absQ q:=by
  rw [hab];exact Rat.mul_le_mul_of_nonneg_right f1.1 (Rat.le_of_lt hp)
 rw [st_rd]
 rcases (show stN mm (rdN P b l q) (rdT P b l q)=rdN P b l q∨stN mm (rdN P b l q) (rdT P b l q)=rdN P b l q+1 by omega) with e | e
 ·rw [e];exact Rat.le_trans hlo hc
 ·have hd:¬ (rdT P b l q).den=1:=fun k=>by have:=st_small (mm:=mm) (n:=rdN P b l q) (.inr k);omega
  have hlt:((rdN P b l q:Nat):Rat)<rdT P b l q:=by
   rcases Rat.le_iff_lt_or_eq.1 f1.1 with h | h
   ·exact h
   ·exact absurd (by rw [←h];rfl) hd
  have hlog:l≤(b:Int):=by
   have h1:(2:Rat)^l<(2:Rat)^((b:Int)+1):=lelt (Rat.le_trans hl.1 hc) (grQ_lt P b);rw [p2_lt_iff] at h1;omega
  have hK:rdK P b l≤(b:Int)-P+1:=by unfold rdK rdF;omega
  obtain ⟨d,hd2⟩:=finer (2^P-1) hK;have hg:grQ P b=(((2^P-1)*2^d:Nat):Rat)*(2:Rat)^(rdK P b l):=hd2;rw [e,hg];have h2:((rdN P b l q:Nat):Rat)*(2:Rat)^(rdK P b l)<(((2^P-1)*2^d:Nat):Rat)*(2:Rat)^(rdK P b l):=by
   rw [←hg];refine ltle ?_ hc;rw [hab];exact (Rat.mul_lt_mul_right hp).2 hlt
  rw [Rat.mul_lt_mul_right hp,Rat.natCast_lt_natCast] at h2
  exact Rat.mul_le_mul_of_nonneg_right (by rw [Rat.natCast_le_natCast];omega) (Rat.le_of_lt hp)
theorem st_up:absQ q≤szR P b 3 q l:=by
 have hp:=p2_pos (rdK P b l);have f1:=floor_le_rd P b l q;rw [st_rd,absQ_back P b q l];refine Rat.mul_le_mul_of_nonneg_right ?_ (Rat.le_of_lt hp);unfold stN endN
 split
 ·rename_i h
  have:=den_one (of_decide_eq_true h)
  rw [rdN_floor] at this;have e:((rdN P b l q:Nat):Rat)=rdT P b l q:=this;rw [e];exact Rat.le_refl
 ·rw [if_pos (show upB (modeN 3 false) _ _=true from rfl),Rat.natCast_add]
  exact Rat.le_of_lt f1.2
end
section
variable {E P m n f:Nat} {q:Rat} {K:Nat}
def rkZ (P:Nat) (neg:Bool) (n f:Nat):Int:=if neg=true then -((n+f*2^(P-1):Nat):Int) else ((n+f*2^(P-1):Nat):Int)
theorem rankZ_word (neg:Bool) (h:n+f*2^(P-1)<2^(E+P-1)):rankZ E P (wordN E P neg n f)=rkZ P neg n f:=by
 unfold rankZ rkZ;rw [wordN_wn neg h,wordN_eq neg h,Nat.add_mul_mod_self_left,Nat.mod_eq_of_lt h]
def topN (E P:Nat):Nat:=2^P-1+(2*bias E-1)*2^(P-1)
theorem topN_inf (hE:2≤E) (hP:1≤P):topN E P+1=0+(2^E-1)*2^(P-1)∧0+(2^E-1)*2^(P-1)<2^(E+P-1):=by
 have h1:=two_bias (E:=E) (by omega);have hb:=bias_pos hE;have hp:2^P=2*2^(P-1):=by rw [←Nat.pow_succ'];congr 1;omega
 have hp1:0<2^(P-1):=Nat.pow_pos (by decide);have e2:2^(E+P-1)=2^E*2^(P-1):=by rw [←Nat.pow_add];congr 1;omega
 have e3:2^E-1=(2*bias E-1)+2:=by omega
 unfold topN
 constructor
 ·rw [e3,Nat.add_mul,hp];omega
 ·rw [Nat.zero_add,e2]
  exact Nat.mul_lt_mul_of_pos_right (by omega) hp1
theorem rankZ_inf (hE:2≤E) (hP:1≤P) (neg:Bool):rankZ E P (infw E P neg)=if neg=true then -((topN E P:Nat):Int)-1 else ((topN E P:Nat):Int)+1:=by
 have h:=topN_inf hE hP;rw [inf_word,rankZ_word neg h.2];unfold rkZ;rw [←h.1]
 split<;>omega
def bt (E P m:Nat) (q:Rat):Int:=rankZ E P (rq E P m q).1
theorem rankZ_zero:rankZ E P 0=0:=by
 unfold rankZ
 split<;>simp
theorem bt_zero:bt E P m 0=0:=by unfold bt;rw [rq_zero];exact rankZ_zero
theorem rankZ_flip (hE:1≤E) (hn:n<2^(E+P)):rankZ E P (flipW E P n) = -rankZ E P n:=by
 have h:=flip_p (E:=E) (P:=P) hE hn;have hm:flipW E P n%2^(E+P-1)=n%2^(E+P-1):=h.2.1;unfold rankZ;rw [h.2.2,hm]
 cases wn E P n<;>simp
theorem bt_flip (hF:Fmt E P):bt E P 3 q = -bt E P 4 (-q):=by
 by_cases h0:q=0
 ·subst h0;rw [bt_zero,show (-(0:Rat))=0 by decide +kernel,bt_zero];rfl
 ·have h:=rq_opp (m:=3) hF h0;have h2:(rq E P 4 (-q)).1=flipW E P (rq E P 3 q).1:=h.2.2.2;unfold bt;rw [h2,rankZ_flip (by have:=(fmt_n hF).1;omega) h.1];omega
theorem bt_in (hF:Fmt E P) (h0:q≠0) (hs:szQ E P m q≤grQ P (bias E)):bt E P m q=rkZ P (decide (q.num<0)) (stN (modeN m (decide (q.num<0))) (rdN P (bias E) (lgQ q) q) (rdT P (bias E) (lgQ q) q)) (rdF (bias E) (lgQ q)):=by
 have hE:=(fmt_n hF).1;have hP:1≤P:=by have:=(fmt_n hF).2.2.1;omega
 have hst:=stN_le (modeN m (decide (q.num<0))) (rdN P (bias E) (lgQ q) q) (rdT P (bias E) (lgQ q) q);have hlt:=rdN_lt (P:=P) (b:=bias E) (lg_is h0);have hf2:rdF (bias E) (lgQ q)=0∨2^(P-1)≤stN (modeN m (decide (q.num<0))) (rdN P (bias E) (lgQ q) q) (rdT P (bias E) (lgQ q) q):=by
  rcases rdN_ge (b:=bias E) hP (lg_is h0) with h | h
  ·exact .inl h
  ·exact .inr (by omega)
 unfold bt;rw [←rq_res h0];rw [szQ_wv] at hs;unfold resW;rw [if_pos hs]
 exact rankZ_word _ (end_fits (by omega) hP (by omega) hf2 hs)
theorem sz_le (hF:Fmt E P) (h0:q≠0) (h:absQ q≤grQ P (bias E)):szQ E P m q≤grQ P (bias E):=by
 refine Decidable.byContradiction (fun k => ?_)
 have:=over_big (bias_pos (fmt_n hF).1) (lg_is h0) k
 exact absurd h (Rat.not_le.2 this)
theorem great_rank (hF:Fmt E P):rankZ E P (wordN E P false (2^P-1) (2*bias E-1))=((topN E P:Nat):Int)∧wval E P (bias E) (wordN E P false (2^P-1) (2*bias E-1))=grQ P (bias E):=by
 have hE:=(fmt_n hF).1;have hP:1≤P:=by have:=(fmt_n hF).2.2.1;omega
 have hp:2^P=2*2^(P-1):=by rw [←Nat.pow_succ'];congr 1;omega
 have hp1:0<2^(P-1):=Nat.pow_pos (by decide);refine ⟨(rankZ_word false (great_fits hE hP)).trans (by unfold rkZ;rw [if_neg (by decide)];rfl),?_⟩;rw [wordN_val hP false (great_fits hE hP) (by omega) (.inr (by omega)),if_neg (by decide),Rat.one_mul]
 exact (grQ_wv hE).symm
theorem gr_val (hF:Fmt E P):wval E P (bias E) (rq E P 4 (grQ P (bias E))).1=grQ P (bias E):=by
 have hE:=(fmt_n hF).1;have hP:1≤P:=by have:=(fmt_n hF).2.2.1;omega
 have hp0:grQ P (bias E)≠0:=by
  rw [grQ_wv hE];unfold wv;have hp1:0<2^(P-1):=Nat.pow_pos (by decide);have hp:2^P=2*2^(P-1):=by rw [←Nat.pow_succ'];congr 1;omega
  have h1:(0:Rat)<((2^P-1:Nat):Rat):=by exact_mod_cast (show 0<2^P-1 by omega)
  have:=Rat.mul_pos h1 (p2_pos (2-(bias E:Int)-P+((2*bias E-1:Nat):Int)))
  grind
 have hg:absQ (grQ P (bias E))≤grQ P (bias E):=by rw [absQ_nonneg (grQ_nonneg _ _)];exact Rat.le_refl
 have hv:IsVal P (bias E) (grQ P (bias E)):=by rw [←(great_rank hF).2];exact wval_isVal hP
 have hl:=lg_is hp0;have h1:=round_exact_val (E:=E) (m:=4) hP hl hv hg (rd_fits (by omega) hP (rdN_lt hl) (rdN_ge hP hl) (by rw [←(round_exact (E:=E) (m:=4) hl hv hg).2];exact hg));unfold rq rnd;rw [if_neg hp0];exact h1
theorem bt_high (hF:Fmt E P) (h:grQ P (bias E)≤q):bt E P 4 q=((topN E P:Nat):Int):=by
 have hE:=(fmt_n hF).1;have hP:1≤P:=by have:=(fmt_n hF).2.2.1;omega
 have hg0:=grQ_nonneg P (bias E);have gv:=gr_val hF;have gr:=great_rank hF;have h1:=rq_mono (m:=4) hE hP h;rw [gv,←gr.2,rank_le_iff hP,gr.1] at h1;refine Int.le_antisymm ?_ h1;rw [←gr.1]
 show rankZ E P (rq E P 4 q).1≤_
 rw [←rank_le_iff (b:=bias E) hP,gr.2]
 by_cases h0:q=0
 ·subst h0;rw [rq_zero]
  have:wval E P (bias E) 0=0:=by
   have:=wordN_val (E:=E) (b:=bias E) hP false (n:=0) (f:=0) (by simp;exact Nat.pow_pos (by decide)) (Nat.zero_le _) (.inl rfl)
   rw [show wordN E P false 0 0=0 by rw [wordN_eq false (by simp;exact Nat.pow_pos (by decide))];simp] at this;rw [this];have z:((0:Nat):Rat)=0:=rfl;rw [z,Rat.zero_mul,Rat.mul_zero]
  rw [this];exact hg0
 ·have hq0:0≤q:=Rat.le_trans hg0 h;have hn:decide (q.num<0)=false:=dF (fun k=>Rat.not_lt.2 hq0 (num_negI.1 k));rw [←rq_res h0,hn];have hst:=stN_le (modeN 4 false) (rdN P (bias E) (lgQ q) q) (rdT P (bias E) (lgQ q) q);have hlt:=rdN_lt (P:=P) (b:=bias E) (lg_is h0);have hf2:rdF (bias E) (lgQ q)=0∨2^(P-1)≤stN (modeN 4 false) (rdN P (bias E) (lgQ q) q) (rdT P (bias E) (lgQ q) q):=by
   rcases rdN_ge (b:=bias E) hP (lg_is h0) with h | h
   ·exact .inl h
   ·exact .inr (by omega)
  unfold resW
  split
  ·rename_i hs
   rw [wordN_val hP false (end_fits (by omega) hP (by omega) hf2 hs) (by omega) hf2,if_neg (by decide),Rat.one_mul]
   exact hs
  ·rw [if_pos (by decide)];rw [gr.2];exact Rat.le_refl
theorem bt_low (hF:Fmt E P) (h:q < -grQ P (bias E)):bt E P 4 q = -((topN E P:Nat):Int)-1:=by
 have hE:=(fmt_n hF).1;have hP:1≤P:=by have:=(fmt_n hF).2.2.1;omega
 have hg0:=grQ_nonneg P (bias E);have hq0:q<0:=by grind
 have h0:q≠0:=by grind
 have hn:decide (q.num<0)=true:=dT (num_negI.2 hq0);have hu:=st_up (P:=P) (b:=bias E) (q:=q) (l:=lgQ q);have ha:grQ P (bias E)<absQ q:=by
  have e:absQ q = -q:=by rw [←absQ_neg];exact absQ_nonneg (by grind)
  rw [e];grind
 unfold bt;rw [←rq_res h0,hn];unfold resW;have hs:¬ wv P (bias E) (stN (modeN 4 true) (rdN P (bias E) (lgQ q) q) (rdT P (bias E) (lgQ q) q)) (rdF (bias E) (lgQ q))≤grQ P (bias E):=by
  refine Rat.not_le.2 (ltle ha ?_)
  exact hu
 rw [if_neg hs,if_neg (by decide),rankZ_inf hE hP,if_pos rfl]
theorem bt_abs (hF:Fmt E P):(bt E P m q).natAbs<2^(E+P-1)∧(bt E P m q).natAbs<2^124∧topN E P+1<2^(E+P-1)∧topN E P+1<2^124:=by
 have p:=fmt_n hF;have h:=topN_inf (E:=E) (P:=P) p.1 (by omega);have h124:2^(E+P-1)≤2^124:=Nat.pow_le_pow_right (by decide) (by omega);have h1:(bt E P m q).natAbs<2^(E+P-1):=by
  have:=Nat.mod_lt (rq E P m q).1 (Nat.pow_pos (n:=E+P-1) (show 0<2 by decide))
  unfold bt rankZ
  split<;>omega
 omega
end
section
variable {E P m n f:Nat} {q r:Rat} {K:Nat}
theorem bt_sm (hF:Fmt E P):SmQ 130 ((bt E P m q:Int):Rat):=(SmQ.int (K:=124) (by decide) (bt_abs hF).2.1).mono (by decide)
theorem cBetween {m':Nat} (hF:Fmt E P) (hm:m≤4) (sx:SmQ K q) (hK:K≤12000):Cal Tryz.prog OQ 124 [mA E P m' (bias E:Nat),nA q,iA (m:Nat)] (nA ((bt E P m q:Int):Rat)):=by
 refine fn_call TK MX Tryz.func124 rfl (by kernel_rfl) (by kernel_rfl) (by kernel_rfl) rfl rfl ?_
 conv=>whnf
 refine ⟨_,cRoundQ hF hm sx hK,?_⟩
 conv=>whnf
 refine ⟨_,cRank (m:=m) hF (fmt_n hF).2.2.2.2.2 (w128 hF (rq_lt hF)),?_⟩
 conv=>whnf
 rfl
def cntZ (E P:Nat) (q r:Rat):Int:=bt E P 4 r-bt E P 3 q+1
def cntR (E P:Nat) (q r:Rat):Int×Int:=if 4611686018427387904<cntZ E P q r then (0,3) else (max (cntZ E P q r) 0,0)
theorem cnt_sm (hF:Fmt E P):SmQ 200 ((bt E P 4 r:Int):Rat)∧SmQ 200 ((bt E P 3 q:Int):Rat)∧SmQ 200 (((bt E P 4 r-bt E P 3 q:Int):Int):Rat)∧SmQ 200 ((cntZ E P q r:Int):Rat):=by
 have h1:=(bt_abs (m:=4) (q:=r) hF).2.1;have h2:=(bt_abs (m:=3) (q:=q) hF).2.1;have e:(2:Nat)^130=64*2^124:=by decide
 refine ⟨(bt_sm hF).mono (by decide),(bt_sm hF).mono (by decide),(SmQ.int (K:=130) (by decide) (by omega)).mono (by decide),(SmQ.int (K:=130) (by decide) (by unfold cntZ;omega)).mono (by decide)⟩
theorem cmp_int (a b:Int):decide (cmpQ ((a:Int):Rat) ((b:Int):Rat)>0)=decide (b<a):=by
 have:cmpQ ((a:Int):Rat) ((b:Int):Rat)>0↔b<a:=by rw [gt_iff_lt,cmpQ_gt,Rat.intCast_lt_intCast]
 simp only [this]
theorem p62:(2:Rat)^(62:Int)=((4611686018427387904:Int):Rat):=by decide +kernel
theorem sub_cast (a b:Int):((a:Int):Rat)-((b:Int):Rat)=((a-b:Int):Rat):=(Rat.intCast_sub _ _).symm
theorem add_cast (a b:Int):((a:Int):Rat)+((b:Int):Rat)=((a+b:Int):Rat):=(Rat.intCast_add _ _).symm
theorem max_cast (z:Int):(if cmpQ ((z:Int):Rat) ((0:Int):Rat)<0 then ((0:Int):Rat) else ((z:Int):Rat))=(((max z 0).toNat:Nat):Rat):=by
 have h:cmpQ ((z:Int):Rat) ((0:Int):Rat)<0↔z<0:=by
  have:=cmp_lt0 ((z:Int):Rat) ((0:Int):Rat)
  rw [Bool.eq_iff_iff,decide_eq_true_iff,decide_eq_true_iff,Rat.intCast_lt_intCast] at this
  exact this
 by_cases hz:z<0
 ·rw [if_pos (h.2 hz)]
  have:(max z 0).toNat=0:=by omega
  rw [this];rfl
 ·rw [if_neg (fun k=>hz (h.1 k))]
  have:z=(((max z 0).toNat:Nat):Int):=by omega
  conv=>lhs;rw [this]
  rfl
theorem cCountF (hF:Fmt E P) (sx:SmQ 8000 q) (sy:SmQ 8000 r):Cal Tryz.prog OQ 46 [fA E P,nA q,nA r] (.t [iA (cntR E P q r).1,iA (cntR E P q r).2]):=by
 obtain ⟨s1,s2,s3,s4⟩:=cnt_sm (q:=q) (r:=r) hF;have so:SmQ 200 ((1:Int):Rat):=(SmQ.int (K:=2) (n:=1) (by decide) (by decide)).mono (by decide);refine fn_callB [(4,[(0,8),(1,5),(3,8),(4,4),(10,10)]),(5,[(0,10)]),(7,[(0,10)])] TK MX Tryz.func46 rfl (by kernel_rfl) (by kernel_rfl) (by kernel_rfl) rfl rfl ?_;obtain ⟨R,hR⟩:∃ R,R=cntR E P q r:=⟨_,rfl⟩;rw [←hR];unfold cntR at hR
 conv=>whnf
 refine ⟨_,cWith0 (m:=0) hF (by decide),?_⟩
 conv=>whnf
 refine ⟨_,cBetween (m:=4) (m':=0) hF (by decide) sy (by decide),?_⟩
 conv=>whnf
 refine ⟨_,cBetween (m:=3) (m':=0) hF (by decide) sx (by decide),?_⟩
 conv=>whnf
 refine ⟨_,cSub s1 s2 (by decide),?_⟩;rw [sub_cast]
 conv=>whnf
 refine ⟨_,cInt (n:=1) (by decide) (by decide),?_⟩
 conv=>whnf
 refine ⟨_,cAdd s3 so (by decide),?_⟩;rw [add_cast,show bt E P 4 r-bt E P 3 q+1=cntZ E P q r from rfl];generalize cntZ E P q r=z at *
 conv=>whnf
 refine ⟨_,cTwoF (k:=62) (by decide) (by decide),?_⟩;rw [p62]
 conv=>whnf
 refine ⟨_,cCmp s4 ((SmQ.int (K:=100) (n:=4611686018427387904) (by decide) (by decide)).mono (by decide)) (by decide),?_⟩
 conv=>whnf
 rw [cmp_int]
 by_cases h:4611686018427387904<z
 ·rw [dT h];rw [if_pos h] at hR
  conv=>whnf
  rw [hR]
  rfl
 ·rw [dF h];rw [if_neg h] at hR
  conv=>whnf
  refine ⟨_,cInt (n:=0) (by decide) (by decide),?_⟩
  conv=>whnf
  refine ⟨_,cMaxN s4 ((SmQ.int (K:=2) (n:=0) (by decide) (by decide)).mono (by decide)) (by decide),?_⟩;rw [max_cast]
  conv=>whnf
  refine ⟨_,cInt64 (n:=(max z 0).toNat) (by omega),?_⟩
  conv=>whnf
  rw [hR,show (((max z 0).toNat:Nat):Int)=max z 0 by omega]
  rfl
def rkdW (E P:Nat) (z:Int):Nat:=z.natAbs+(if z<0 then 2^(E+P-1) else 0)
theorem cSignM {b:Nat} {neg:Bool} (hF:Fmt E P):Cal Tryz.prog OQ 167 [mA E P m b,bA neg] (wA (sgb E P neg)) :=
 calA [.mc E P m b,.s (.bool neg)] (r:=.w _) (by kernel_rfl) rfl fun w vs _ hv=>by
  obtain ⟨x,y,rfl,rfl,rfl⟩:=two_args hv;exact (sign_c' E P m b neg w hF).mono fun _ _ ⟨h1,h2⟩=>⟨_,h1,rfl,h2⟩
theorem abs_int (z:Int):absQ ((z:Int):Rat)=((z.natAbs:Nat):Rat):=by
 by_cases h:0≤z
 ·rw [absQ_nonneg (by exact_mod_cast h)]
  have:z=((z.natAbs:Nat):Int):=by omega
  conv=>lhs;rw [this]
  rfl
 ·have h1:absQ ((z:Int):Rat) = -((z:Int):Rat):=by
   rw [←absQ_neg];refine absQ_nonneg ?_;rw [←Rat.intCast_neg];exact_mod_cast (show 0 ≤ -z by omega)
  rw [h1,←Rat.intCast_neg];have : -z=((z.natAbs:Nat):Int):=by omega
  rw [this];rfl
theorem sgn_int (z:Int):decide (((z:Int):Rat).num.sign<0)=decide (z<0):=by
 have:((z:Int):Rat).num.sign<0↔z<0:=Int.sign_neg_iff
 simp only [this]
theorem cRankedM {b:Nat} {z:Int} (hF:Fmt E P) (hz:z.natAbs<2^(E+P-1)):Cal Tryz.prog OQ 135 [mA E P m b,nA ((z:Int):Rat)] (wA (rkdW E P z)):=by
 have p:=fmt_n hF;have hp:2^(E+P-1)≤2^124:=Nat.pow_le_pow_right (by decide) (by omega);have hb:(2:Nat)^124*2<340282366920938463463374607431768211456:=by decide
 have hz8:W128 z.natAbs:=by unfold W128;omega
 have hs8:W128 (sgb E P (decide (z<0))):=by unfold W128 sgb;split<;>omega
 have e:(sgb E P (decide (z<0)) ||| z.natAbs)=rkdW E P z:=by
  unfold rkdW sgb
  by_cases h:z<0
  ·rw [dT h,if_pos rfl,if_pos h,Nat.or_comm]
   exact or_hid hz
  ·rw [dF h,if_neg (by decide),if_neg h];simp
 refine fn_callB [(1,[(0,2),(1,3),(5,3),(9,4)])] TK MX Tryz.func135 rfl (by kernel_rfl) (by kernel_rfl) (by kernel_rfl) rfl rfl ?_
 conv=>whnf
 refine ⟨_,cSign,?_⟩
 conv=>whnf
 rw [sgn_int];refine ⟨_,cSignM hF,?_⟩
 conv=>whnf
 refine ⟨_,cAbs,?_⟩;rw [abs_int]
 conv=>whnf
 refine ⟨_,cPacked hz8,?_⟩
 conv=>whnf
 refine ⟨_,cBothW hs8 hz8,?_⟩;rw [e]
 conv=>whnf
 rfl
def nthR (E P:Nat) (q:Rat) (z:Int):Nat×Int:=if z<0 then (0,7) else if ((topN E P:Nat):Int)<bt E P 3 q+z then (0,4) else (rkdW E P (bt E P 3 q+z),0)
theorem cmp_ge (a b:Int):decide (cmpQ ((a:Int):Rat) ((b:Int):Rat)≥0)=decide (b≤a):=by
 have h:=cmp_lt0 ((a:Int):Rat) ((b:Int):Rat);rw [Bool.eq_iff_iff,decide_eq_true_iff,decide_eq_true_iff,Rat.intCast_lt_intCast] at h
 have:cmpQ ((a:Int):Rat) ((b:Int):Rat)≥0↔b≤a:=by omega
 simp only [this]
theorem cNthF {z:Int} (hF:Fmt E P) (sx:SmQ 8000 q) (h0 : -9223372036854775808≤z) (h1:z<9223372036854775808):Cal Tryz.prog OQ 48 [fA E P,nA q,iA z] (.t [wA (nthR E P q z).1,iA (nthR E P q z).2]):=by
 have p:=fmt_n hF;obtain ⟨b1,b2,b3,b4⟩:=bt_abs (m:=3) (q:=q) hF;have s1:=bt_sm (m:=3) (q:=q) hF;have hi:=rankZ_inf (E:=E) (P:=P) p.1 (by omega) false;rw [if_neg (by decide)] at hi;refine fn_callB [(7,[(0,10),(1,8),(2,8)])] TK MX Tryz.func48 rfl (by kernel_rfl) (by kernel_rfl) (by kernel_rfl) rfl rfl ?_;obtain ⟨R,hR⟩:∃ R,R=nthR E P q z:=⟨_,rfl⟩;rw [←hR];unfold nthR at hR
 conv=>whnf
 refine ⟨_,cWith0 (m:=0) hF (by decide),?_⟩
 conv=>whnf
 by_cases hz:z<0
 ·rw [dT hz];rw [if_pos hz] at hR
  conv=>whnf
  rw [hR]
  rfl
 ·rw [dF hz];rw [if_neg hz] at hR
  conv=>whnf
  refine ⟨_,cBetween (m:=3) (m':=0) hF (by decide) sx (by decide),?_⟩
  conv=>whnf
  refine ⟨_,cInt h0 h1,?_⟩
  conv=>whnf
  refine ⟨_,cAdd (K:=130) s1 ((SmQ.int (K:=100) (by decide) (by omega)).mono (by decide)) (by decide),?_⟩;rw [add_cast];have e126:(2:Nat)^126=4*2^124:=by decide
  have s2:SmQ 130 ((bt E P 3 q+z:Int):Rat):=(SmQ.int (K:=126) (n:=bt E P 3 q+z) (by decide) (by omega)).mono (by decide)
  conv=>whnf
  refine ⟨_,cInf hF,?_⟩
  conv=>whnf
  refine ⟨_,cRank (m:=0) hF p.2.2.2.2.2 (w128 hF (inf_ok (by omega) false).1),?_⟩;rw [hi]
  conv=>whnf
  refine ⟨_,cCmp (K:=130) s2 ((SmQ.int (K:=124) (by decide) (by omega)).mono (by decide)) (by decide),?_⟩
  conv=>whnf
  rw [cmp_ge]
  by_cases ht:((topN E P:Nat):Int)<bt E P 3 q+z
  ·rw [dT (show ((topN E P:Nat):Int)+1≤bt E P 3 q+z by omega)];rw [if_pos ht] at hR
   conv=>whnf
   rw [hR]
   rfl
  ·rw [dF (show ¬ ((topN E P:Nat):Int)+1≤bt E P 3 q+z by omega)];rw [if_neg ht] at hR
   conv=>whnf
   refine ⟨_,cRankedM hF (by omega),?_⟩
   conv=>whnf
   rw [hR]
   rfl
/-! ### Step, Greatest, Least, Normal -/
def stpR (E P:Nat) (q:Rat):Rat×Int:=if grQ P (bias E)<absQ q then (0,7) else ((2:Rat)^(stE E P q),0)
theorem cStepF (hF:Fmt E P) (sx:SmQ 8000 q):Cal Tryz.prog OQ 50 [fA E P,nA q] (.t [nA (stpR E P q).1,iA (stpR E P q).2]):=by
 have p:=fmt_n hF;refine fn_callB [(4,[(0,3),(2,6)]),(8,[(0,6),(1,3),(5,4)])] TK MX Tryz.func50 rfl (by kernel_rfl) (by kernel_rfl) (by kernel_rfl) rfl rfl ?_;obtain ⟨R,hR⟩:∃ R,R=stpR E P q:=⟨_,rfl⟩;rw [←hR];unfold stpR at hR;have hc:decide (cmpQ (absQ q) (grQ P (bias E))>0)=decide (grQ P (bias E)<absQ q):=by
  have:cmpQ (absQ q) (grQ P (bias E))>0↔grQ P (bias E)<absQ q:=by rw [gt_iff_lt,cmpQ_gt]
  simp only [this]
 conv=>whnf
 refine ⟨_,cWith0 (m:=0) hF (by decide),?_⟩
 conv=>whnf
 refine ⟨_,cAbs,?_⟩
 conv=>whnf
 refine ⟨_,cGreatM hF p.2.2.2.2.2,?_⟩
 conv=>whnf
 refine ⟨_,cCmp (K:=16000) (sx.absQ.mono (by decide)) (grQ_sm ⟨by omega,by omega⟩ (by omega)) (by decide),?_⟩
 conv=>whnf
 rw [hc]
 by_cases hg:grQ P (bias E)<absQ q
 ·rw [dT hg];rw [if_pos hg] at hR
  conv=>whnf
  rw [hR]
  rfl
 ·rw [dF hg];rw [if_neg hg] at hR
  conv=>whnf
  refine ⟨_,cSign,?_⟩
  conv=>whnf
  rw [signZ]
  by_cases h0:q=0
  ·rw [dT h0];have e:stE E P q=2-((bias E:Nat):Int)-P:=by unfold stE lg0 rdK rdF;rw [if_pos h0];omega
   rw [e] at hR
   conv=>whnf
   refine ⟨_,cLeastF (by omega) (by omega),?_⟩
   conv=>whnf
   refine ⟨_,cTwoF (by omega) (by omega),?_⟩
   conv=>whnf
   rw [hR]
   rfl
  ·rw [dF h0];have hl:=(lg_is h0).bound sx.absQ;have e:stE E P q=rdK P (bias E) (lgQ q):=by unfold stE lg0;rw [if_neg h0]
   rw [e] at hR;have hk : -1200≤rdK P (bias E) (lgQ q)∧rdK P (bias E) (lgQ q)≤10000:=by unfold rdK rdF;omega
   conv=>whnf
   refine ⟨_,cLogF sx (by decide) (fun e=>h0 (Rat.num_eq_zero.1 e)) (lg_is h0),?_⟩
   conv=>whnf
   refine ⟨_,cStepM hF p.2.2.2.2.2 (by omega),?_⟩;rw [rdK_max]
   conv=>whnf
   refine ⟨_,cTwoF (by omega) (by omega),?_⟩
   conv=>whnf
   rw [hR]
   rfl
end
section
variable {E P m n f:Nat} {q r:Rat} {K:Nat}
theorem cRRank {neg:Bool} (hF:Fmt E P) (hn:n≤2^P) (h:f=0∨2^(P-1)≤n) (hg:wv P (bias E) n f≤grQ P (bias E)) (sx:SmQ 40000 (sgnQ neg*wv P (bias E) n f)) :
  Cal Tryz.prog OQ 136 [fA E P,rA (sgnQ neg*wv P (bias E) n f)] (rA ((rkZ P neg n f:Int):Rat)):=by
 have p:=fmt_n hF;have hft:=end_fits (E:=E) (by omega) (by omega) hn h hg;have hw:=cRWordV (neg:=false) hF hn h hft;have hwl:wordN E P false n f=n+f*2^(P-1):=by rw [wordN_eq false hft];simp
 have h8:W128 (n+f*2^(P-1)):=by
  have:2^(E+P-1)≤2^124:=Nat.pow_le_pow_right (by decide) (by omega)
  have:(2:Nat)^124<340282366920938463463374607431768211456:=by decide
  unfold W128;omega
 rw [hwl] at hw;have ha:absQ (sgnQ neg*wv P (bias E) n f)=wv P (bias E) n f:=absQ_signed (wv_nonneg _ _ _ _) neg;have hp2:=p2_pos (2-(bias E:Int)-P+(f:Nat));have hs:decide ((sgnQ neg*wv P (bias E) n f).num.sign<0)=(neg&&decide (n≠0)):=by
  rw [sgn_lt];have key:(sgnQ neg*wv P (bias E) n f).num<0↔neg=true∧n≠0:=by
   rw [num_negI];unfold sgnQ wv;generalize (2:Rat)^(2-(bias E:Int)-P+(f:Nat))=s at *
   cases neg
   ·rw [if_neg (by decide),Rat.one_mul];have n0:(0:Rat)≤((n:Nat):Rat):=by exact_mod_cast Nat.zero_le n
    have:=Rat.mul_nonneg n0 (Rat.le_of_lt hp2)
    exact ⟨fun h=>absurd h (Rat.not_lt.2 this),fun h=>absurd h.1 (by decide)⟩
   ·rw [if_pos rfl]
    by_cases hn0:n=0
    ·subst hn0
     have:((0:Nat):Rat)=0:=rfl
     rw [this,Rat.zero_mul,Rat.mul_zero]
     exact ⟨fun h=>absurd h Rat.lt_irrefl,fun h=>absurd rfl h.2⟩
    ·have n0:(0:Rat)<((n:Nat):Rat):=by exact_mod_cast Nat.pos_of_ne_zero hn0
     have:=Rat.mul_pos n0 hp2
     exact ⟨fun _=>⟨rfl,hn0⟩,fun _=>by
      have e:(-1:Rat)*(((n:Nat):Rat)*s) = -(((n:Nat):Rat)*s):=by grind
      rw [e];grind⟩
  rw [Bool.eq_iff_iff,decide_eq_true_iff,key];simp
 have hz:n=0→f=0:=fun h0=>by
  rcases h with h | h
  ·exact h
  ·have:=Nat.pow_pos (n:=P-1) (show 0<2 by decide);omega
 generalize sgnQ neg*wv P (bias E) n f=y at *
 refine fn_callB [(1,[(0,2),(1,3),(6,5)])] TK MX Tryz.func136 rfl (by kernel_rfl) (by kernel_rfl) (by kernel_rfl) rfl rfl ?_
 conv=>whnf
 refine ⟨_,cRAbs,?_⟩;rw [ha]
 conv=>whnf
 refine ⟨_,hw,?_⟩
 conv=>whnf
 refine ⟨_,cRBits h8,?_⟩
 conv=>whnf
 refine ⟨_,cRSign,?_⟩
 conv=>whnf
 rw [hs]
 cases neg
 ·rw [show rkZ P false n f=((n+f*2^(P-1):Nat):Int) from if_neg (by decide)]
  conv=>whnf
  rfl
 ·by_cases hn0:n=0
  ·have e0:n+f*2^(P-1)=0:=by rw [hz hn0,hn0];simp
   rw [dF (show ¬ n≠0 from fun k=>k hn0),show rkZ P true n f = -((n+f*2^(P-1):Nat):Int) from if_pos rfl,e0]
   conv=>whnf
   rfl
  ·rw [dT hn0,show rkZ P true n f = -((n+f*2^(P-1):Nat):Int) from if_pos rfl,Rat.intCast_neg]
   conv=>whnf
   refine ⟨_,cRNeg,?_⟩
   conv=>whnf
   rfl
theorem cRRankG (hF:Fmt E P) (neg:Bool):Cal Tryz.prog OQ 136 [fA E P,rA (sgnQ neg*grQ P (bias E))] (rA (((if neg=true then -((topN E P:Nat):Int) else ((topN E P:Nat):Int)):Int):Rat)):=by
 have p:=fmt_n hF;have hp:2^P=2*2^(P-1):=by rw [←Nat.pow_succ'];congr 1;omega
 have hp1:0<2^(P-1):=Nat.pow_pos (by decide);have sg:SmQ 16000 (grQ P (bias E)):=grQ_sm ⟨by omega,by omega⟩ (by omega);have h:=cRRank (neg:=neg) (n:=2^P-1) (f:=2*bias E-1) hF (by omega) (.inr (by omega)) (by rw [←grQ_wv p.1];exact Rat.le_refl) (by
  rw [←grQ_wv p.1];unfold sgnQ
  split
  ·have : -1*grQ P (bias E) = -grQ P (bias E):=by grind
   rw [this];exact sg.neg.mono (by decide)
  ·rw [Rat.one_mul];exact sg.mono (by decide))
 rw [←grQ_wv p.1] at h
 exact h
theorem wv_zero_le {P b:Nat}:wv P b 0 0≤grQ P b:=by
 unfold wv
 have:((0:Nat):Rat)=0:=rfl
 rw [this,Rat.zero_mul];exact grQ_nonneg _ _
theorem cmp_ge0 (a b:Rat):decide (cmpQ a b≥0)=decide (b≤a):=by
 have h:=cmp_lt0 a b;rw [Bool.eq_iff_iff,decide_eq_true_iff,decide_eq_true_iff] at h;rw [Bool.eq_iff_iff,decide_eq_true_iff,decide_eq_true_iff,←Rat.not_lt,←h]
 omega
theorem cRFloorR (hF:Fmt E P) (sx:SmQ K q) (hK:K≤12000):Cal Tryz.prog OQ 130 [fA E P,rA q] (rA ((bt E P 4 q:Int):Rat)):=by
 have p:=fmt_n hF;have sg:SmQ 16000 (grQ P (bias E)):=grQ_sm ⟨by omega,by omega⟩ (by omega);have sx':SmQ 16000 q:=sx.mono (by omega);have r0:=cRRankG hF false;have r1:=cRRankG hF true;rw [show sgnQ false*grQ P (bias E)=grQ P (bias E) by unfold sgnQ;rw [if_neg (by decide),Rat.one_mul],if_neg (by decide)] at r0;rw [show sgnQ true*grQ P (bias E) = -grQ P (bias E) by unfold sgnQ;rw [if_pos rfl];grind,if_pos rfl] at r1;refine fn_callB [(4,[(0,3),(1,5)]),(5,[(0,2),(1,5),(6,4)]),(7,[(0,2),(1,3),(2,6),(5,6),(8,4)])] TK MX Tryz.func130 rfl (by kernel_rfl) (by kernel_rfl) (by kernel_rfl) rfl rfl ?_;have hh:=bt_high (q:=q) hF;have hl:=bt_low (q:=q) hF;have hi:q≠0→absQ q≤grQ P (bias E)→bt E P 4 q=rkZ P (decide (q.num<0)) (stN (modeN 4 (decide (q.num<0))) (rdN P (bias E) (lgQ q) q) (rdT P (bias E) (lgQ q) q)) (rdF (bias E) (lgQ q)):=fun h0 h=>bt_in hF h0 (sz_le hF h0 h);have hz:q=0→bt E P 4 q=0:=fun h=>by rw [h];exact bt_zero
 have hb:=(bt_abs (m:=4) (q:=q) hF).2.2.2;generalize bt E P 4 q=z at *
 conv=>whnf
 refine ⟨_,cRGreatest hF,?_⟩
 conv=>whnf
 refine ⟨_,cRCmp sx' sg (by decide),?_⟩
 conv=>whnf
 rw [cmp_ge0]
 by_cases h1:grQ P (bias E)≤q
 ·rw [dT h1,hh h1]
  conv=>whnf
  refine ⟨_,r0,?_⟩
  conv=>whnf
  rfl
 ·rw [dF h1]
  conv=>whnf
  refine ⟨_,cRNeg,?_⟩
  conv=>whnf
  refine ⟨_,cRCmp sx' sg.neg (by decide),?_⟩
  conv=>whnf
  rw [cmp_lt0]
  by_cases h2:q < -grQ P (bias E)
  ·rw [dT h2,hl h2]
   conv=>whnf
   refine ⟨_,cRNeg,?_⟩
   conv=>whnf
   refine ⟨_,r1,?_⟩
   conv=>whnf
   refine ⟨_,cRInt (n:=1) (by decide) (by decide),?_⟩
   conv=>whnf
   refine ⟨_,cRSub (K:=130) ((SmQ.int (K:=124) (by decide) (by omega)).mono (by decide)) ((SmQ.int (K:=2) (n:=1) (by decide) (by decide)).mono (by decide)) (by decide),?_⟩;rw [sub_cast]
   conv=>whnf
   rfl
  ·rw [dF h2];have ss:SmQ 20000 ((2:Rat)^(stE E P q)):=(p2_sm (stE_sm hF sx (by omega))).mono (by omega);have hs:=p2_pos (stE E P q);have hs0:(2:Rat)^(stE E P q)≠0:=by grind
   have ha:absQ q≤grQ P (bias E):=by
    rcases Rat.le_total (a:=0) (b:=q) with h | h
    ·rw [absQ_nonneg h];grind
    ·have e:absQ q = -q:=by rw [←absQ_neg];exact absQ_nonneg (by grind)
     rw [e];grind
   have sf:=((sx.mono (show K≤20000 by omega)).div ss hs0).floor
   conv=>whnf
   refine ⟨_,cRStep hF sx (by omega),?_⟩
   conv=>whnf
   refine ⟨_,cROver (K:=20000) (sx.mono (by omega)) ss (by decide) hs0,?_⟩
   conv=>whnf
   refine ⟨_,cRFloor ((sx.mono (show K≤20000 by omega)).div ss hs0) (by decide),?_⟩
   conv=>whnf
   refine ⟨_,cRTimes (K:=40000) sf (ss.mono (by decide)) (by decide),?_⟩;have em:mulQ 4 q ((2:Rat)^(stE E P q))=(((q/(2:Rat)^(stE E P q)).floor:Int):Rat)*(2:Rat)^(stE E P q):=rfl;rw [←em]
   by_cases h0:q=0
   ·subst h0;have hr:=cRRank (neg:=false) (n:=0) (f:=0) hF (Nat.zero_le _) (.inl rfl) wv_zero_le (by rw [zero_wv];exact SmQ.zero _ (by decide));rw [zero_wv,show rkZ P false 0 0=0 by unfold rkZ;simp] at hr;rw [mulQ_zero,hz rfl]
    conv=>whnf
    refine ⟨_,hr,?_⟩
    conv=>whnf
    rfl
   ·have hst:=stN_le (modeN 4 (decide (q.num<0))) (rdN P (bias E) (lgQ q) q) (rdT P (bias E) (lgQ q) q);have hlt:=rdN_lt (P:=P) (b:=bias E) (lg_is h0);have hf2:rdF (bias E) (lgQ q)=0∨2^(P-1)≤stN (modeN 4 (decide (q.num<0))) (rdN P (bias E) (lgQ q) q) (rdT P (bias E) (lgQ q) q):=by
     rcases rdN_ge (b:=bias E) (show 1≤P by omega) (lg_is h0) with h | h
     ·exact .inl h
     ·exact .inr (by omega)
    have sz:=szQ_sm (m:=4) hF sx hK h0;have hle:=sz_le (m:=4) hF h0 ha;rw [mulQ_sz (by decide) h0,hi h0 ha];rw [szQ_wv] at sz hle ⊢
    conv=>whnf
    refine ⟨_,cRRank hF (by omega) hf2 hle (sz.mono (by decide)),?_⟩
    conv=>whnf
    rfl
theorem cRCeilR (hF:Fmt E P) (sx:SmQ K q) (hK:K≤12000):Cal Tryz.prog OQ 131 [fA E P,rA q] (rA ((bt E P 3 q:Int):Rat)):=by
 refine fn_callB [(1,[(0,2),(1,3),(5,4)])] TK MX Tryz.func131 rfl (by kernel_rfl) (by kernel_rfl) (by kernel_rfl) rfl rfl ?_;rw [bt_flip hF,Rat.intCast_neg]
 conv=>whnf
 refine ⟨_,cRNeg,?_⟩
 conv=>whnf
 refine ⟨_,cRFloorR hF sx.neg hK,?_⟩
 conv=>whnf
 refine ⟨_,cRNeg,?_⟩
 conv=>whnf
 rfl
theorem cRMax (sx:SmQ K q) (sy:SmQ K r) (hK:K≤10000000):Cal Tryz.prog OQ 134 [rA q,rA r] (rA (if r≤q then q else r)):=by
 refine fn_call TK MX Tryz.func134 rfl (by kernel_rfl) (by kernel_rfl) (by kernel_rfl) rfl rfl ?_
 conv=>whnf
 refine ⟨_,cRCmp sx sy hK,?_⟩
 conv=>whnf
 rw [cmp_ge0]
 by_cases h:r≤q
 ·rw [dT h,show (if r≤q then q else r)=q from if_pos h]
  conv=>whnf
  rfl
 ·rw [dF h,show (if r≤q then q else r)=r from if_neg h]
  conv=>whnf
  rfl
theorem max_castR (z:Int):(if (0:Rat)≤((z:Int):Rat) then ((z:Int):Rat) else 0)=((max z 0:Int):Rat):=by
 by_cases h:0≤z
 ·rw [if_pos (by exact_mod_cast h),show max z 0=z by omega]
 ·rw [if_neg (fun k=>h (by exact_mod_cast k)),show max z 0=0 by omega];rfl
theorem cRCountF (hF:Fmt E P) (sx:SmQ 8000 q) (sy:SmQ 8000 r):Cal Tryz.prog OQ 47 [fA E P,rA q,rA r] (.t [iA (cntR E P q r).1,iA (cntR E P q r).2]):=by
 obtain ⟨s1,s2,s3,s4⟩:=cnt_sm (q:=q) (r:=r) hF;have so:SmQ 200 ((1:Int):Rat):=(SmQ.int (K:=2) (n:=1) (by decide) (by decide)).mono (by decide);refine fn_callB [(3,[(0,3),(1,5),(3,3),(4,4),(10,8)]),(4,[(0,8)])] TK MX Tryz.func47 rfl (by kernel_rfl) (by kernel_rfl) (by kernel_rfl) rfl rfl ?_;obtain ⟨R,hR⟩:∃ R,R=cntR E P q r:=⟨_,rfl⟩;rw [←hR];unfold cntR at hR
 conv=>whnf
 refine ⟨_,cRCheck,?_⟩;rw [show fmtZ E P=0 from if_pos hF]
 conv=>whnf
 refine ⟨_,cRFloorR hF sy (by decide),?_⟩
 conv=>whnf
 refine ⟨_,cRCeilR hF sx (by decide),?_⟩
 conv=>whnf
 refine ⟨_,cRSub s1 s2 (by decide),?_⟩;rw [sub_cast]
 conv=>whnf
 refine ⟨_,cRInt (n:=1) (by decide) (by decide),?_⟩
 conv=>whnf
 refine ⟨_,cRAdd s3 so (by decide),?_⟩;rw [add_cast,show bt E P 4 r-bt E P 3 q+1=cntZ E P q r from rfl];generalize cntZ E P q r=z at *
 conv=>whnf
 refine ⟨_,cRInt (n:=4611686018427387904) (by decide) (by decide),?_⟩
 conv=>whnf
 refine ⟨_,cRCmp s4 ((SmQ.int (K:=100) (n:=4611686018427387904) (by decide) (by decide)).mono (by decide)) (by decide),?_⟩
 conv=>whnf
 rw [cmp_int]
 by_cases h:4611686018427387904<z
 ·rw [dT h];rw [if_pos h] at hR
  conv=>whnf
  rw [hR]
  rfl
 ·rw [dF h];rw [if_neg h] at hR
  conv=>whnf
  refine ⟨_,cRMax (r:=0) s4 (SmQ.zero _ (by decide)) (by decide),?_⟩;rw [max_castR]
  conv=>whnf
  refine ⟨_,cRInt64 (N:=max z 0) (by omega) (by omega),?_⟩
  conv=>whnf
  rw [hR]
  rfl
theorem cRRanked {z:Int} (hF:Fmt E P) (hz:z.natAbs<2^(E+P-1)):Cal Tryz.prog OQ 137 [fA E P,rA ((z:Int):Rat)] (wA (rkdW E P z)):=by
 have p:=fmt_n hF;have hp:2^(E+P-1)≤2^124:=Nat.pow_le_pow_right (by decide) (by omega);have hb:(2:Nat)^124*2<340282366920938463463374607431768211456:=by decide
 have hz8:W128 z.natAbs:=by unfold W128;omega
 have h2:2^(E+P)=2*2^(E+P-1):=by rw [←Nat.pow_succ'];congr 1;omega
 have e:z<0→flipW E P z.natAbs=rkdW E P z:=fun h=>by unfold flipW rkdW;rw [if_neg (by omega),if_pos h]
 have e2:¬ z<0→z.natAbs=rkdW E P z:=fun h=>by unfold rkdW;rw [if_neg h];omega
 refine fn_call TK MX Tryz.func137 rfl (by kernel_rfl) (by kernel_rfl) (by kernel_rfl) rfl rfl ?_
 conv=>whnf
 refine ⟨_,cRAbs,?_⟩;rw [abs_int]
 conv=>whnf
 refine ⟨_,cRPacked hz8,?_⟩
 conv=>whnf
 refine ⟨_,cRSign,?_⟩
 conv=>whnf
 rw [sgn_int]
 by_cases h:z<0
 ·rw [dT h]
  conv=>whnf
  refine ⟨_,cFlip hF (by omega),?_⟩;rw [e h]
  conv=>whnf
  rfl
 ·rw [dF h,←e2 h]
  conv=>whnf
  rfl
theorem cRNthF {z:Int} (hF:Fmt E P) (sx:SmQ 8000 q) (h0 : -9223372036854775808≤z) (h1:z<9223372036854775808):Cal Tryz.prog OQ 49 [fA E P,rA q,iA z] (.t [wA (nthR E P q z).1,iA (nthR E P q z).2]):=by
 have p:=fmt_n hF;obtain ⟨b1,b2,b3,b4⟩:=bt_abs (m:=3) (q:=q) hF;have s1:=bt_sm (m:=3) (q:=q) hF;have r0:=cRRankG hF false;rw [show sgnQ false*grQ P (bias E)=grQ P (bias E) by unfold sgnQ;rw [if_neg (by decide),Rat.one_mul],if_neg (by decide)] at r0;refine fn_callB [(6,[(0,8),(1,3),(2,3)])] TK MX Tryz.func49 rfl (by kernel_rfl) (by kernel_rfl) (by kernel_rfl) rfl rfl ?_;obtain ⟨R,hR⟩:∃ R,R=nthR E P q z:=⟨_,rfl⟩;rw [←hR];unfold nthR at hR
 conv=>whnf
 refine ⟨_,cRCheck,?_⟩;rw [show fmtZ E P=0 from if_pos hF]
 conv=>whnf
 by_cases hz:z<0
 ·rw [dT hz];rw [if_pos hz] at hR
  conv=>whnf
  rw [hR]
  rfl
 ·rw [dF hz];rw [if_neg hz] at hR
  conv=>whnf
  refine ⟨_,cRCeilR hF sx (by decide),?_⟩
  conv=>whnf
  refine ⟨_,cRInt h0 h1,?_⟩
  conv=>whnf
  refine ⟨_,cRAdd (K:=130) s1 ((SmQ.int (K:=100) (by decide) (by omega)).mono (by decide)) (by decide),?_⟩;rw [add_cast];have e126:(2:Nat)^126=4*2^124:=by decide
  have s2:SmQ 130 ((bt E P 3 q+z:Int):Rat):=(SmQ.int (K:=126) (n:=bt E P 3 q+z) (by decide) (by omega)).mono (by decide)
  conv=>whnf
  refine ⟨_,cRGreatest hF,?_⟩
  conv=>whnf
  refine ⟨_,r0,?_⟩
  conv=>whnf
  refine ⟨_,cRCmp (K:=130) s2 ((SmQ.int (K:=124) (by decide) (by omega)).mono (by decide)) (by decide),?_⟩
  conv=>whnf
  rw [cmp_int]
  by_cases ht:((topN E P:Nat):Int)<bt E P 3 q+z
  ·rw [dT ht];rw [if_pos ht] at hR
   conv=>whnf
   rw [hR]
   rfl
  ·rw [dF ht];rw [if_neg ht] at hR
   conv=>whnf
   refine ⟨_,cRRanked hF (by omega),?_⟩
   conv=>whnf
   rw [hR]
   rfl
theorem cRStepAt (hF:Fmt E P) (sx:SmQ 8000 q):Cal Tryz.prog OQ 51 [fA E P,rA q] (.t [rA (stpR E P q).1,iA (stpR E P q).2]):=by
 refine fn_call TK MX Tryz.func51 rfl (by kernel_rfl) (by kernel_rfl) (by kernel_rfl) rfl rfl ?_;obtain ⟨R,hR⟩:∃ R,R=stpR E P q:=⟨_,rfl⟩;rw [←hR];unfold stpR at hR
 conv=>whnf
 refine ⟨_,cRCheck,?_⟩;rw [show fmtZ E P=0 from if_pos hF]
 conv=>whnf
 refine ⟨_,cRBeyond hF sx (by decide),?_⟩
 conv=>whnf
 by_cases hg:grQ P (bias E)<absQ q
 ·rw [dT hg];rw [if_pos hg] at hR
  conv=>whnf
  rw [hR]
  rfl
 ·rw [dF hg];rw [if_neg hg] at hR
  conv=>whnf
  refine ⟨_,cRStep hF sx (by decide),?_⟩
  conv=>whnf
  rw [hR]
  rfl
end
section
variable {E P:Int} {q r:Rat} {z:Int} {n:Nat}
theorem cCountBad (hF:¬ Fmt E P):Cal Tryz.prog OQ 46 [fA E P,nA q,nA r] (.t [iA 0,iA 2]):=by
 refine fn_callB [(4,[(0,8),(1,5),(3,8),(4,4),(10,10)]),(5,[(0,10)]),(7,[(0,10)])] TK MX Tryz.func46 rfl (by kernel_rfl) (by kernel_rfl) (by kernel_rfl) rfl rfl ?_
 conv=>whnf
 refine ⟨_,cWithBad (M:=0) (a:=.c (.v (.slice none 0 0))) rfl (fun h=>hF h.2),?_⟩
 conv=>whnf
 rfl
theorem cRCountBad (hF:¬ Fmt E P):Cal Tryz.prog OQ 47 [fA E P,rA q,rA r] (.t [iA 0,iA 2]):=by
 refine fn_callB [(3,[(0,3),(1,5),(3,3),(4,4),(10,8)]),(4,[(0,8)])] TK MX Tryz.func47 rfl (by kernel_rfl) (by kernel_rfl) (by kernel_rfl) rfl rfl ?_
 conv=>whnf
 refine ⟨_,cRCheck,?_⟩;rw [show fmtZ E P=2 from if_neg hF]
 conv=>whnf
 rfl
theorem cNthBad (hF:¬ Fmt E P):Cal Tryz.prog OQ 48 [fA E P,nA q,iA z] (.t [wA 0,iA 2]):=by
 refine fn_callB [(7,[(0,10),(1,8),(2,8)])] TK MX Tryz.func48 rfl (by kernel_rfl) (by kernel_rfl) (by kernel_rfl) rfl rfl ?_
 conv=>whnf
 refine ⟨_,cWithBad (M:=0) (a:=.c (.v (.slice none 0 0))) rfl (fun h=>hF h.2),?_⟩
 conv=>whnf
 rfl
theorem cRNthBad (hF:¬ Fmt E P):Cal Tryz.prog OQ 49 [fA E P,rA q,iA z] (.t [wA 0,iA 2]):=by
 refine fn_callB [(6,[(0,8),(1,3),(2,3)])] TK MX Tryz.func49 rfl (by kernel_rfl) (by kernel_rfl) (by kernel_rfl) rfl rfl ?_
 conv=>whnf
 refine ⟨_,cRCheck,?_⟩;rw [show fmtZ E P=2 from if_neg hF]
 conv=>whnf
 rfl
theorem cStepBad (hF:¬ Fmt E P):Cal Tryz.prog OQ 50 [fA E P,nA q] (.t [nA 0,iA 2]):=by
 refine fn_callB [(4,[(0,3),(2,6)]),(8,[(0,6),(1,3),(5,4)])] TK MX Tryz.func50 rfl (by kernel_rfl) (by kernel_rfl) (by kernel_rfl) rfl rfl ?_
 conv=>whnf
 refine ⟨_,cWithBad (M:=0) (a:=.c (.v (.slice none 0 0))) rfl (fun h=>hF h.2),?_⟩
 conv=>whnf
 rfl
theorem cRStepBad (hF:¬ Fmt E P):Cal Tryz.prog OQ 51 [fA E P,rA q] (.t [rA 0,iA 2]):=by
 refine fn_call TK MX Tryz.func51 rfl (by kernel_rfl) (by kernel_rfl) (by kernel_rfl) rfl rfl ?_
 conv=>whnf
 refine ⟨_,cRCheck,?_⟩;rw [show fmtZ E P=2 from if_neg hF]
 conv=>whnf
 rfl
theorem cHasBad (hF:¬ Fmt E P):Cal Tryz.prog OQ 18 [fA E P,nA q] (bA false):=by
 refine fn_call TK MX Tryz.func18 rfl (by kernel_rfl) (by kernel_rfl) (by kernel_rfl) rfl rfl ?_
 conv=>whnf
 refine ⟨_,cWithBad (M:=0) (a:=.c (.v (.slice none 0 0))) rfl (fun h=>hF h.2),?_⟩
 conv=>whnf
 rfl
theorem cRHasBad (hF:¬ Fmt E P):Cal Tryz.prog OQ 52 [fA E P,rA q] (bA false):=by
 refine fn_call TK MX Tryz.func52 rfl (by kernel_rfl) (by kernel_rfl) (by kernel_rfl) rfl rfl ?_
 conv=>whnf
 refine ⟨_,cRCheck,?_⟩;rw [show fmtZ E P=2 from if_neg hF]
 conv=>whnf
 rfl
end
section
variable {E P:Nat} {q r:Rat} {z:Int} {n:Nat}
theorem cGreatF (hF:Fmt E P):Cal Tryz.prog OQ 21 [fA E P] (.t [nA (grQ P (bias E)),iA 0]):=by
 refine fn_call TK MX Tryz.func21 rfl (by kernel_rfl) (by kernel_rfl) (by kernel_rfl) rfl rfl ?_
 conv=>whnf
 refine ⟨_,cWith0 (m:=0) hF (by decide),?_⟩
 conv=>whnf
 refine ⟨_,cGreatM hF (fmt_n hF).2.2.2.2.2,?_⟩
 conv=>whnf
 rfl
theorem cLeastFF (hF:Fmt E P):Cal Tryz.prog OQ 53 [fA E P] (.t [nA ((2:Rat)^(2-(bias E:Int)-P)),iA 0]):=by
 have p:=fmt_n hF;refine fn_call TK MX Tryz.func53 rfl (by kernel_rfl) (by kernel_rfl) (by kernel_rfl) rfl rfl ?_
 conv=>whnf
 refine ⟨_,cWith0 (m:=0) hF (by decide),?_⟩
 conv=>whnf
 refine ⟨_,cLeastF (by omega) (by omega),?_⟩
 conv=>whnf
 refine ⟨_,cTwoF (by omega) (by omega),?_⟩
 conv=>whnf
 rfl
theorem cNormalFF (hF:Fmt E P):Cal Tryz.prog OQ 22 [fA E P] (.t [nA ((2:Rat)^(1-(bias E:Int))),iA 0]):=by
 have p:=fmt_n hF;refine fn_call TK MX Tryz.func22 rfl (by kernel_rfl) (by kernel_rfl) (by kernel_rfl) rfl rfl ?_
 conv=>whnf
 refine ⟨_,cWith0 (m:=0) hF (by decide),?_⟩
 conv=>whnf
 refine ⟨_,cNormalF (by omega),?_⟩
 conv=>whnf
 refine ⟨_,cTwoF (by omega) (by omega),?_⟩
 conv=>whnf
 rfl
end
section
variable {E P:Int}
theorem cGreatBad (hF:¬ Fmt E P):Cal Tryz.prog OQ 21 [fA E P] (.t [nA 0,iA 2]):=by
 refine fn_call TK MX Tryz.func21 rfl (by kernel_rfl) (by kernel_rfl) (by kernel_rfl) rfl rfl ?_
 conv=>whnf
 refine ⟨_,cWithBad (M:=0) (a:=.c (.v (.slice none 0 0))) rfl (fun h=>hF h.2),?_⟩
 conv=>whnf
 rfl
theorem cLeastBad (hF:¬ Fmt E P):Cal Tryz.prog OQ 53 [fA E P] (.t [nA 0,iA 2]):=by
 refine fn_call TK MX Tryz.func53 rfl (by kernel_rfl) (by kernel_rfl) (by kernel_rfl) rfl rfl ?_
 conv=>whnf
 refine ⟨_,cWithBad (M:=0) (a:=.c (.v (.slice none 0 0))) rfl (fun h=>hF h.2),?_⟩
 conv=>whnf
 rfl
theorem cNormalBad (hF:¬ Fmt E P):Cal Tryz.prog OQ 22 [fA E P] (.t [nA 0,iA 2]):=by
 refine fn_call TK MX Tryz.func22 rfl (by kernel_rfl) (by kernel_rfl) (by kernel_rfl) rfl rfl ?_
 conv=>whnf
 refine ⟨_,cWithBad (M:=0) (a:=.c (.v (.slice none 0 0))) rfl (fun h=>hF h.2),?_⟩
 conv=>whnf
 rfl
theorem stp_sm {E P:Nat} {q:Rat} (hF:Fmt E P) (sx:SmQ 8000 q):SmQ 20000 (stpR E P q).1:=by
 unfold stpR
 split
 ·exact SmQ.zero _ (by decide)
 ·exact (p2_sm (stE_sm hF sx (by decide))).mono (by decide)
theorem wd_ne (n:Nat):(!((((n/18446744073709551616:Nat):Int)==((n/18446744073709551616:Nat):Int))&&((((n%18446744073709551616:Nat):Int)==((n%18446744073709551616:Nat):Int))&&true)))=false:=by simp
theorem cCounts {M:Int} {S T:List UInt8} {z:Int} (hS:S.length≤9223372036854775807) (hT:T.length≤9223372036854775807) (h0 : -9223372036854775808≤z) (h1:z<9223372036854775808) :
  Cal Tryz.prog OQ 8 ([.m [.int .i64 E,.int .i64 P,.int .i64 M,.string (ba S),.string (ba T)],.s (.int .i64 z)].map Arg.av) (bA true):=by
 have hr:=cRead hS;have hr':=cRead hT;have sx:=parse_sm S;have sy:=parse_sm T;generalize (parseV S).1=q at *
 generalize (parseV T).1=r at *
 generalize okP S=ok at *
 generalize okP T=ok' at *
 refine fn_callB [(11,[(9,15),(10,17),(19,19),(20,21),(31,2),(32,5),(35,2),(36,6)]),(21,[(0,23),(2,2),(6,24),(8,2),(13,25),(15,2)])] TK MX Tryz.func8 rfl (by kernel_rfl) (by kernel_rfl) (by kernel_rfl) rfl rfl ?_
 conv=>whnf
 refine ⟨_,hr,?_⟩
 conv=>whnf
 refine ⟨_,hr',?_⟩
 conv=>whnf
 cases ok
 ·conv=>whnf
  refine ⟨_,cAwakeE,?_⟩
  conv=>whnf
  rfl
 conv=>whnf
 cases ok'
 ·conv=>whnf
  refine ⟨_,cAwakeE,?_⟩
  conv=>whnf
  rfl
 by_cases hf:Fmt E P
 ·obtain ⟨e,p,m,rfl,rfl,_,_,hF⟩:=fmt_cases (M:=0) ⟨by omega,hf⟩;have hb:=fmt_n hF;have ss:=stp_sm (q:=q) hF sx
  conv=>whnf
  refine ⟨_,cCountF hF sx sy,?_⟩
  conv=>whnf
  refine ⟨_,cRCountF hF sx sy,?_⟩
  conv=>whnf
  refine ⟨_,cNthF hF sx h0 h1,?_⟩
  conv=>whnf
  refine ⟨_,cRNthF hF sx h0 h1,?_⟩
  conv=>whnf
  refine ⟨_,cStepF hF sx,?_⟩
  conv=>whnf
  refine ⟨_,cRStepAt hF sx,?_⟩
  conv=>whnf
  rw [bne_t]
  conv=>whnf
  rw [bne_t]
  conv=>whnf
  rw [wd_ne]
  conv=>whnf
  rw [bne_t]
  conv=>whnf
  refine ⟨_,cSame ss (by decide),?_⟩
  conv=>whnf
  rw [bne_t]
  conv=>whnf
  refine ⟨_,cHasF hF sx (by decide),?_⟩
  conv=>whnf
  refine ⟨_,cRHas hF sx (by decide),?_⟩
  conv=>whnf
  rw [bool_ne]
  conv=>whnf
  refine ⟨_,cGreatF hF,?_⟩
  conv=>whnf
  refine ⟨_,cLeastFF hF,?_⟩
  conv=>whnf
  refine ⟨_,cNormalFF hF,?_⟩
  conv=>whnf
  refine ⟨_,cRCheck,?_⟩;rw [show fmtZ (e:Int) (p:Int)=0 from if_pos hF]
  conv=>whnf
  refine ⟨_,cRGreatest hF,?_⟩
  conv=>whnf
  refine ⟨_,cSame (grQ_sm ⟨by omega,by omega⟩ (by omega)) (by decide),?_⟩
  conv=>whnf
  refine ⟨_,cRLeast hF,?_⟩
  conv=>whnf
  refine ⟨_,cSame (p2_sm (L:=2000) (by omega)) (by decide),?_⟩
  conv=>whnf
  refine ⟨_,cRNormal hF,?_⟩
  conv=>whnf
  refine ⟨_,cSame (p2_sm (L:=2000) (by omega)) (by decide),?_⟩
  conv=>whnf
  refine ⟨_,cAwakeE,?_⟩
  conv=>whnf
  rfl
 ·conv=>whnf
  refine ⟨_,cCountBad hf,?_⟩
  conv=>whnf
  refine ⟨_,cRCountBad hf,?_⟩
  conv=>whnf
  refine ⟨_,cNthBad hf,?_⟩
  conv=>whnf
  refine ⟨_,cRNthBad hf,?_⟩
  conv=>whnf
  refine ⟨_,cStepBad hf,?_⟩
  conv=>whnf
  refine ⟨_,cRStepBad hf,?_⟩
  conv=>whnf
  refine ⟨_,cSame (SmQ.zero 10 (by decide)) (by decide),?_⟩
  conv=>whnf
  refine ⟨_,cHasBad hf,?_⟩
  conv=>whnf
  refine ⟨_,cRHasBad hf,?_⟩
  conv=>whnf
  refine ⟨_,cGreatBad hf,?_⟩
  conv=>whnf
  refine ⟨_,cLeastBad hf,?_⟩
  conv=>whnf
  refine ⟨_,cNormalBad hf,?_⟩
  conv=>whnf
  refine ⟨_,cRCheck,?_⟩;rw [show fmtZ E P=2 from if_neg hf]
  conv=>whnf
  refine ⟨_,cSign,?_⟩
  conv=>whnf
  refine ⟨_,cSign,?_⟩
  conv=>whnf
  refine ⟨_,cSign,?_⟩
  conv=>whnf
  refine ⟨_,cAwakeE,?_⟩
  conv=>whnf
  rfl
end
end Go.Proofs.YtgabigepocfllaaGreatDoor
