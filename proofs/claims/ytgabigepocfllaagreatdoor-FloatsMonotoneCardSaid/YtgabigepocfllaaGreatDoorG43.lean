/- The reference: the walked functions, in the words of reckoning. -/
import Derived.Test.YtgabigepocfllaaGreatDoorG37
import Derived.Test.YtgabigepocfllaaGreatDoorG42
namespace Go.Proofs.YtgabigepocfllaaGreatDoor
open Go.RowKit Vn
set_option maxRecDepth 100000
set_option maxHeartbeats 8000000
section
variable {S:Nat→Prop} {w:World}
end
section
variable {q r:Rat} {K:Nat}
theorem cRIsInt (sx:SmQ K q) (hK:K≤10000000):Cal Tryz.prog OQ 85 [rA q] (.c (.v (.bool (decide (q.den=1))))) :=
 calA [.r q] (r:=.s (.bool (decide (q.den=1)))) (by kernel_rfl) rfl fun w vs _ hv=>by
  obtain ⟨x,rfl,hx⟩:=one_arg hv;exact (risint_c x q K w hx sx (by omega)).mono fun _ _ ⟨h1,h2⟩=>⟨_,h1,rfl,h2⟩
end
section
variable {E P n:Nat} {neg:Bool} {q:Rat} {K:Nat}
end
theorem cmpQ_mono {a a' b:Rat} (h:a≤a'):cmpQ a b≤cmpQ a' b:=by
 unfold cmpQ
 by_cases h1:a<b
 ·rw [if_pos h1];repeat' split
  all_goals omega
 ·rw [if_neg h1,if_neg (by grind:¬ a'<b)]
  by_cases h2:b<a
  ·rw [if_pos h2,if_pos (by grind)];omega
  ·rw [if_neg h2];split<;>omega
theorem upB_mono {m:Nat} {o:Bool} {c c':Int} (h:c≤c') (hu:upB m o c=true):upB m o c'=true:=by
 unfold upB at hu ⊢
 by_cases h0:m=0
 ·rw [if_pos h0] at hu ⊢
  by_cases h1:c=0
  ·rw [if_pos h1] at hu
   split
   ·exact hu
   ·exact decide_eq_true (by omega)
  ·rw [if_neg h1] at hu
   have:=of_decide_eq_true hu
   rw [if_neg (by omega)];exact decide_eq_true (by omega)
 ·rw [if_neg h0] at hu ⊢
  by_cases h1:m=1
  ·rw [if_pos h1] at hu ⊢
   have:=of_decide_eq_true hu
   exact decide_eq_true (by omega)
  ·rw [if_neg h1] at hu ⊢;exact hu
def stN (m n:Nat) (t:Rat):Nat:=endN m false n (decide (t.den=1)) (cmpQ ((t-(n:Nat))*2) 1)
theorem stN_le (m n:Nat) (t:Rat):n≤stN m n t∧stN m n t≤n+1:=by
 unfold stN endN;split
 ·omega
 ·split<;>omega
theorem endN_st (m:Nat) (neg:Bool) (n:Nat) (t:Rat):endN m neg n (decide (t.den=1)) (cmpQ ((t-(n:Nat))*2) 1)=stN (modeN m neg) n t:=by
 unfold stN endN;rw [show modeN (modeN m neg) false=modeN m neg from rfl]
theorem stN_mono {m n n':Nat} {t t':Rat} (h1:((n:Nat):Rat)≤t) (_h2:t<((n:Nat):Rat)+1) (h1':((n':Nat):Rat)≤t') (h2':t'<((n':Nat):Rat)+1) (h:t≤t'):stN m n t≤stN m n' t':=by
 have hn:n≤n':=by
  have h3:((n:Nat):Rat)<((n'+1:Nat):Rat):=by rw [Rat.natCast_add];show _<((n':Nat):Rat)+1;grind
  rw [Rat.natCast_lt_natCast] at h3;omega
 have a:=stN_le m n t;have b:=stN_le m n' t'
 rcases Nat.lt_or_eq_of_le hn with h3 | h3
 ·omega
 ·subst h3
  by_cases hd:t.den=1
  ·have:stN m n t=n:=by unfold stN endN;rw [if_pos (decide_eq_true hd)]
   omega
  ·by_cases hd':t'.den=1
   ·exfalso
    have hf:t'.floor=(n:Int):=by
     have a:(n:Int)≤t'.floor:=by rw [Rat.le_floor_iff];exact h1'
     have b:t'.floor<(n:Int)+1:=by rw [Rat.floor_lt_iff];rw [Rat.intCast_add];exact h2'
     omega
    have e:=den_one hd';rw [hf] at e;have e:((n:Nat):Rat)=t':=e
    have:t=((n:Nat):Rat):=by grind
    exact hd (by rw [this];rfl)
   ·unfold stN endN;rw [if_neg (show ¬ decide (t.den=1)=true by rw [decide_eq_false hd];decide),if_neg (show ¬ decide (t'.den=1)=true by rw [decide_eq_false hd'];decide)];have hc:cmpQ ((t-(n:Nat))*2) 1≤cmpQ ((t'-(n:Nat))*2) 1:=cmpQ_mono (by grind)
    split
    ·rename_i hu
     rw [if_pos (upB_mono hc hu)];exact Nat.le_refl _
    ·split<;>omega
def szR (P b m:Nat) (q:Rat) (l:Int):Rat:=((stN m (rdN P b l q) (rdT P b l q):Nat):Rat)*(2:Rat)^(rdK P b l)
theorem szR_nonneg (P b m:Nat) (q:Rat) (l:Int):0≤szR P b m q l:=steps_nonneg _ _
theorem szR_mono {P b m:Nat} {q r:Rat} {l k:Int} (hP:1≤P) (hl:IsLog (absQ q) l) (hk:IsLog (absQ r) k) (h:absQ q≤absQ r):szR P b m q l≤szR P b m r k:=by
 have hlk:l≤k:=by
  have:(2:Rat)^l<(2:Rat)^(k+1):=lelt (Rat.le_trans hl.1 h) hk.2
  rw [p2_lt_iff] at this;omega
 have hF:rdF b l≤rdF b k:=by unfold rdF;omega
 rcases Nat.lt_or_eq_of_le hF with hf | hf
 ·have h1:=rdN_lt (P:=P) (b:=b) hl;have h2:=(stN_le m (rdN P b l q) (rdT P b l q)).2;have h3:=(rdN_ge (b:=b) hP hk);have h4:=(stN_le m (rdN P b k r) (rdT P b k r)).1;have h5:2^(P-1)≤stN m (rdN P b k r) (rdT P b k r):=by rcases h3 with h3 | h3;omega;exact Nat.le_trans h3 h4
  unfold szR;have a1:((stN m (rdN P b l q) (rdT P b l q):Nat):Rat)*(2:Rat)^(rdK P b l)≤(2:Rat)^((P:Int)+rdK P b l):=by
   rw [p2_add,p2_nat]
   exact Rat.mul_le_mul_of_nonneg_right (by rw [Rat.natCast_le_natCast];omega) (Rat.le_of_lt (p2_pos _))
  have a2:(2:Rat)^(((P-1:Nat):Int)+rdK P b k)≤((stN m (rdN P b k r) (rdT P b k r):Nat):Rat)*(2:Rat)^(rdK P b k):=by
   rw [p2_add,p2_nat]
   exact Rat.mul_le_mul_of_nonneg_right (by rw [Rat.natCast_le_natCast];exact h5) (Rat.le_of_lt (p2_pos _))
  have a3:(2:Rat)^((P:Int)+rdK P b l)≤(2:Rat)^(((P-1:Nat):Int)+rdK P b k):=p2_mono (by unfold rdK;omega)
  exact Rat.le_trans a1 (Rat.le_trans a3 a2)
 ·have hK:rdK P b l=rdK P b k:=by unfold rdK;rw [hf]
  have ht:rdT P b l q≤rdT P b k r:=by
   unfold rdT;rw [hK]
   exact Rat.mul_le_mul_of_nonneg_right h (Rat.le_of_lt (p2_pos _))
  have f1:=floor_le_rd P b l q;have f2:=floor_le_rd P b k r
  have:=stN_mono (m:=m) f1.1 f1.2 f2.1 f2.2 ht
  unfold szR;rw [hK]
  exact Rat.mul_le_mul_of_nonneg_right (by rw [Rat.natCast_le_natCast];exact this) (Rat.le_of_lt (p2_pos _))
def vR (P b m:Nat) (q:Rat) (l:Int):Rat:=if szR P b m q l≤grQ P b then szR P b m q l else if m=2∨m=4 then grQ P b else (2:Rat)^((b:Int)+1)
theorem vR_nonneg (P b m:Nat) (q:Rat) (l:Int):0≤vR P b m q l:=by
 unfold vR;split
 ·exact szR_nonneg _ _ _ _ _
 ·split
  ·exact grQ_nonneg _ _
  ·exact Rat.le_of_lt (p2_pos _)
theorem vR_mono {P b m:Nat} {q r:Rat} {l k:Int} (hP:1≤P) (hl:IsLog (absQ q) l) (hk:IsLog (absQ r) k) (h:absQ q≤absQ r):vR P b m q l≤vR P b m r k:=by
 have h1:=szR_mono (b:=b) (m:=m) hP hl hk h;have h2:=Rat.le_of_lt (grQ_lt P b);unfold vR
 by_cases c:szR P b m r k≤grQ P b
 ·rw [if_pos c,if_pos (Rat.le_trans h1 c)];exact h1
 ·rw [if_neg c]
  by_cases d:szR P b m q l≤grQ P b
  ·rw [if_pos d];split
   ·exact d
   ·exact Rat.le_trans d h2
  ·rw [if_neg d];exact Rat.le_refl
theorem inf_wn {E P:Nat} (hP:1≤P) (s:Bool):wn E P (infw E P s)=s:=by
 have e:infw E P s=wordN E P s 0 (2^E-1):=by unfold infw wordN;rw [Nat.zero_add]
 rw [e]
 exact wordN_wn _ (by have:=infZ_lt (E:=E) hP;unfold infZ at this;omega)
theorem rq_wval {E P m:Nat} {q:Rat} (hE:2≤E) (hP:1≤P) (h0:q≠0) :
  wval E P (bias E) (rq E P m q).1=(if decide (q.num<0)=true then -1 else 1)*vR P (bias E) (modeN m (decide (q.num<0))) q (lgQ q):=by
 have hl:=lg_is h0;unfold rq rnd;rw [if_neg h0];have hN:=endN_le (P:=P) (b:=bias E) (m:=m) hl (decide (q.num<0)) (decide ((rdT P (bias E) (lgQ q) q).den=1)) (cmpQ ((rdT P (bias E) (lgQ q) q-(rdN P (bias E) (lgQ q) q:Nat))*2) 1);have hge:rdF (bias E) (lgQ q)=0∨2^(P-1)≤endN m (decide (q.num<0)) (rdN P (bias E) (lgQ q) q) (decide ((rdT P (bias E) (lgQ q) q).den=1)) (cmpQ ((rdT P (bias E) (lgQ q) q-(rdN P (bias E) (lgQ q) q:Nat))*2) 1):=by
  rcases rdN_ge (b:=bias E) hP hl with h | h
  ·exact .inl h
  ·exact .inr (Nat.le_trans h hN.2)
 have e:=endN_st m (decide (q.num<0)) (rdN P (bias E) (lgQ q) q) (rdT P (bias E) (lgQ q) q);have hk:rdK P (bias E) (lgQ q)=2-((bias E:Nat):Int)-P+(rdF (bias E) (lgQ q):Nat):=rfl;unfold vR
 by_cases c:szR P (bias E) (modeN m (decide (q.num<0))) q (lgQ q)≤grQ P (bias E)
 ·rw [if_pos c];have c':=c;unfold szR at c';rw [←e,hk] at c'
  have:=round_val (E:=E) (m:=m) (by omega) hP hl _ rfl (by rw [hk];exact c') (end_fits (by omega) hP hN.1 hge c')
  rw [this.1,e];rfl
 ·rw [if_neg c];have c':=c;unfold szR at c';rw [←e,hk] at c';unfold roundR endR;rw [if_neg c']
  by_cases d:modeN m (decide (q.num<0))=2∨modeN m (decide (q.num<0))=4
  ·rw [if_pos d,if_pos d];have hb:1≤bias E:=by
    have h4:=two_bias (E:=E) (by omega)
    have:2^2≤2^E:=Nat.pow_le_pow_right (by decide) hE
    omega
   have hp:2^P=2*2^(P-1):=by rw [←Nat.pow_succ'];congr 1;omega
   have hp1:0<2^(P-1):=Nat.pow_pos (by decide)
   show wval E P (bias E) (wordN E P _ (2^P-1) (2*bias E-1))=_
   rw [wordN_val hP _ (great_fits hE hP) (by omega) (.inr (by omega))];unfold grQ;rw [show 2-((bias E:Nat):Int)-P+((2*bias E-1:Nat):Int)=((bias E:Nat):Int)-P+1 by omega]
  ·rw [if_neg d,if_neg d]
   show wval E P (bias E) (infw E P _)=_
   rw [wval_inf hE hP (inf_kind hP _),inf_wn hP]
   split<;>grind
theorem rq_zero (E P m:Nat):rq E P m 0=(0,0):=by unfold rq rnd;rw [if_pos rfl]
theorem rq_mono {E P m:Nat} {q r:Rat} (hE:2≤E) (hP:1≤P) (h:q≤r):wval E P (bias E) (rq E P m q).1≤wval E P (bias E) (rq E P m r).1:=by
 have pos:∀ x:Rat,x≠0→¬ x<0→wval E P (bias E) (rq E P m x).1=vR P (bias E) (modeN m false) x (lgQ x):=by
  intro x h0 hx
  rw [rq_wval hE hP h0,decide_eq_false (fun k=>hx (num_neg_iff.1 k)),if_neg (by decide),Rat.one_mul]
 have neg:∀ x:Rat,x<0→wval E P (bias E) (rq E P m x).1 = -vR P (bias E) (modeN m true) x (lgQ x):=by
  intro x hx
  rw [rq_wval hE hP (by grind),decide_eq_true (num_neg_iff.2 hx),if_pos rfl];grind
 have zero:wval E P (bias E) (rq E P m 0).1=0:=by rw [rq_zero];exact wval_zero _ _ _
 by_cases hq:q<0
 ·rw [neg q hq];have a:=vR_nonneg P (bias E) (modeN m true) q (lgQ q)
  by_cases hr:r<0
  ·rw [neg r hr];have e1:absQ q = -q:=by rw [←absQ_neg,absQ_nonneg (by grind)]
   have e2:absQ r = -r:=by rw [←absQ_neg,absQ_nonneg (by grind)]
   have:=vR_mono (b:=bias E) (m:=modeN m true) hP (lg_is (show r≠0 by grind)) (lg_is (show q≠0 by grind)) (by rw [e1,e2];grind)
   grind
  ·by_cases h0:r=0
   ·rw [h0,zero];grind
   ·rw [pos r h0 hr];have b:=vR_nonneg P (bias E) (modeN m false) r (lgQ r)
    grind
 ·have hr:¬ r<0:=by grind
  by_cases h0:q=0
  ·rw [h0,zero]
   by_cases h1:r=0
   ·rw [h1,zero];exact Rat.le_refl
   ·rw [pos r h1 hr];exact vR_nonneg _ _ _ _ _
  ·have h1:r≠0:=by grind
   rw [pos q h0 hq,pos r h1 hr];refine vR_mono hP (lg_is h0) (lg_is h1) ?_;rw [absQ_nonneg (by grind),absQ_nonneg (by grind)];exact h
end Go.Proofs.YtgabigepocfllaaGreatDoor
