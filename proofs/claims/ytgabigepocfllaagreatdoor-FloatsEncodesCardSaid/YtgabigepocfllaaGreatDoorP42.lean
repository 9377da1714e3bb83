/- floats: the operations of whatever format, mode and words; the law's helpers. -/
import Derived.Test.YtgabigepocfllaaGreatDoorP38
import Derived.Test.YtgabigepocfllaaGreatDoorP41
namespace Go.Proofs.YtgabigepocfllaaGreatDoor
open Go.RowKit Vn
set_option maxRecDepth 100000
set_option maxHeartbeats 8000000
abbrev z3 (r:Nat×Int×Int):AV:=.t [wA r.1,iA r.2.1,iA r.2.2]
def opZ (E P M:Int) (i j:Nat) (R:Nat→Nat→Nat→Nat×Nat):Nat×Int×Int :=
 if ¬ ((0≤M∧M≤4)∧Fmt E P) then (0,0,2) else if ¬ (i<2^(E+P).toNat∧j<2^(E+P).toNat) then (0,0,6)
 else ((opnR E.toNat P.toNat i j (R E.toNat P.toNat M.toNat)).1,((opnR E.toNat P.toNat i j (R E.toNat P.toNat M.toNat)).2:Nat),0)
theorem opZ_good {E P m i j:Nat} {R:Nat→Nat→Nat→Nat×Nat} (hF:Fmt E P) (hm:m≤4) (hi:i<2^(E+P)) (hj:j<2^(E+P)) :
  opZ E P m i j R=((opnR E P i j (R E P m)).1,(((opnR E P i j (R E P m)).2:Nat):Int),0):=by
 have e:((E:Int)+P).toNat=E+P:=by omega
 unfold opZ;rw [if_neg (fun h=>h ⟨⟨by omega,by omega⟩,hF⟩),e,if_neg (fun h=>h ⟨hi,hj⟩)]
 simp
theorem fmt_cases {E P M:Int} (h:(0≤M∧M≤4)∧Fmt E P):∃ e p m:Nat,E=e∧P=p∧M=m∧m≤4∧Fmt (e:Int) (p:Int):=by
 have hF:=h.2;obtain ⟨h1,h2,h3,h4,h5⟩:=hF
 exact ⟨E.toNat,P.toNat,M.toNat,by omega,by omega,by omega,by omega,by rw [show ((E.toNat:Nat):Int)=E by omega,show ((P.toNat:Nat):Int)=P by omega];exact h.2⟩
theorem cOpZ {f:FuncId} {E P M:Int} {i j:Nat} {R:Nat→Nat→Nat→Nat×Nat} (h1:W128 i) (h2:W128 j)
  (hf:∀ E P m:Nat,Fmt E P→m≤4→i<2^(E+P)→j<2^(E+P)→¬ 4≤kd E P i→¬ 4≤kd E P j→Cal Tryz.prog OQ f [mA E P m (bias E:Nat),oA (kd E P i) (wn E P i) (vl E P i),oA (kd E P j) (wn E P j) (vl E P j)] (resA (R E P m))) :
  Cal Tryz.prog OQ 143 [fA E P,iA M,wA i,wA j,fnA f] (z3 (opZ E P M i j R)):=by
 by_cases h:(0≤M∧M≤4)∧Fmt E P
 ·obtain ⟨e,p,m,rfl,rfl,rfl,hm,hF⟩:=fmt_cases h
  by_cases hw:i<2^(e+p)∧j<2^(e+p)
  ·rw [opZ_good hF hm hw.1 hw.2]
   exact cOperate hF hm hw.1 hw.2 (hf e p m hF hm hw.1 hw.2)
  ·have:opZ e p m i j R=(0,0,6):=by
    have e':((e:Int)+p).toNat=e+p:=by omega
    unfold opZ;rw [if_neg (fun k=>k h),e',if_pos hw]
   rw [this]
   exact cOperateForm hF hm h1 h2 hw
 ·rw [show opZ E P M i j R=_ from if_pos h]
  exact cOperateBad h
section
variable {E P M:Int} {i j:Nat}
def addZ (E P M:Int) (i j:Nat):=opZ E P M i j fun e p m=>sumR e p m (kd e p i) (wn e p i) (vl e p i) (kd e p j) (wn e p j) (vl e p j)
theorem cAddZ (h1:W128 i) (h2:W128 j):Cal Tryz.prog OQ 57 [fA E P,iA M,wA i,wA j] (z3 (addZ E P M i j)):=by
 refine fn_call TK MX Tryz.func57 rfl (by kernel_rfl) (by kernel_rfl) (by kernel_rfl) rfl rfl ?_
 conv=>whnf
 refine ⟨_,cOpZ h1 h2 fun E P m hF hm hi hj _ _=>cAddM hF hm (sm_word hF) (sm_word hF) (by decide),?_⟩
 conv=>whnf
 rfl
end
theorem cDecode {E P n:Nat} (hF:Fmt E P) (hn:n<2^(E+P)):Cal Tryz.prog OQ 26 [fA E P,wA n] (.t [.g [.v (.int .i64 (kd E P n)),.v (.bool (wn E P n)),.v (.string (numText (vl E P n)))],iA 0]):=by
 refine fn_call TK MX Tryz.func26 rfl (by kernel_rfl) (by kernel_rfl) (by kernel_rfl) rfl rfl ?_
 conv=>whnf
 refine ⟨_,cWith1 (m:=0) hF (by decide) (w128 hF hn),?_⟩;rw [if_pos hn]
 conv=>whnf
 refine ⟨_,cLook hF (fmt_n hF).2.2.2.2.2 (w128 hF hn),?_⟩
 conv=>whnf
 refine ⟨_,cText (sm_word hF) (by decide),?_⟩
 conv=>whnf
 rfl
theorem cSix:Cal Tryz.prog OQ 92 [] (fA 3 3):=by
 refine fn_call TK MX Tryz.func92 rfl (by kernel_rfl) (by kernel_rfl) (by kernel_rfl) rfl rfl ?_
 conv=>whnf
 rfl
theorem beq_t (a:Int):(a==a)=true:=by simp
def Arg.val:Arg→Value
 | .s v=>v
 | .m vs=>.agg vs.toArray
 | _=>.bool false
def Arg.plain:Arg→Bool
 | .s v=>v.oneCell'
 | .m vs=>vs.all (·.oneCell')
 | _=>false
theorem of_args {S:Nat→Prop} {w:World}:∀ {xs:List Arg},xs.all Arg.plain=true→All2 (RepW OQ (fun _=>none) S w) (xs.map Arg.val) (xs.map Arg.av)
 | [],_=>trivial
 | a :: xs,h=>by
  rw [List.all_cons,Bool.and_eq_true] at h;refine ⟨?_,of_args h.2⟩
  match a,h.1 with
  | .s v,h=>exact ⟨rfl,h⟩
  | .m vs,h=>exact ⟨vs,rfl,of_scs h⟩
theorem cal_lawA {f:FuncId} (xs:List Arg) (h:Cal Tryz.prog OQ f (xs.map Arg.av) (bA true)) (hk:xs.all Arg.plain=true) (w:World) (hw:WM w) (hT:Tabs w) :
  Calls Tryz.prog f (xs.map Arg.val).toArray w fun e w'=>e=.returned (.bool true)∧Ext w w' :=
 (h.run (fun _=>False) w (xs.map Arg.val) (fun _ h=>h.elim) ⟨hw,hT⟩ (of_args hk)).mono fun _ _ ⟨_,h1,h2,h3⟩=>by
  subst h1;exact ⟨congrArg _ (show _=Value.bool true from h3.1),h2⟩
theorem cmpQ_mono {a a' b:Rat} (h:a≤a'):cmpQ a b≤cmpQ a' b:=by
 unfold cmpQ
 by_cases h1:a<b
 ·rw [if_pos h1];repeat' split
  all_goals omega
 ·rw [if_neg h1,if_neg (by grind:¬ a'<b)]
  by_cases h2:b<a
  ·rw [if_pos h2,if_pos (by grind)];omega
  ·rw [if_neg h2];split<;>omega
theorem upB_mono {m:Nat} {o:Bool} {c c':Int} (h:c≤c') (hu:upB m o c=true):upB m o c'=true:=by
 unfold upB at hu ⊢
 by_cases h0:m=0
 ·rw [if_pos h0] at hu ⊢
  by_cases h1:c=0
  ·rw [if_pos h1] at hu
   split
   ·exact hu
   ·exact decide_eq_true (by omega)
  ·rw [if_neg h1] at hu
   have:=of_decide_eq_true hu
   rw [if_neg (by omega)];exact decide_eq_true (by omega)
 ·rw [if_neg h0] at hu ⊢
  by_cases h1:m=1
  ·rw [if_pos h1] at hu ⊢
   have:=of_decide_eq_true hu
   exact decide_eq_true (by omega)
  ·rw [if_neg h1] at hu ⊢;exact hu
def stN (m n:Nat) (t:Rat):Nat:=endN m false n (decide (t.den=1)) (cmpQ ((t-(n:Nat))*2) 1)
theorem stN_le (m n:Nat) (t:Rat):n≤stN m n t∧stN m n t≤n+1:=by
 unfold stN endN;split
 ·omega
 ·split<;>omega
theorem endN_st (m:Nat) (neg:Bool) (n:Nat) (t:Rat):endN m neg n (decide (t.den=1)) (cmpQ ((t-(n:Nat))*2) 1)=stN (modeN m neg) n t:=by
 unfold stN endN;rw [show modeN (modeN m neg) false=modeN m neg from rfl]
theorem stN_mono {m n n':Nat} {t t':Rat} (h1:((n:Nat):Rat)≤t) (_h2:t<((n:Nat):Rat)+1) (h1':((n':Nat):Rat)≤t') (h2':t'<((n':Nat):Rat)+1) (h:t≤t'):stN m n t≤stN m n' t':=by
 have hn:n≤n':=by
  have h3:((n:Nat):Rat)<((n'+1:Nat):Rat):=by rw [Rat.natCast_add];show _<((n':Nat):Rat)+1;grind
  rw [Rat.natCast_lt_natCast] at h3;omega
 have a:=stN_le m n t;have b:=stN_le m n' t'
 rcases Nat.lt_or_eq_of_le hn with h3 | h3
 ·omega
 ·subst h3
  by_cases hd:t.den=1
  ·have:stN m n t=n:=by unfold stN endN;rw [if_pos (decide_eq_true hd)]
   omega
  ·by_cases hd':t'.den=1
   ·exfalso
    have hf:t'.floor=(n:Int):=by
     have a:(n:Int)≤t'.floor:=by rw [Rat.le_floor_iff];exact h1'
     have b:t'.floor<(n:Int)+1:=by rw [Rat.floor_lt_iff];rw [Rat.intCast_add];exact h2'
     omega
    have e:=den_one hd';rw [hf] at e;have e:((n:Nat):Rat)=t':=e
    have:t=((n:Nat):Rat):=by grind
    exact hd (by rw [this];rfl)
   ·unfold stN endN;rw [if_neg (show ¬ decide (t.den=1)=true by rw [decide_eq_false hd];decide),if_neg (show ¬ decide (t'.den=1)=true by rw [decide_eq_false hd'];decide)];have hc:cmpQ ((t-(n:Nat))*2) 1≤cmpQ ((t'-(n:Nat))*2) 1:=cmpQ_mono (by grind)
    split
    ·rename_i hu
     rw [if_pos (upB_mono hc hu)];exact Nat.le_refl _
    ·split<;>omega
def szR (P b m:Nat) (q:Rat) (l:Int):Rat:=((stN m (rdN P b l q) (rdT P b l q):Nat):Rat)*(2:Rat)^(rdK P b l)
theorem szR_nonneg (P b m:Nat) (q:Rat) (l:Int):0≤szR P b m q l:=steps_nonneg _ _
theorem szR_mono {P b m:Nat} {q r:Rat} {l k:Int} (hP:1≤P) (hl:IsLog (absQ q) l) (hk:IsLog (absQ r) k) (h:absQ q≤absQ r):szR P b m q l≤szR P b m r k:=by
 have hlk:l≤k:=by
  have:(2:Rat)^l<(2:Rat)^(k+1):=lelt (Rat.le_trans hl.1 h) hk.2
  rw [p2_lt_iff] at this;omega
 have hF:rdF b l≤rdF b k:=by unfold rdF;omega
 rcases Nat.lt_or_eq_of_le hF with hf | hf
 ·have h1:=rdN_lt (P:=P) (b:=b) hl;have h2:=(stN_le m (rdN P b l q) (rdT P b l q)).2;have h3:=(rdN_ge (b:=b) hP hk);have h4:=(stN_le m (rdN P b k r) (rdT P b k r)).1;have h5:2^(P-1)≤stN m (rdN P b k r) (rdT P b k r):=by rcases h3 with h3 | h3;omega;exact Nat.le_trans h3 h4
  unfold szR;have a1:((stN m (rdN P b l q) (rdT P b l q):Nat):Rat)*(2:Rat)^(rdK P b l)≤(2:Rat)^((P:Int)+rdK P b l):=by
   rw [p2_add,p2_nat]
   exact Rat.mul_le_mul_of_nonneg_right (by rw [Rat.natCast_le_natCast];omega) (Rat.le_of_lt (p2_pos _))
  have a2:(2:Rat)^(((P-1:Nat):Int)+rdK P b k)≤((stN m (rdN P b k r) (rdT P b k r):Nat):Rat)*(2:Rat)^(rdK P b k):=by
   rw [p2_add,p2_nat]
   exact Rat.mul_le_mul_of_nonneg_right (by rw [Rat.natCast_le_natCast];exact h5) (Rat.le_of_lt (p2_pos _))
  have a3:(2:Rat)^((P:Int)+rdK P b l)≤(2:Rat)^(((P-1:Nat):Int)+rdK P b k):=p2_mono (by unfold rdK;omega)
  exact Rat.le_trans a1 (Rat.le_trans a3 a2)
 ·have hK:rdK P b l=rdK P b k:=by unfold rdK;rw [hf]
  have ht:rdT P b l q≤rdT P b k r:=by
   unfold rdT;rw [hK]
   exact Rat.mul_le_mul_of_nonneg_right h (Rat.le_of_lt (p2_pos _))
  have f1:=floor_le_rd P b l q;have f2:=floor_le_rd P b k r
  have:=stN_mono (m:=m) f1.1 f1.2 f2.1 f2.2 ht
  unfold szR;rw [hK]
  exact Rat.mul_le_mul_of_nonneg_right (by rw [Rat.natCast_le_natCast];exact this) (Rat.le_of_lt (p2_pos _))
def vR (P b m:Nat) (q:Rat) (l:Int):Rat:=if szR P b m q l≤grQ P b then szR P b m q l else if m=2∨m=4 then grQ P b else (2:Rat)^((b:Int)+1)
theorem vR_nonneg (P b m:Nat) (q:Rat) (l:Int):0≤vR P b m q l:=by
 unfold vR;split
 ·exact szR_nonneg _ _ _ _ _
 ·split
  ·exact grQ_nonneg _ _
  ·exact Rat.le_of_lt (p2_pos _)
theorem vR_mono {P b m:Nat} {q r:Rat} {l k:Int} (hP:1≤P) (hl:IsLog (absQ q) l) (hk:IsLog (absQ r) k) (h:absQ q≤absQ r):vR P b m q l≤vR P b m r k:=by
 have h1:=szR_mono (b:=b) (m:=m) hP hl hk h;have h2:=Rat.le_of_lt (grQ_lt P b);unfold vR
 by_cases c:szR P b m r k≤grQ P b
 ·rw [if_pos c,if_pos (Rat.le_trans h1 c)];exact h1
 ·rw [if_neg c]
  by_cases d:szR P b m q l≤grQ P b
  ·rw [if_pos d];split
   ·exact d
   ·exact Rat.le_trans d h2
  ·rw [if_neg d];exact Rat.le_refl
theorem inf_wn {E P:Nat} (hP:1≤P) (s:Bool):wn E P (infw E P s)=s:=by
 have e:infw E P s=wordN E P s 0 (2^E-1):=by unfold infw wordN;rw [Nat.zero_add]
 rw [e]
 exact wordN_wn _ (by have:=infZ_lt (E:=E) hP;unfold infZ at this;omega)
theorem rq_wval {E P m:Nat} {q:Rat} (hE:2≤E) (hP:1≤P) (h0:q≠0) :
  wval E P (bias E) (rq E P m q).1=(if decide (q.num<0)=true then -1 else 1)*vR P (bias E) (modeN m (decide (q.num<0))) q (lgQ q):=by
 have hl:=lg_is h0;unfold rq rnd;rw [if_neg h0];have hN:=endN_le (P:=P) (b:=bias E) (m:=m) hl (decide (q.num<0)) (decide ((rdT P (bias E) (lgQ q) q).den=1)) (cmpQ ((rdT P (bias E) (lgQ q) q-(rdN P (bias E) (lgQ q) q:Nat))*2) 1);have hge:rdF (bias E) (lgQ q)=0∨2^(P-1)≤endN m (decide (q.num<0)) (rdN P (bias E) (lgQ q) q) (decide ((rdT P (bias E) (lgQ q) q).den=1)) (cmpQ ((rdT P (bias E) (lgQ q) q-(rdN P (bias E) (lgQ q) q:Nat))*2) 1):=by
  rcases rdN_ge (b:=bias E) hP hl with h | h
  ·exact .inl h
  ·exact .inr (Nat.le_trans h hN.2)
 have e:=endN_st m (decide (q.num<0)) (rdN P (bias E) (lgQ q) q) (rdT P (bias E) (lgQ q) q);have hk:rdK P (bias E) (lgQ q)=2-((bias E:Nat):Int)-P+(rdF (bias E) (lgQ q):Nat):=rfl;unfold vR
 by_cases c:szR P (bias E) (modeN m (decide (q.num<0))) q (lgQ q)≤grQ P (bias E)
 ·rw [if_pos c];have c':=c;unfold szR at c';rw [←e,hk] at c'
  have:=round_val (E:=E) (m:=m) (by omega) hP hl _ rfl (by rw [hk];exact c') (end_fits (by omega) hP hN.1 hge c')
  rw [this.1,e];rfl
 ·rw [if_neg c];have c':=c;unfold szR at c';rw [←e,hk] at c';unfold roundR endR;rw [if_neg c']
  by_cases d:modeN m (decide (q.num<0))=2∨modeN m (decide (q.num<0))=4
  ·rw [if_pos d,if_pos d];have hb:1≤bias E:=by
    have h4:=two_bias (E:=E) (by omega)
    have:2^2≤2^E:=Nat.pow_le_pow_right (by decide) hE
    omega
   have hp:2^P=2*2^(P-1):=by rw [←Nat.pow_succ'];congr 1;omega
   have hp1:0<2^(P-1):=Nat.pow_pos (by decide)
   show wval E P (bias E) (wordN E P _ (2^P-1) (2*bias E-1))=_
   rw [wordN_val hP _ (great_fits hE hP) (by omega) (.inr (by omega))];unfold grQ;rw [show 2-((bias E:Nat):Int)-P+((2*bias E-1:Nat):Int)=((bias E:Nat):Int)-P+1 by omega]
  ·rw [if_neg d,if_neg d]
   show wval E P (bias E) (infw E P _)=_
   rw [wval_inf hE hP (inf_kind hP _),inf_wn hP]
   split<;>grind
theorem rq_zero (E P m:Nat):rq E P m 0=(0,0):=by unfold rq rnd;rw [if_pos rfl]
theorem rq_mono {E P m:Nat} {q r:Rat} (hE:2≤E) (hP:1≤P) (h:q≤r):wval E P (bias E) (rq E P m q).1≤wval E P (bias E) (rq E P m r).1:=by
 have pos:∀ x:Rat,x≠0→¬ x<0→wval E P (bias E) (rq E P m x).1=vR P (bias E) (modeN m false) x (lgQ x):=by
  intro x h0 hx
  rw [rq_wval hE hP h0,decide_eq_false (fun k=>hx (num_neg_iff.1 k)),if_neg (by decide),Rat.one_mul]
 have neg:∀ x:Rat,x<0→wval E P (bias E) (rq E P m x).1 = -vR P (bias E) (modeN m true) x (lgQ x):=by
  intro x hx
  rw [rq_wval hE hP (by grind),decide_eq_true (num_neg_iff.2 hx),if_pos rfl];grind
 have zero:wval E P (bias E) (rq E P m 0).1=0:=by rw [rq_zero];exact wval_zero _ _ _
 by_cases hq:q<0
 ·rw [neg q hq];have a:=vR_nonneg P (bias E) (modeN m true) q (lgQ q)
  by_cases hr:r<0
  ·rw [neg r hr];have e1:absQ q = -q:=by rw [←absQ_neg,absQ_nonneg (by grind)]
   have e2:absQ r = -r:=by rw [←absQ_neg,absQ_nonneg (by grind)]
   have:=vR_mono (b:=bias E) (m:=modeN m true) hP (lg_is (show r≠0 by grind)) (lg_is (show q≠0 by grind)) (by rw [e1,e2];grind)
   grind
  ·by_cases h0:r=0
   ·rw [h0,zero];grind
   ·rw [pos r h0 hr];have b:=vR_nonneg P (bias E) (modeN m false) r (lgQ r)
    grind
 ·have hr:¬ r<0:=by grind
  by_cases h0:q=0
  ·rw [h0,zero]
   by_cases h1:r=0
   ·rw [h1,zero];exact Rat.le_refl
   ·rw [pos r h1 hr];exact vR_nonneg _ _ _ _ _
  ·have h1:r≠0:=by grind
   rw [pos q h0 hq,pos r h1 hr];refine vR_mono hP (lg_is h0) (lg_is h1) ?_;rw [absQ_nonneg (by grind),absQ_nonneg (by grind)];exact h
section
variable {E P m b:Nat} {q r:Rat} {K:Nat}
theorem cGreatM (hF:Fmt E P) (hb:b≤1023):Cal Tryz.prog OQ 101 [mA E P m b] (nA (grQ P b)) :=
 calA [.mc E P m b] (r:=.n _) (by kernel_rfl) rfl fun w vs _ hv=>by
  obtain ⟨x,rfl,rfl⟩:=one_arg hv;exact (greatest_c E P m b w ⟨(fmt_n hF).2.2.1,(fmt_n hF).2.2.2.1⟩ hb).mono fun _ _ ⟨v,h1,h2,h3⟩=>⟨v,h1,h2,h3⟩
theorem cRoundF (hF:Fmt E P) (hm:m≤4) (sx:SmQ K q) (hK:K≤12000):Cal Tryz.prog OQ 16 [fA E P,iA (m:Nat),nA q] (res3 (rq E P m q)):=by
 refine fn_call TK MX Tryz.func16 rfl (by kernel_rfl) (by kernel_rfl) (by kernel_rfl) rfl rfl ?_
 conv=>whnf
 refine ⟨_,cWith0 hF hm,?_⟩
 conv=>whnf
 refine ⟨_,cRoundQ hF hm sx hK,?_⟩
 conv=>whnf
 rfl
theorem cRoundBad {E P M:Int} (h:¬ ((0≤M∧M≤4)∧Fmt E P)):Cal Tryz.prog OQ 16 [fA E P,iA M,nA q] (.t [wA 0,iA 0,iA 2]):=by
 refine fn_call TK MX Tryz.func16 rfl (by kernel_rfl) (by kernel_rfl) (by kernel_rfl) rfl rfl ?_
 conv=>whnf
 refine ⟨_,cWithBad (a:=.c (.v (.slice none 0 0))) rfl h,?_⟩
 conv=>whnf
 rfl
def hasI (E P:Nat) (q:Rat):Bool:=decide ((q*(2:Rat)^(-(max (lgQ q) (1-(bias E:Int))-P+1))).den=1)
def hasB (E P:Nat) (q:Rat):Bool:=if q=0 then true else hasI E P q&&decide (cmpQ (absQ q) (grQ P (bias E))≤0)
theorem hasB_iff:hasB E P q=true↔IsVal P (bias E) q∧absQ q≤grQ P (bias E):=by
 unfold hasB
 by_cases h:q=0
 ·rw [if_pos h];subst h;refine ⟨fun _=>⟨IsVal.zero _ _,?_⟩,fun _=>rfl⟩;rw [absQ_nonneg Rat.le_refl];exact grQ_nonneg _ _
 ·rw [if_neg h,Bool.and_eq_true];unfold hasI;rw [decide_eq_true_iff,decide_eq_true_iff,isVal_iff_int (lg_is h),cmpQ_iff]
theorem signZ (q:Rat):(q.num.sign==0)=decide (q=0):=by
 rw [Bool.eq_iff_iff];simp [Int.sign_eq_zero_iff_zero,Rat.num_eq_zero]
end
section
variable {E P m:Nat} {q r:Rat}
theorem rq_eq (h0:q≠0):rq E P m q=endR E P (bias E) m (decide (q.num<0)) (rdN P (bias E) (lgQ q) q) (rdF (bias E) (lgQ q)) (decide ((rdT P (bias E) (lgQ q) q).den=1)) (cmpQ ((rdT P (bias E) (lgQ q) q-(rdN P (bias E) (lgQ q) q:Nat))*2) 1) (decide (lgQ q<1-((bias E:Nat):Int))):=by
 unfold rq rnd;rw [if_neg h0];rfl
theorem szR_eq (l:Int):szR P (bias E) (modeN m (decide (q.num<0))) q l=((endN m (decide (q.num<0)) (rdN P (bias E) l q) (decide ((rdT P (bias E) l q).den=1)) (cmpQ ((rdT P (bias E) l q-(rdN P (bias E) l q:Nat))*2) 1):Nat):Rat)*(2:Rat)^(2-((bias E:Nat):Int)-P+(rdF (bias E) l:Nat)):=by
 unfold szR;rw [endN_st];rfl
abbrev szQ (E P m:Nat) (q:Rat):Rat:=szR P (bias E) (modeN m (decide (q.num<0))) q (lgQ q)
theorem rq_fin (h0:q≠0) (h:szQ E P m q≤grQ P (bias E)):(rq E P m q).2=endF (decide ((rdT P (bias E) (lgQ q) q).den=1)) (decide (lgQ q<1-((bias E:Nat):Int))):=by
 rw [rq_eq h0];unfold endR;have h:=h;rw [szQ,szR_eq] at h;rw [if_pos h]
theorem rq_big (h0:q≠0) (h:¬ szQ E P m q≤grQ P (bias E)):(rq E P m q).2=20∧(¬ (modeN m (decide (q.num<0))=2∨modeN m (decide (q.num<0))=4)→(rq E P m q).1=infw E P (decide (q.num<0))):=by
 rw [rq_eq h0];unfold endR;rw [szQ,szR_eq] at h;rw [if_neg h]
 by_cases c:modeN m (decide (q.num<0))=2∨modeN m (decide (q.num<0))=4
 ·rw [if_pos c];exact ⟨rfl,fun k=>absurd c k⟩
 ·rw [if_neg c];exact ⟨rfl,fun _=>rfl⟩
theorem sgn_abs {x:Rat} (h:0≤x) (s:Bool):absQ ((if s=true then -1 else 1)*x)=x:=absQ_signed h s
theorem rq_kind (hE:2≤E) (hP:1≤P) (h:q=0∨szQ E P m q≤grQ P (bias E)∨modeN m (decide (q.num<0))=2∨modeN m (decide (q.num<0))=4):wkind E P (rq E P m q).1≤2:=by
 by_cases h0:q=0
 ·subst h0;rw [rq_zero];refine kind_of_le hE hP ?_;rw [wval_zero,absQ_nonneg Rat.le_refl];exact grQ_nonneg _ _
 ·refine kind_of_le hE hP ?_;rw [rq_wval hE hP h0,sgn_abs (vR_nonneg _ _ _ _ _)];unfold vR
  split
  ·assumption
  ·rename_i c
   rcases h with h | h | h
   ·exact absurd h h0
   ·exact absurd h c
   ·rw [if_pos h];exact Rat.le_refl
theorem rq_has (hE:2≤E) (hP:1≤P) (h:hasB E P q=true):(rq E P m q).2=0∧wkind E P (rq E P m q).1≤2∧wvalK E P (bias E) (rq E P m q).1=q:=by
 rw [hasB_iff] at h
 by_cases h0:q=0
 ·subst h0
  have:=rq_kind (m:=m) (q:=0) hE hP (.inl rfl)
  rw [rq_zero] at this ⊢
  exact ⟨rfl,this,by rw [wvalK_fin this,wval_zero]⟩
 ·have hv:=round_value (m:=m) (by omega) hP (lg_is h0) h.1 h.2;have e:rq E P m q=roundR E P (bias E) m q (lgQ q):=by unfold rq rnd;rw [if_neg h0]
  rw [e];have hk:wkind E P (roundR E P (bias E) m q (lgQ q)).1≤2:=kind_of_le hE hP (by rw [hv.2];exact h.2)
  exact ⟨hv.1,hk,by rw [wvalK_fin hk,hv.2]⟩
theorem below_log {b:Nat} (h0:q≠0):absQ q<(2:Rat)^(1-(b:Int))↔lgQ q<1-(b:Int):=by
 have hl:=lg_is h0
 constructor
 ·intro h
  have:(2:Rat)^lgQ q<(2:Rat)^(1-(b:Int)):=lelt hl.1 h
  rwa [p2_lt_iff] at this
 ·intro h
  exact ltle hl.2 (p2_mono (by omega))
theorem cmp_zero {a b:Rat} (h:cmpQ a b=0):a=b:=by
 unfold cmpQ at h
 by_cases h1:a<b
 ·rw [if_pos h1] at h;cases h
 ·rw [if_neg h1] at h
  by_cases h2:b<a
  ·rw [if_pos h2] at h;cases h
  ·grind
theorem sz_exact:(cmpQ q (sgnQ (decide (q.num<0))*szQ E P m q)==0)=decide ((rdT P (bias E) (lgQ q) q).den=1):=by
 have hs:sgnQ (decide (q.num<0))*absQ q=q:=absQ_sign q;have hp:=p2_pos (rdK P (bias E) (lgQ q));have hab:=absQ_back P (bias E) q (lgQ q);rw [Bool.eq_iff_iff,beq_iff_eq,decide_eq_true_iff]
 constructor
 ·intro h
  have h:=cmp_zero h;have e:absQ q=szQ E P m q:=by
   have h1:sgnQ (decide (q.num<0))*absQ q=sgnQ (decide (q.num<0))*szQ E P m q:=by rw [hs];exact h
   unfold sgnQ at h1
   split at h1<;>grind
  rw [hab] at e;unfold szQ szR at e;have e2:rdT P (bias E) (lgQ q) q=((stN (modeN m (decide (q.num<0))) (rdN P (bias E) (lgQ q) q) (rdT P (bias E) (lgQ q) q):Nat):Rat):=by
   have h0:(2:Rat)^(rdK P (bias E) (lgQ q))≠0:=by grind
   generalize (2:Rat)^(rdK P (bias E) (lgQ q))=s at *
   have h2:=congrArg (· * s⁻¹) e;simp only [Rat.mul_assoc,Rat.mul_inv_cancel s h0,Rat.mul_one] at h2
   exact h2
  rw [e2];rfl
 ·intro d
  have e:=den_one d;rw [rdN_floor] at e;have e:((rdN P (bias E) (lgQ q) q:Nat):Rat)=rdT P (bias E) (lgQ q) q:=e;have es:szQ E P m q=absQ q:=by
   rw [hab,←e];unfold szQ szR stN endN;rw [if_pos (decide_eq_true d)]
  rw [es,hs,cmpQ_self]
end
end Go.Proofs.YtgabigepocfllaaGreatDoor
