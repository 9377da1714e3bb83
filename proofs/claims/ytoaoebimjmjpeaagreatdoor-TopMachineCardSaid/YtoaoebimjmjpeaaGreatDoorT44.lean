/- floats: add. -/
import Derived.Test.YtoaoebimjmjpeaaGreatDoorT43
import Derived.Test.YtoaoebimjmjpeaaGreatDoorT29
namespace Go.Proofs.YtoaoebimjmjpeaaGreatDoor
open Go.RowKit Vn
set_option maxRecDepth 100000
set_option maxHeartbeats 8000000

def valueR (E P n:Nat):Rat×Int:=if ¬ n<2^(E+P) then (0,6) else if 2<wkind E P n then (0,4) else (wvalK E P (bias E) n,0)
def rnd (E P b m:Nat) (q:Rat) (l:Int):Nat×Nat:=if q=0 then (0,0) else roundR E P b m q l
theorem pow_EP {E P:Nat} (hP:1≤P):2^(E+P-1)=2^(P-1)*2^E:=by rw [←Nat.pow_add];congr 1;omega
theorem wordN_eq {E P:Nat} (neg:Bool) {n f:Nat} (h:n+f*2^(P-1)<2^(E+P-1)):wordN E P neg n f=n+f*2^(P-1)+2^(E+P-1)*(if neg=true then 1 else 0):=by
 unfold wordN sgb;rw [Nat.or_comm]
 cases neg
 ·simp
 ·simp only [if_true]
  have:=or_add (b:=1) h
  rw [Nat.mul_one] at this;rw [this,Nat.mul_one]
theorem wordN_wf {E P:Nat} (hP:1≤P) (neg:Bool) {n f:Nat} (h:n+f*2^(P-1)<2^(E+P-1)):wf E P (wordN E P neg n f)=(n+f*2^(P-1))/2^(P-1):=by
 rw [wordN_eq neg h];unfold wf;have hp:0<2^(P-1):=Nat.pow_pos (by decide);have h2:(n+f*2^(P-1))/2^(P-1)<2^E:=by
  rw [Nat.div_lt_iff_lt_mul hp,Nat.mul_comm (2^E),←pow_EP hP];exact h
 rw [pow_EP hP,Nat.mul_assoc,Nat.add_mul_div_left _ _ hp,Nat.add_mul_mod_self_left,Nat.mod_eq_of_lt h2]
theorem wordN_wr {E P:Nat} (hP:1≤P) (neg:Bool) {n f:Nat} (h:n+f*2^(P-1)<2^(E+P-1)):wr P (wordN E P neg n f)=n%2^(P-1):=by
 rw [wordN_eq neg h];unfold wr;rw [pow_EP hP,Nat.mul_assoc,Nat.add_mul_mod_self_left,Nat.add_mul_mod_self_right]
theorem wordN_wn {E P:Nat} (neg:Bool) {n f:Nat} (h:n+f*2^(P-1)<2^(E+P-1)):wn E P (wordN E P neg n f)=neg:=by
 rw [wordN_eq neg h];unfold wn;have hp:0<2^(E+P-1):=Nat.pow_pos (by decide);rw [Nat.add_mul_div_left _ _ hp,Nat.div_eq_of_lt h]
 cases neg<;>simp
theorem wordN_val {E P b:Nat} (hP:1≤P) (neg:Bool) {n f:Nat} (h:n+f*2^(P-1)<2^(E+P-1)) (hn:n≤2^P) (hf:f=0∨2^(P-1)≤n) :
  wval E P b (wordN E P neg n f)=(if neg=true then -1 else 1)*(((n:Nat):Rat)*(2:Rat)^(2-(b:Int)-P+(f:Nat))):=by
 unfold wval wfr;rw [wordN_wn neg h,wordN_wf hP neg h,wordN_wr hP neg h];have hp:0<2^(P-1):=Nat.pow_pos (by decide);have hPP:2^P=2*2^(P-1):=by rw [←Nat.pow_succ'];congr 1;omega
 have hd:(n+f*2^(P-1))/2^(P-1)=n/2^(P-1)+f:=Nat.add_mul_div_right _ _ hp;rw [hd]
 congr 1
 rcases Nat.lt_or_ge n (2^(P-1)) with h1 | h1
 ·obtain rfl:f=0:=by omega
  rw [Nat.div_eq_of_lt h1,Nat.mod_eq_of_lt h1]
  simp
 ·rcases Nat.lt_or_ge n (2^P) with h2 | h2
  ·have e1:n/2^(P-1)=1:=by
    rw [Nat.div_eq_iff hp];omega
   have e2:n%2^(P-1)+2^(P-1)=n:=by
    have:=Nat.div_add_mod n (2^(P-1));rw [e1] at this;omega
   rw [e1,if_neg (by omega),e2]
   congr 2;omega
  ·have e0:n=2^(P-1)*2:=by omega
   have e1:n/2^(P-1)=2:=by rw [e0,Nat.mul_div_cancel_left _ hp]
   have e2:n%2^(P-1)=0:=by rw [e0,Nat.mul_mod_right]
   rw [e1,e2,if_neg (by omega),Nat.zero_add,e0,Rat.natCast_mul];have e3:(2-(b:Int)-P+((max (2+f) 1-1:Nat):Int))=2-(b:Int)-P+(f:Nat)+1:=by omega
   rw [e3,p2_succ]
   grind
def IsVal (P b:Nat) (q:Rat):Prop:=∃ (m:Nat) (j:Int),2-(b:Int)-P≤j∧m<2^P∧absQ q=(m:Rat)*(2:Rat)^j
theorem absQ_sign (q:Rat):(if decide (q.num<0)=true then -1 else 1)*absQ q=q:=by
 rw [absQ_eq]
 by_cases h:q.num<0
 ·rw [if_pos (decide_eq_true h),if_pos h];grind
 ·rw [if_neg (by rw [decide_eq_false h];decide),if_neg h];grind
theorem absQ_nonneg {x:Rat} (h:0≤x):absQ x=x:=by
 rw [absQ_eq,if_neg]
 intro h2
 have:=num_neg_iff.1 h2
 grind
theorem absQ_neg (x:Rat):absQ (-x)=absQ x:=by
 unfold absQ;rw [Rat.neg_num,Rat.neg_den,Int.natAbs_neg]
theorem absQ_signed {x:Rat} (h:0≤x) (s:Bool):absQ ((if s=true then -1 else 1)*x)=x:=by
 cases s
 ·rw [if_neg (by decide),Rat.one_mul];exact absQ_nonneg h
 ·rw [if_pos rfl,Rat.neg_mul,Rat.one_mul,absQ_neg];exact absQ_nonneg h
theorem steps_nonneg (n:Nat) (k:Int):0≤((n:Nat):Rat)*(2:Rat)^k:=by
 have h1:(0:Rat)≤((n:Nat):Rat):=by exact_mod_cast Nat.zero_le n
 exact Rat.mul_nonneg h1 (Rat.le_of_lt (p2_pos k))
theorem two_bias {E:Nat} (hE:1≤E):2^E=2*bias E+2:=by
 unfold bias;have h1:1≤2^(E-1):=Nat.pow_pos (by decide);have h2:2^E=2*2^(E-1):=by rw [←Nat.pow_succ'];congr 1;omega
 omega
theorem wfr_lt {E P n:Nat} (hP:1≤P):wfr E P n<2^P:=by
 have h1:wr P n<2^(P-1):=Nat.mod_lt _ (Nat.pow_pos (by decide));have h3:2^P=2*2^(P-1):=by rw [←Nat.pow_succ'];congr 1;omega
 unfold wfr;split<;>omega
theorem wval_abs (E P b n:Nat):absQ (wval E P b n)=((wfr E P n:Nat):Rat)*(2:Rat)^(2-(b:Int)-P+((max (wf E P n) 1-1:Nat):Int)):=by
 unfold wval;exact absQ_signed (steps_nonneg _ _) _
theorem rd_fits {E P n f:Nat} (hE:1≤E) (hP:1≤P) (hn:n<2^P) (hf:f=0∨2^(P-1)≤n) (hg:((n:Nat):Rat)*(2:Rat)^(2-(bias E:Int)-P+(f:Nat))≤grQ P (bias E)):n+f*2^(P-1)<2^(E+P-1):=by
 have hfb:f≤2*bias E:=by
  rcases hf with h | h
  ·omega
  ·exact f_bound hP h hg
 have h2:=two_bias hE;have h3:2^P=2*2^(P-1):=by rw [←Nat.pow_succ'];congr 1;omega
 rw [pow_EP hP,h2];have h4:f*2^(P-1)≤2*bias E*2^(P-1):=Nat.mul_le_mul_right _ hfb;have h5:2^(P-1)*(2*bias E+2)=2*bias E*2^(P-1)+2*2^(P-1):=by rw [Nat.mul_add,Nat.mul_comm,Nat.mul_comm (2^(P-1)) 2]
 omega
theorem IsVal.neg {P b:Nat} {q:Rat} (h:IsVal P b q):IsVal P b (-q):=by
 obtain ⟨m,j,h1,h2,h3⟩:=h
 exact ⟨m,j,h1,h2,by rw [absQ_neg];exact h3⟩



theorem absQ_ge (x:Rat):x≤absQ x ∧ -x≤absQ x:=by
 rcases Rat.le_total (a:=0) (b:=x) with g | g
 ·rw [absQ_nonneg g];constructor<;>grind
 ·rw [←absQ_neg,absQ_nonneg (by grind)];constructor<;>grind
theorem IsVal.zero (P b:Nat):IsVal P b 0:=⟨0,_,Int.le_refl _,Nat.pow_pos (by decide),by rw [absQ_nonneg Rat.le_refl];grind⟩

theorem absQ_zero_le (x:Rat):0≤absQ x:=by have:=absQ_ge x;grind
theorem endN_le {P b m:Nat} {q:Rat} {l:Int} (hl:IsLog (absQ q) l) (neg is:Bool) (c:Int):endN m neg (rdN P b l q) is c≤2^P∧rdN P b l q≤endN m neg (rdN P b l q) is c:=by
 have:=rdN_lt (P:=P) (b:=b) hl
 unfold endN
 split
 ·omega
 ·split<;>omega
theorem round_val {E P m:Nat} {q:Rat} {l:Int} (_hE:1≤E) (hP:1≤P) (hl:IsLog (absQ q) l) (N:Nat)
  (hN:N=endN m (decide (q.num<0)) (rdN P (bias E) l q) (decide ((rdT P (bias E) l q).den=1)) (cmpQ ((rdT P (bias E) l q-(rdN P (bias E) l q:Nat))*2) 1))
  (hg:((N:Nat):Rat)*(2:Rat)^(rdK P (bias E) l)≤grQ P (bias E)) (hlt:N+rdF (bias E) l*2^(P-1)<2^(E+P-1)) :
  wval E P (bias E) (roundR E P (bias E) m q l).1=(if decide (q.num<0)=true then -1 else 1)*(((N:Nat):Rat)*(2:Rat)^(rdK P (bias E) l)) ∧
  (roundR E P (bias E) m q l).2=endF (decide ((rdT P (bias E) l q).den=1)) (decide (l<1-((bias E:Nat):Int))):=by
 have hb:=endN_le (P:=P) (b:=bias E) (m:=m) hl (decide (q.num<0)) (decide ((rdT P (bias E) l q).den=1)) (cmpQ ((rdT P (bias E) l q-(rdN P (bias E) l q:Nat))*2) 1);rw [←hN] at hb;have hk:rdK P (bias E) l=2-((bias E:Nat):Int)-P+(rdF (bias E) l:Nat):=rfl;have e:roundR E P (bias E) m q l=(wordN E P (decide (q.num<0)) N (rdF (bias E) l),endF (decide ((rdT P (bias E) l q).den=1)) (decide (l<1-((bias E:Nat):Int)))):=by
  unfold roundR endR;rw [←hN,if_pos (by rw [←hk];exact hg)]
 rw [e];refine ⟨?_,rfl⟩;rw [wordN_val hP _ hlt hb.1 (by rcases rdN_ge (b:=bias E) hP hl with h | h;exact .inl h;exact .inr (Nat.le_trans h hb.2)),hk]

theorem Box.c9 {w:World} {b:Nat} {x0 x1 x2 x3 x4 x5 x6 x7 x8:Value} {t:TypeId} (h:Box w b #[x0,x1,x2,x3,x4,x5,x6,x7,x8] t) :
  w.cell? ⟨b,0,none⟩=some x0∧w.cell? ⟨b,1,none⟩=some x1∧w.cell? ⟨b,2,none⟩=some x2∧w.cell? ⟨b,3,none⟩=some x3∧w.cell? ⟨b,4,none⟩=some x4∧w.cell? ⟨b,5,none⟩=some x5∧w.cell? ⟨b,6,none⟩=some x6∧w.cell? ⟨b,7,none⟩=some x7∧w.cell? ⟨b,8,none⟩=some x8 :=
 ⟨h.cell 0,h.cell 1,h.cell 2,h.cell 3,h.cell 4,h.cell 5,h.cell 6,h.cell 7,h.cell 8⟩
theorem kind_fin {E P n:Nat} (h:wf E P n≠2^E-1):wkind E P n≤2:=by unfold wkind;rw [if_neg h];split<;>omega
theorem fin_wf {E P n:Nat} (h:wkind E P n≤2):wf E P n≠2^E-1:=by
 intro e
 unfold wkind at h;rw [if_pos e] at h
 split at h
 ·omega
 ·split at h<;>omega
theorem wvalK_fin {E P b n:Nat} (h:wkind E P n≤2):wvalK E P b n=wval E P b n:=by
 unfold wvalK
 by_cases h2:wkind E P n=2
 ·rw [if_pos h2]
 ·rw [if_neg h2,if_neg (by omega),if_neg (by omega)];have hk:wf E P n=0∧wr P n=0:=by
   have hne:=fin_wf h;unfold wkind at h2;rw [if_neg hne] at h2
   by_cases h3:wf E P n=0∧wr P n=0
   ·exact h3
   ·rw [if_neg h3] at h2;exact absurd rfl h2
  unfold wval wfr;rw [if_pos hk.1,hk.2]
  grind
theorem value_fin {E P n:Nat} (hn:n<2^(E+P)) (h:wkind E P n≤2):valueR E P n=(wval E P (bias E) n,0):=by
 unfold valueR;rw [if_neg (fun k=>k hn),if_neg (by omega),wvalK_fin h]
theorem grQ_nonneg (P b:Nat):0≤grQ P b:=by unfold grQ;exact steps_nonneg _ _
theorem kind_of_le {E P n:Nat} (hE:2≤E) (hP:1≤P) (h:absQ (wval E P (bias E) n)≤grQ P (bias E)):wkind E P n≤2:=by
 refine kind_fin (fun e => ?_);rw [wval_abs,e] at h;have h2:=two_bias (E:=E) (by omega);have hp:0<2^(P-1):=Nat.pow_pos (by decide);have hfr:2^(P-1)≤wfr E P n:=by unfold wfr;rw [if_neg (by rw [e];omega)];omega
 have h1:max (2^E-1) 1-1=2*bias E:=by omega
 rw [h1] at h;have h3:(2:Rat)^(((P-1:Nat):Int)+(2-(bias E:Int)-P+((2*bias E:Nat):Int)))≤grQ P (bias E):=by
  refine Rat.le_trans ?_ h;rw [p2_add,p2_nat]
  exact Rat.mul_le_mul_of_nonneg_right (by rw [Rat.natCast_le_natCast];exact hfr) (Rat.le_of_lt (p2_pos _))
 have h4:=grQ_lt P (bias E);have h5:((P-1:Nat):Int)+(2-(bias E:Int)-P+((2*bias E:Nat):Int))=(bias E:Int)+1:=by omega
 rw [h5] at h3
 exact absurd h4 (Rat.not_lt.2 h3)
theorem wordN_lt {E P:Nat} (h1:1≤E+P) (neg:Bool) {n f:Nat} (h:n+f*2^(P-1)<2^(E+P-1)):wordN E P neg n f<2^(E+P):=by
 rw [wordN_eq neg h];have h3:2^(E+P)=2*2^(E+P-1):=by rw [←Nat.pow_succ'];congr 1;omega
 cases neg
 ·simp;omega
 ·simp;omega
theorem sgb_word (E P:Nat) (s:Bool):sgb E P s=wordN E P s 0 0:=by unfold wordN;simp
theorem sgb_ok {E P:Nat} (hE:2≤E) (hP:1≤P) (s:Bool):sgb E P s<2^(E+P)∧valueR E P (sgb E P s)=(0,0):=by
 have h0:0+0*2^(P-1)<2^(E+P-1):=by rw [Nat.zero_mul];exact Nat.pow_pos (by decide)
 have hv:wval E P (bias E) (sgb E P s)=0:=by
  rw [sgb_word,wordN_val hP s h0 (Nat.zero_le _) (.inl rfl)]
  grind
 have hlt:sgb E P s<2^(E+P):=by rw [sgb_word];exact wordN_lt (by omega) s h0
 refine ⟨hlt,?_⟩;rw [value_fin hlt (kind_of_le hE hP (by rw [hv,absQ_nonneg Rat.le_refl];exact grQ_nonneg _ _)),hv]
theorem wvalK_sm {E P n:Nat} (hF:Fmt E P) (h:wkind E P n≤2):SmQ 5000 (wvalK E P (bias E) n):=by
 have hE:2≤E∧E≤11:=by unfold Fmt at hF;omega
 have hP:2≤P∧P≤113:=by unfold Fmt at hF;omega
 rw [wvalK_fin h];have h1:=wfr_lt (E:=E) (P:=P) (n:=n) (by omega);have hf:wf E P n<2^E:=Nat.mod_lt _ (Nat.pow_pos (by decide));have h2:2^E≤2048:=Nat.pow_le_pow_right (n:=2) (j:=11) (by decide) hE.2;have hb:bias E≤1023:=by
  have:2^(E-1)≤1024:=Nat.pow_le_pow_right (n:=2) (j:=10) (by decide) (by omega)
  unfold bias;omega
 have s1:SmQ 113 ((wfr E P n:Nat):Rat):=SmQ.nat (by decide) (Nat.lt_of_lt_of_le h1 (Nat.pow_le_pow_right (by decide) hP.2));have s2:=s1.mul_p2 (2-(bias E:Int)-P+((max (wf E P n) 1-1:Nat):Int)) 3500 (by omega);have s3:SmQ 5000 (((wfr E P n:Nat):Rat)*(2:Rat)^(2-(bias E:Int)-P+((max (wf E P n) 1-1:Nat):Int))):=s2.mono (by decide);unfold wval
 split
 ·have:=s3.neg
  rwa [show -(((wfr E P n:Nat):Rat)*(2:Rat)^(2-(bias E:Int)-P+((max (wf E P n) 1-1:Nat):Int))) = -1*(((wfr E P n:Nat):Rat)*(2:Rat)^(2-(bias E:Int)-P+((max (wf E P n) 1-1:Nat):Int))) from by grind] at this
 ·rwa [Rat.one_mul]

theorem kind_zero {E P b n:Nat} (h:wkind E P n≤2):wkind E P n=1↔wvalK E P b n=0:=by
 have hne:=fin_wf h
 constructor
 ·intro h1
  unfold wvalK;rw [if_neg (by omega),if_neg (by omega),if_neg (by omega)]
 ·intro h0
  rw [wvalK_fin h] at h0;have h2:absQ (wval E P b n)=0:=by rw [h0];exact absQ_nonneg Rat.le_refl
  rw [wval_abs] at h2;have h3:wfr E P n=0:=by
   rcases Nat.eq_zero_or_pos (wfr E P n) with e | e
   ·exact e
   ·exfalso
    have h4:(0:Rat)<((wfr E P n:Nat):Rat):=by exact_mod_cast e
    have h5:=Rat.mul_pos h4 (p2_pos (2-(b:Int)-P+((max (wf E P n) 1-1:Nat):Int)))
    grind
  have hp:0<2^(P-1):=Nat.pow_pos (by decide);unfold wfr at h3;unfold wkind;rw [if_neg hne]
  by_cases hf:wf E P n=0
  ·rw [if_pos hf] at h3;rw [if_pos ⟨hf,h3⟩]
  ·rw [if_neg hf] at h3;omega
theorem flogA_c (x:Value) (q:Rat) (K:Nat) (w:World) (hx:NumV w x q) (sx:SmQ K q) (hK:K≤10000000) (h:q.num≠0) :
  Calls Tryz.prog 181 #[x] w fun e w'=>∃ k,e=.returned (.int .i64 k)∧IsLog (absQ q) k∧Ext w w':=by
 obtain ⟨ng,a,n,c,a',n',c',rfl⟩:=hx.shape;obtain ⟨W0,hW0⟩:∃ W0,W0=w.alloc (.cells #[.bool ng,.slice a n c,.slice a' n' c'] 49):=⟨_,rfl⟩;have HE:Hid (Ext w W0):=hid (by rw [hW0];exact Ext.alloc w _);have hBx:Box W0 w.heap.size #[.bool ng,.slice a n c,.slice a' n' c'] 49:=by rw [hW0];exact Box.new w _ _
 have HS:Hid (∀ w',Ext W0 w'→Tri w.heap.size (.bool ng) (.slice a n c) (.slice a' n' c') w'):=hid fun w' h=>Tri.of (hBx.ext h);have Hx:=hid hx;have hb0:Ext W0 W0.drew:=Below.drew (Below.refl _ W0);have HK:=hid hK;have Sx:=hid sx;have H0:=hid h;clear hx hBx hK sx h;obtain ⟨x0,x1,x2⟩:=HS.o _ (Below.refl _ W0)
 go_enter Tryz.func181,Tryz.ntmps181
 go_wp2_with fail;rw [←hW0];clear hW0;refine (LogA_c _ q K _ (Hx.o.ext HE.o) Sx.o HK.o H0.o).mono ?_;rintro e w1 ⟨k,rfl,hl,hb1⟩;have Hl:=hid hl;clear hl;go_wp2_with fail;go_ret
 exact ⟨k,rfl,Hl.o,HE.o.trans hb1⟩
theorem grQ_sm {P b:Nat} (hP:2≤P∧P≤113) (hb:b≤1023):SmQ 16000 (grQ P b):=by
 have h1:2^P-1<2^113:=by
  have h2:2^P≤2^113:=Nat.pow_le_pow_right (n:=2) (j:=113) (by decide) hP.2
  have:0<2^P:=Nat.pow_pos (by decide)
  omega
 have s1:SmQ 113 ((2^P-1:Nat):Rat):=SmQ.nat (by decide) h1
 exact (s1.mul_p2 ((b:Int)-P+1) 2000 (by omega)).mono (by decide)
theorem ltle {a b c:Rat} (h:a<b) (k:b≤c):a<c:=by grind
theorem lelt {a b c:Rat} (h:a≤b) (k:b<c):a<c:=by grind
theorem bias_pos {E:Nat} (hE:2≤E):1≤bias E:=by
 have h2:=two_bias (E:=E) (by omega)
 have:2^2≤2^E:=Nat.pow_le_pow_right (by decide) hE
 omega
theorem fmt_bounds {E P:Nat} (hF:Fmt E P):(2≤E∧E≤11)∧(2≤P∧P≤113)∧bias E≤1023∧E+P≤124∧1≤bias E:=by
 have hE:2≤E∧E≤11:=by unfold Fmt at hF;omega
 have hP:2≤P∧P≤113:=by unfold Fmt at hF;omega
 have hb:bias E≤1023:=by
  have:2^(E-1)≤1024:=Nat.pow_le_pow_right (n:=2) (j:=10) (by decide) (by omega)
  unfold bias;omega
 exact ⟨hE,hP,hb,by omega,bias_pos hE.1⟩

theorem end_fits {E P n f:Nat} (hE:1≤E) (hP:1≤P) (hn:n≤2^P) (hf:f=0∨2^(P-1)≤n) (hg:((n:Nat):Rat)*(2:Rat)^(2-(bias E:Int)-P+(f:Nat))≤grQ P (bias E)):n+f*2^(P-1)<2^(E+P-1):=by
 rcases Nat.lt_or_ge n (2^P) with h | h
 ·exact rd_fits hE hP h hf hg
 ·obtain rfl:n=2^P:=by omega
  have h1:(2:Rat)^((P:Int)+(2-(bias E:Int)-P+(f:Nat)))≤grQ P (bias E):=by rw [p2_add,p2_nat];exact hg
  have h2:=grQ_lt P (bias E);have h3:(2:Rat)^((P:Int)+(2-(bias E:Int)-P+(f:Nat)))<(2:Rat)^((bias E:Int)+1):=by grind
  rw [p2_lt_iff] at h3;have h4:=two_bias hE;have h5:2^P=2*2^(P-1):=by rw [←Nat.pow_succ'];congr 1;omega
  rw [pow_EP hP,h4,h5];have h6:f+2≤2*bias E:=by omega
  have h7:(f+2)*2^(P-1)≤2*bias E*2^(P-1):=Nat.mul_le_mul_right _ h6;have h8:2^(P-1)*(2*bias E+2)=2*bias E*2^(P-1)+2*2^(P-1):=by rw [Nat.mul_add,Nat.mul_comm,Nat.mul_comm (2^(P-1)) 2]
  have h9:(f+2)*2^(P-1)=f*2^(P-1)+2*2^(P-1):=by rw [Nat.add_mul]
  have hp:0<2^(P-1):=Nat.pow_pos (by decide)
  omega
theorem inf_word (E P:Nat) (s:Bool):infw E P s=wordN E P s 0 (2^E-1):=by unfold infw wordN;rw [Nat.zero_add]
theorem inf_ok {E P:Nat} (hP:1≤P) (s:Bool):infw E P s<2^(E+P)∧valueR E P (infw E P s)=(0,4):=by
 have hp:0<2^(P-1):=Nat.pow_pos (by decide);have he:0<2^E:=Nat.pow_pos (by decide);have h0:0+(2^E-1)*2^(P-1)<2^(E+P-1):=by
  rw [Nat.zero_add,pow_EP hP,Nat.mul_comm (2^(P-1))]
  exact Nat.mul_lt_mul_of_pos_right (by omega) hp
 have hlt:infw E P s<2^(E+P):=by rw [inf_word];exact wordN_lt (by omega) s h0
 refine ⟨hlt,?_⟩;have e1:wf E P (infw E P s)=2^E-1:=by rw [inf_word,wordN_wf hP s h0,Nat.zero_add,Nat.mul_div_cancel _ hp]
 have e2:wr P (infw E P s)=0:=by rw [inf_word,wordN_wr hP s h0,Nat.zero_mod]
 have e3:wkind E P (infw E P s)=3:=by unfold wkind;rw [if_pos e1,if_pos e2]
 unfold valueR;rw [if_neg (fun k=>k hlt),if_pos (by rw [e3];decide)]
theorem great_fits {E P:Nat} (hE:2≤E) (hP:1≤P):2^P-1+(2*bias E-1)*2^(P-1)<2^(E+P-1):=by
 have h4:=two_bias (E:=E) (by omega);have h5:2^P=2*2^(P-1):=by rw [←Nat.pow_succ'];congr 1;omega
 have hb:1≤bias E:=by
  have:2^2≤2^E:=Nat.pow_le_pow_right (by decide) hE
  omega
 rw [pow_EP hP,h4,h5];obtain ⟨c,hc⟩:∃ c,bias E=c+1:=⟨bias E-1,by omega⟩;rw [hc,show 2*(c+1)-1=2*c+1 by omega];have hp:0<2^(P-1):=Nat.pow_pos (by decide);generalize 2^(P-1)=t at *
 have e1:(2*c+1)*t=2*(c*t)+t:=by rw [Nat.add_mul,Nat.mul_assoc,Nat.one_mul]
 have e2:t*(2*(c+1)+2)=2*(c*t)+4*t:=by
  rw [Nat.mul_add,Nat.mul_comm t (2*(c+1)),Nat.mul_assoc,Nat.add_mul];omega
 omega
theorem roundR_lt {E P m:Nat} {q:Rat} {l:Int} (hE:2≤E) (hP:1≤P) (hl:IsLog (absQ q) l):(roundR E P (bias E) m q l).1<2^(E+P):=by
 have hN:=endN_le (P:=P) (b:=bias E) (m:=m) hl (decide (q.num<0)) (decide ((rdT P (bias E) l q).den=1)) (cmpQ ((rdT P (bias E) l q-(rdN P (bias E) l q:Nat))*2) 1);have hge:rdF (bias E) l=0∨2^(P-1)≤endN m (decide (q.num<0)) (rdN P (bias E) l q) (decide ((rdT P (bias E) l q).den=1)) (cmpQ ((rdT P (bias E) l q-(rdN P (bias E) l q:Nat))*2) 1):=by
  rcases rdN_ge (b:=bias E) hP hl with h | h
  ·exact .inl h
  ·exact .inr (Nat.le_trans h hN.2)
 unfold roundR endR
 split
 ·rename_i hg
  exact wordN_lt (by omega) _ (end_fits (by omega) hP hN.1 hge hg)
 ·split
  ·exact wordN_lt (by omega) _ (great_fits hE hP)
  ·exact (inf_ok hP _).1
theorem rnd_lt {E P m:Nat} {q:Rat} {l:Int} (hE:2≤E) (hP:1≤P) (hl:q≠0→IsLog (absQ q) l):(rnd E P (bias E) m q l).1<2^(E+P):=by
 unfold rnd
 split
 ·exact Nat.pow_pos (by decide)
 ·rename_i h
  exact roundR_lt hE hP (hl h)
/-! ### values -/
theorem wval_zero (E P b:Nat):wval E P b 0=0:=by
 unfold wval wfr wf wr
 simp
theorem or_lowF {P T N:Nat} (h:N<2^P):T*2^P ||| N=N+T*2^P:=by
 have:=Nat.two_pow_add_eq_or_of_lt h T
 rw [Nat.mul_comm T,←this];omega
theorem inf_or {E P N:Nat} (neg:Bool) (h:N<2^(P-1)):infw E P neg ||| N=wordN E P neg N (2^E-1):=by
 unfold infw wordN;rw [Nat.or_assoc,or_lowF h]
theorem special_fits {E P N:Nat} (hP:1≤P) (h:N<2^(P-1)):N+(2^E-1)*2^(P-1)<2^(E+P-1):=by
 rw [pow_EP hP];have hE:0<2^E:=Nat.pow_pos (by decide);obtain ⟨c,hc⟩:∃ c,2^E=c+1:=⟨2^E-1,by omega⟩;rw [hc,Nat.add_sub_cancel,Nat.mul_comm,Nat.mul_add]
 omega
def infZ (E P:Nat):Nat:=(2^E-1)*2^(P-1)
theorem infZ_lt {E P:Nat} (hP:1≤P):infZ E P<2^(E+P-1):=by
 have:=special_fits (E:=E) (P:=P) (N:=0) hP (Nat.pow_pos (by decide))
 rwa [Nat.zero_add] at this
theorem wval_inf {E P n:Nat} (hE:2≤E) (hP:1≤P) (hk:wkind E P n=3):wval E P (bias E) n=if wn E P n=true then -((2:Rat)^((bias E:Int)+1)) else (2:Rat)^((bias E:Int)+1):=by
 have h:wf E P n=2^E-1∧wr P n=0:=by
  unfold wkind at hk
  split at hk
  ·split at hk
   ·exact ⟨by assumption,by assumption⟩
   ·split at hk<;>cases hk
  ·split at hk<;>cases hk
 have h2:2^E=2*2^(E-1):=by rw [←Nat.pow_succ'];congr 1;omega
 have h3:2^1≤2^(E-1):=Nat.pow_le_pow_right (by decide) (by omega);have hv:((wfr E P n:Nat):Rat)*(2:Rat)^(2-((bias E:Nat):Int)-P+((max (wf E P n) 1-1:Nat):Int))=(2:Rat)^((bias E:Int)+1):=by
  unfold wfr;rw [h.1,h.2,if_neg (by omega),Nat.zero_add,←p2_nat,←p2_add]
  congr 1
  unfold bias
  omega
 unfold wval;rw [hv]
 split<;>grind
theorem inf_kind {E P:Nat} (hP:1≤P) (s:Bool):wkind E P (infw E P s)=3:=by
 have hp:0<2^(P-1):=Nat.pow_pos (by decide);have h0:0+(2^E-1)*2^(P-1)<2^(E+P-1):=by
  rw [pow_EP hP,Nat.mul_comm (2^(P-1))]
  have:0<2^E:=Nat.pow_pos (by decide)
  have:=Nat.mul_lt_mul_of_pos_right (show 2^E-1<2^E by omega) hp
  omega
 have e1:wf E P (infw E P s)=2^E-1:=by rw [inf_word,wordN_wf hP s h0,Nat.zero_add,Nat.mul_div_cancel _ hp]
 have e2:wr P (infw E P s)=0:=by rw [inf_word,wordN_wr hP s h0,Nat.zero_mod]
 unfold wkind;rw [if_pos e1,if_pos e2]
end Go.Proofs.YtoaoebimjmjpeaaGreatDoor
