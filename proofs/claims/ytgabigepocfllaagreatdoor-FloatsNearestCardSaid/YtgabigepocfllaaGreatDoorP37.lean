/- floats: Value. -/
import Derived.Test.YtgabigepocfllaaGreatDoorP36
import Derived.Test.YtgabigepocfllaaGreatDoorP28
import Derived.Test.YtgabigepocfllaaGreatDoorP32
namespace Go.Proofs.YtgabigepocfllaaGreatDoor
open Go.RowKit Vn
set_option maxRecDepth 100000
set_option maxHeartbeats 8000000
def valueR (E P n:Nat):Rat×Int:=if ¬ n<2^(E+P) then (0,6) else if 2<wkind E P n then (0,4) else (wvalK E P (bias E) n,0)
theorem round_zero (E P b m:Nat) (x:Value) (w:World) (hF:Fmt E P) (hx:NumV w x 0) :
  Calls Tryz.prog 74 #[.agg #[.int .i64 E,.int .i64 P,.int .i64 m,.int .i64 b],x] w fun e w'=>EndPost (0,0) w e w':=by
 obtain ⟨ng,a,n,c,a',n',c',rfl⟩:=hx.shape;have HX:=hid hx;have e0:Word (sgb E P false)=.agg #[.int .u64 0,.int .u64 0]:=by unfold Word sgb;simp
 have C1:Hid (∀ w,Calls Tryz.prog 73 #[.agg #[.int .i64 E,.int .i64 P,.int .i64 m,.int .i64 b],.bool false] w fun e w'=>e=.returned (.agg #[.int .u64 0,.int .u64 0])∧Ext w w'):=hid fun w=>by rw [←e0];exact zero_c E P m b false w hF
 clear hx hF e0;obtain ⟨W0,hW0,g0,hz0,B_M,B_X,B_Z⟩:=pro3s w #[.int .i64 E,.int .i64 P,.int .i64 m,.int .i64 b] #[.bool ng,.slice a n c,.slice a' n' c'] #[.int .u64 0,.int .u64 0] 96 40 29;have HE:=hid g0;have HB_M:=hid B_M;have HB_X:=hid B_X;have HB_Z:=hid B_Z;clear g0 B_M B_X B_Z 
 go_enter Tryz.func74,Tryz.ntmps74
 go_wp2_with fail;rw [←hW0];clear hW0;refine (sign_c _ 0 _ (HX.o.ext HE.o)).mono ?_;rintro e w1 ⟨rfl,g1⟩;have hz_w1:=g1.size;replace HE:=hid (HE.o.trans g1);replace HB_M:=hid (HB_M.o.ext g1);replace HB_X:=hid (HB_X.o.ext g1);replace HB_Z:=hid (HB_Z.o.ext g1);rw [show (0:Rat).num.sign=0 from rfl];obtain ⟨J1,J2,J3,J4⟩:=HB_M.o.c4;obtain ⟨J5,J6,J7⟩:=HB_X.o.c3;obtain ⟨J8,J9⟩:=HB_Z.o.c2;go_wp2_with fail;clear J1 J2 J3 J4 J5 J6 J7 J8 J9;refine (C1.o _).mono ?_;rintro e w2 ⟨rfl,g2⟩;have hz_w2:=g2.size;replace HE:=hid (HE.o.trans g2);replace HB_M:=hid (HB_M.o.ext g2);replace HB_X:=hid (HB_X.o.ext g2);replace HB_Z:=hid (HB_Z.o.ext g2);obtain ⟨J10,J11,J12,J13⟩:=HB_M.o.c4;obtain ⟨J14,J15,J16⟩:=HB_X.o.c3;obtain ⟨J17,J18⟩:=HB_Z.o.c2;obtain ⟨U19,U20⟩:=HB_Z.o.f2;go_wp2_with fail;clear J10 J11 J12 J13 J14 J15 J16 J17 J18 U19 U20;obtain ⟨W3,hW3,g3,q3,B3,hy3,ho3⟩:=sto2 HE.o (by omega) HB_Z.o (by decide) (.int .u64 0) (.int .u64 0);rw [←hW3];clear hW3;replace HE:=hid g3;replace HB_M:=hid (ho3 _ _ _ (by omega) HB_M.o);replace HB_X:=hid (ho3 _ _ _ (by omega) HB_X.o);replace HB_Z:=hid B3;unfold EndPost;obtain ⟨J21,J22⟩:=HB_Z.o.c2;refine bodyPost_ret (v:=.tuple #[.agg #[.int .u64 0,.int .u64 0],.int .i64 0]) (by simp [results,Tryz.results74,go_sem,J21,J22]) rfl ⟨by show _=Ending.returned (.tuple #[Word 0,.int .i64 0]);simp [Word],HE.o⟩
def rnd (E P b m:Nat) (q:Rat) (l:Int):Nat×Nat:=if q=0 then (0,0) else roundR E P b m q l
theorem rnd_c (E P b m:Nat) (x:Value) (q:Rat) (l:Int) (K:Nat) (w:World) (hF:Fmt E P) (hm:m≤4) (hb:b=bias E) (hx:NumV w x q) (sx:SmQ K q) (hK:K≤12000) (hl:q≠0→IsLog (absQ q) l) (hT:Tabs w) :
  Calls Tryz.prog 74 #[.agg #[.int .i64 E,.int .i64 P,.int .i64 m,.int .i64 b],x] w (EndPost (rnd E P b m q l) w):=by
 unfold rnd
 by_cases h:q=0
 ·subst h;rw [if_pos rfl]
  exact round_zero E P b m x w hF hx
 ·rw [if_neg h]
  exact round_c E P b m x q l K w hF hm hb hx sx hK (fun e=>h (Rat.num_eq_zero.1 e)) (hl h) hT
theorem pow_EP {E P:Nat} (hP:1≤P):2^(E+P-1)=2^(P-1)*2^E:=by rw [←Nat.pow_add];congr 1;omega
theorem wordN_eq {E P:Nat} (neg:Bool) {n f:Nat} (h:n+f*2^(P-1)<2^(E+P-1)):wordN E P neg n f=n+f*2^(P-1)+2^(E+P-1)*(if neg=true then 1 else 0):=by
 unfold wordN sgb;rw [Nat.or_comm]
 cases neg
 ·simp
 ·simp only [if_true]
  have:=or_add (b:=1) h
  rw [Nat.mul_one] at this;rw [this,Nat.mul_one]
theorem wordN_wf {E P:Nat} (hP:1≤P) (neg:Bool) {n f:Nat} (h:n+f*2^(P-1)<2^(E+P-1)):wf E P (wordN E P neg n f)=(n+f*2^(P-1))/2^(P-1):=by
 rw [wordN_eq neg h];unfold wf;have hp:0<2^(P-1):=Nat.pow_pos (by decide);have h2:(n+f*2^(P-1))/2^(P-1)<2^E:=by
  rw [Nat.div_lt_iff_lt_mul hp,Nat.mul_comm (2^E),←pow_EP hP];exact h
 rw [pow_EP hP,Nat.mul_assoc,Nat.add_mul_div_left _ _ hp,Nat.add_mul_mod_self_left,Nat.mod_eq_of_lt h2]
theorem wordN_wr {E P:Nat} (hP:1≤P) (neg:Bool) {n f:Nat} (h:n+f*2^(P-1)<2^(E+P-1)):wr P (wordN E P neg n f)=n%2^(P-1):=by
 rw [wordN_eq neg h];unfold wr;rw [pow_EP hP,Nat.mul_assoc,Nat.add_mul_mod_self_left,Nat.add_mul_mod_self_right]
theorem wordN_wn {E P:Nat} (neg:Bool) {n f:Nat} (h:n+f*2^(P-1)<2^(E+P-1)):wn E P (wordN E P neg n f)=neg:=by
 rw [wordN_eq neg h];unfold wn;have hp:0<2^(E+P-1):=Nat.pow_pos (by decide);rw [Nat.add_mul_div_left _ _ hp,Nat.div_eq_of_lt h]
 cases neg<;>simp
theorem wordN_val {E P b:Nat} (hP:1≤P) (neg:Bool) {n f:Nat} (h:n+f*2^(P-1)<2^(E+P-1)) (hn:n≤2^P) (hf:f=0∨2^(P-1)≤n) :
  wval E P b (wordN E P neg n f)=(if neg=true then -1 else 1)*(((n:Nat):Rat)*(2:Rat)^(2-(b:Int)-P+(f:Nat))):=by
 unfold wval wfr;rw [wordN_wn neg h,wordN_wf hP neg h,wordN_wr hP neg h];have hp:0<2^(P-1):=Nat.pow_pos (by decide);have hPP:2^P=2*2^(P-1):=by rw [←Nat.pow_succ'];congr 1;omega
 have hd:(n+f*2^(P-1))/2^(P-1)=n/2^(P-1)+f:=Nat.add_mul_div_right _ _ hp;rw [hd]
 congr 1
 rcases Nat.lt_or_ge n (2^(P-1)) with h1 | h1
 ·obtain rfl:f=0:=by omega
  rw [Nat.div_eq_of_lt h1,Nat.mod_eq_of_lt h1]
  simp
 ·rcases Nat.lt_or_ge n (2^P) with h2 | h2
  ·have e1:n/2^(P-1)=1:=by
    rw [Nat.div_eq_iff hp];omega
   have e2:n%2^(P-1)+2^(P-1)=n:=by
    have:=Nat.div_add_mod n (2^(P-1));rw [e1] at this;omega
   rw [e1,if_neg (by omega),e2]
   congr 2;omega
  ·have e0:n=2^(P-1)*2:=by omega
   have e1:n/2^(P-1)=2:=by rw [e0,Nat.mul_div_cancel_left _ hp]
   have e2:n%2^(P-1)=0:=by rw [e0,Nat.mul_mod_right]
   rw [e1,e2,if_neg (by omega),Nat.zero_add,e0,Rat.natCast_mul];have e3:(2-(b:Int)-P+((max (2+f) 1-1:Nat):Int))=2-(b:Int)-P+(f:Nat)+1:=by omega
   rw [e3,p2_succ]
   grind
def IsVal (P b:Nat) (q:Rat):Prop:=∃ (m:Nat) (j:Int),2-(b:Int)-P≤j∧m<2^P∧absQ q=(m:Rat)*(2:Rat)^j
theorem isVal_step {P b:Nat} {q:Rat} {l:Int} (hl:IsLog (absQ q) l) (h:IsVal P b q):∃ N:Nat,rdT P b l q=(N:Rat)∧absQ q=(N:Rat)*(2:Rat)^(rdK P b l):=by
 obtain ⟨m,j,h1,h2,h3⟩:=h;have hk:rdK P b l≤j:=by
  rcases Int.lt_or_le j (rdK P b l) with h4 | h4
  ·have e:rdK P b l=l-P+1:=by unfold rdK at *;unfold rdF at *;omega
   have h5:absQ q<(2:Rat)^((P:Int)+j):=by
    rw [h3,p2_add,Rat.mul_lt_mul_right (p2_pos j),p2_nat,Rat.natCast_lt_natCast];exact h2
   have h6:(2:Rat)^l<(2:Rat)^((P:Int)+j):=by have:=hl.1;grind
   rw [p2_lt_iff] at h6
   omega
  ·exact h4
 obtain ⟨d,hd⟩:∃ d:Nat,j=rdK P b l+d:=⟨(j-rdK P b l).toNat,by omega⟩;have e:absQ q=((m*2^d:Nat):Rat)*(2:Rat)^(rdK P b l):=by
  rw [h3,hd,p2_add,p2_nat,Rat.natCast_mul];grind
 refine ⟨m*2^d,?_,e⟩;unfold rdT;rw [e,Rat.mul_assoc,p2_cancel',Rat.mul_one]
theorem rdN_of {P b:Nat} {l:Int} {q:Rat} {N:Nat} (h:rdT P b l q=(N:Rat)):rdN P b l q=N:=by
 unfold rdN;rw [h,show ((N:Nat):Rat)=(((N:Nat):Int):Rat) from rfl,Rat.floor_intCast];rfl
theorem round_exact {E P b m:Nat} {q:Rat} {l:Int} (hl:IsLog (absQ q) l) (h:IsVal P b q) (hg:absQ q≤grQ P b) :
  roundR E P b m q l=(wordN E P (decide (q.num<0)) (rdN P b l q) (rdF b l),0)∧absQ q=(rdN P b l q:Rat)*(2:Rat)^(2-(b:Int)-P+(rdF b l:Nat)):=by
 obtain ⟨N,h1,h2⟩:=isVal_step hl h;have hN:=rdN_of h1;have hk:rdK P b l=2-(b:Int)-P+(rdF b l:Nat):=rfl;rw [hk] at h2;rw [hN];refine ⟨?_,h2⟩;unfold roundR endR;have hd:(rdT P b l q).den=1:=by rw [h1];rfl
 have e1:endN m (decide (q.num<0)) (rdN P b l q) (decide ((rdT P b l q).den=1)) (cmpQ ((rdT P b l q-(rdN P b l q:Nat))*2) 1)=N:=by
  unfold endN;rw [hd,hN];simp
 have e2:endF (decide ((rdT P b l q).den=1)) (decide (l<1-(b:Int)))=0:=by unfold endF;rw [hd];simp
 rw [e1,e2,if_pos (by rw [←h2];exact hg)]
theorem absQ_sign (q:Rat):(if decide (q.num<0)=true then -1 else 1)*absQ q=q:=by
 rw [absQ_eq]
 by_cases h:q.num<0
 ·rw [if_pos (decide_eq_true h),if_pos h];grind
 ·rw [if_neg (by rw [decide_eq_false h];decide),if_neg h];grind
theorem round_exact_val {E P b m:Nat} {q:Rat} {l:Int} (hP:1≤P) (hl:IsLog (absQ q) l) (h:IsVal P b q) (hg:absQ q≤grQ P b) (hlt:rdN P b l q+rdF b l*2^(P-1)<2^(E+P-1)) :
  wval E P b (roundR E P b m q l).1=q:=by
 obtain ⟨h1,h2⟩:=round_exact (E:=E) (m:=m) hl h hg;rw [h1,wordN_val hP _ hlt (Nat.le_of_lt (rdN_lt hl)) (rdN_ge hP hl),←h2,absQ_sign]
theorem absQ_nonneg {x:Rat} (h:0≤x):absQ x=x:=by
 rw [absQ_eq,if_neg]
 intro h2
 have:=num_neg_iff.1 h2
 grind
theorem absQ_neg (x:Rat):absQ (-x)=absQ x:=by
 unfold absQ;rw [Rat.neg_num,Rat.neg_den,Int.natAbs_neg]
theorem absQ_signed {x:Rat} (h:0≤x) (s:Bool):absQ ((if s=true then -1 else 1)*x)=x:=by
 cases s
 ·rw [if_neg (by decide),Rat.one_mul];exact absQ_nonneg h
 ·rw [if_pos rfl,Rat.neg_mul,Rat.one_mul,absQ_neg];exact absQ_nonneg h
theorem steps_nonneg (n:Nat) (k:Int):0≤((n:Nat):Rat)*(2:Rat)^k:=by
 have h1:(0:Rat)≤((n:Nat):Rat):=by exact_mod_cast Nat.zero_le n
 exact Rat.mul_nonneg h1 (Rat.le_of_lt (p2_pos k))
theorem two_bias {E:Nat} (hE:1≤E):2^E=2*bias E+2:=by
 unfold bias;have h1:1≤2^(E-1):=Nat.pow_pos (by decide);have h2:2^E=2*2^(E-1):=by rw [←Nat.pow_succ'];congr 1;omega
 omega
theorem wfr_lt {E P n:Nat} (hP:1≤P):wfr E P n<2^P:=by
 have h1:wr P n<2^(P-1):=Nat.mod_lt _ (Nat.pow_pos (by decide));have h3:2^P=2*2^(P-1):=by rw [←Nat.pow_succ'];congr 1;omega
 unfold wfr;split<;>omega
theorem wval_abs (E P b n:Nat):absQ (wval E P b n)=((wfr E P n:Nat):Rat)*(2:Rat)^(2-(b:Int)-P+((max (wf E P n) 1-1:Nat):Int)):=by
 unfold wval;exact absQ_signed (steps_nonneg _ _) _
theorem wval_isVal {E P b n:Nat} (hP:1≤P):IsVal P b (wval E P b n) :=
 ⟨_,_,by omega,wfr_lt hP,wval_abs E P b n⟩
theorem wval_le {E P n:Nat} (hE:2≤E) (hP:1≤P) (h:wf E P n≠2^E-1):absQ (wval E P (bias E) n)≤grQ P (bias E):=by
 have hf:wf E P n<2^E:=Nat.mod_lt _ (Nat.pow_pos (by decide));have h2:=two_bias (E:=E) (by omega);have hb:1≤bias E:=by
  have:2^2≤2^E:=Nat.pow_le_pow_right (by decide) hE
  omega
 rw [wval_abs];unfold grQ;have h1:=wfr_lt (E:=E) (P:=P) (n:=n) hP;have h3:(2:Rat)^(2-(bias E:Int)-P+((max (wf E P n) 1-1:Nat):Int))≤(2:Rat)^((bias E:Int)-P+1):=p2_mono (by omega);have h4:((wfr E P n:Nat):Rat)≤((2^P-1:Nat):Rat):=by rw [Rat.natCast_le_natCast];omega
 have h0:(0:Rat)≤((2^P-1:Nat):Rat):=by exact_mod_cast Nat.zero_le _
 exact Rat.le_trans (Rat.mul_le_mul_of_nonneg_right h4 (Rat.le_of_lt (p2_pos _))) (Rat.mul_le_mul_of_nonneg_left h3 h0)
theorem rd_fits {E P n f:Nat} (hE:1≤E) (hP:1≤P) (hn:n<2^P) (hf:f=0∨2^(P-1)≤n) (hg:((n:Nat):Rat)*(2:Rat)^(2-(bias E:Int)-P+(f:Nat))≤grQ P (bias E)):n+f*2^(P-1)<2^(E+P-1):=by
 have hfb:f≤2*bias E:=by
  rcases hf with h | h
  ·omega
  ·exact f_bound hP h hg
 have h2:=two_bias hE;have h3:2^P=2*2^(P-1):=by rw [←Nat.pow_succ'];congr 1;omega
 rw [pow_EP hP,h2];have h4:f*2^(P-1)≤2*bias E*2^(P-1):=Nat.mul_le_mul_right _ hfb;have h5:2^(P-1)*(2*bias E+2)=2*bias E*2^(P-1)+2*2^(P-1):=by rw [Nat.mul_add,Nat.mul_comm,Nat.mul_comm (2^(P-1)) 2]
 omega
theorem round_value {E P m:Nat} {q:Rat} {l:Int} (hE:1≤E) (hP:1≤P) (hl:IsLog (absQ q) l) (h:IsVal P (bias E) q) (hg:absQ q≤grQ P (bias E)) :
  (roundR E P (bias E) m q l).2=0∧wval E P (bias E) (roundR E P (bias E) m q l).1=q:=by
 obtain ⟨h1,h2⟩:=round_exact (E:=E) (m:=m) hl h hg;refine ⟨by rw [h1],round_exact_val hP hl h hg (rd_fits hE hP (rdN_lt hl) (rdN_ge hP hl) (by rw [←h2];exact hg))⟩
theorem IsVal.neg {P b:Nat} {q:Rat} (h:IsVal P b q):IsVal P b (-q):=by
 obtain ⟨m,j,h1,h2,h3⟩:=h
 exact ⟨m,j,h1,h2,by rw [absQ_neg];exact h3⟩
theorem absQ_int (z:Int) (k:Int):absQ ((z:Rat)*(2:Rat)^k)=((z.natAbs:Nat):Rat)*(2:Rat)^k:=by
 rcases Int.le_total 0 z with h | h
 ·have e:(z:Rat)=((z.natAbs:Nat):Rat):=by
   conv=>lhs;rw [show z=((z.natAbs:Nat):Int) by omega]
   rfl
  rw [e];exact absQ_nonneg (steps_nonneg _ _)
 ·have e:(z:Rat) = -((z.natAbs:Nat):Rat):=by
   conv=>lhs;rw [show z = -((z.natAbs:Nat):Int) by omega]
   rw [Rat.intCast_neg];rfl
  rw [e,Rat.neg_mul,absQ_neg];exact absQ_nonneg (steps_nonneg _ _)
theorem finer (m:Nat) {i j:Int} (h:i≤j):∃ d:Nat,((m:Nat):Rat)*(2:Rat)^j=((m*2^d:Nat):Rat)*(2:Rat)^i:=by
 obtain ⟨d,rfl⟩:∃ d:Nat,j=i+d:=⟨(j-i).toNat,by omega⟩
 exact ⟨d,by rw [p2_add,p2_nat,Rat.natCast_mul];grind⟩
theorem floor_le_rd (P b:Nat) (l:Int) (q:Rat):((rdN P b l q:Nat):Rat)≤rdT P b l q∧rdT P b l q<((rdN P b l q:Nat):Rat)+1:=by
 have h1:=Rat.floor_le (rdT P b l q);have h2:=Rat.lt_floor_add_one (rdT P b l q);rw [rdN_floor] at h1 h2;refine ⟨h1,?_⟩;have e:((((rdN P b l q:Nat):Int)+1:Int):Rat)=((rdN P b l q:Nat):Rat)+1:=by rw [Rat.intCast_add];rfl
 rw [e] at h2;exact h2
theorem den_one {t:Rat} (h:t.den=1):((t.floor:Int):Rat)=t:=by
 have e:t=((t.num:Int):Rat):=by
  have:=num_eq t
  rw [h] at this;rw [this];grind
 conv=>rhs;rw [e]
 rw [e,Rat.floor_intCast];rfl
theorem absQ_back (P b:Nat) (q:Rat) (l:Int):absQ q=rdT P b l q*(2:Rat)^(rdK P b l):=by
 unfold rdT;rw [Rat.mul_assoc,p2_cancel,Rat.mul_one]
theorem absQ_ge (x:Rat):x≤absQ x ∧ -x≤absQ x:=by
 rcases Rat.le_total (a:=0) (b:=x) with g | g
 ·rw [absQ_nonneg g];constructor<;>grind
 ·rw [←absQ_neg,absQ_nonneg (by grind)];constructor<;>grind
theorem absQ_cases (x:Rat):x=absQ x∨x = -absQ x:=by
 rcases Rat.le_total (a:=0) (b:=x) with g | g
 ·rw [absQ_nonneg g];exact .inl rfl
 ·right;rw [←absQ_neg,absQ_nonneg (by grind)];grind
theorem IsVal.zero (P b:Nat):IsVal P b 0:=⟨0,_,Int.le_refl _,Nat.pow_pos (by decide),by rw [absQ_nonneg Rat.le_refl];grind⟩

theorem absQ_zero_le (x:Rat):0≤absQ x:=by have:=absQ_ge x;grind
theorem endN_le {P b m:Nat} {q:Rat} {l:Int} (hl:IsLog (absQ q) l) (neg is:Bool) (c:Int):endN m neg (rdN P b l q) is c≤2^P∧rdN P b l q≤endN m neg (rdN P b l q) is c:=by
 have:=rdN_lt (P:=P) (b:=b) hl
 unfold endN
 split
 ·omega
 ·split<;>omega
theorem round_val {E P m:Nat} {q:Rat} {l:Int} (_hE:1≤E) (hP:1≤P) (hl:IsLog (absQ q) l) (N:Nat)
  (hN:N=endN m (decide (q.num<0)) (rdN P (bias E) l q) (decide ((rdT P (bias E) l q).den=1)) (cmpQ ((rdT P (bias E) l q-(rdN P (bias E) l q:Nat))*2) 1))
  (hg:((N:Nat):Rat)*(2:Rat)^(rdK P (bias E) l)≤grQ P (bias E)) (hlt:N+rdF (bias E) l*2^(P-1)<2^(E+P-1)) :
  wval E P (bias E) (roundR E P (bias E) m q l).1=(if decide (q.num<0)=true then -1 else 1)*(((N:Nat):Rat)*(2:Rat)^(rdK P (bias E) l)) ∧
  (roundR E P (bias E) m q l).2=endF (decide ((rdT P (bias E) l q).den=1)) (decide (l<1-((bias E:Nat):Int))):=by
 have hb:=endN_le (P:=P) (b:=bias E) (m:=m) hl (decide (q.num<0)) (decide ((rdT P (bias E) l q).den=1)) (cmpQ ((rdT P (bias E) l q-(rdN P (bias E) l q:Nat))*2) 1);rw [←hN] at hb;have hk:rdK P (bias E) l=2-((bias E:Nat):Int)-P+(rdF (bias E) l:Nat):=rfl;have e:roundR E P (bias E) m q l=(wordN E P (decide (q.num<0)) N (rdF (bias E) l),endF (decide ((rdT P (bias E) l q).den=1)) (decide (l<1-((bias E:Nat):Int)))):=by
  unfold roundR endR;rw [←hN,if_pos (by rw [←hk];exact hg)]
 rw [e];refine ⟨?_,rfl⟩;rw [wordN_val hP _ hlt hb.1 (by rcases rdN_ge (b:=bias E) hP hl with h | h;exact .inl h;exact .inr (Nat.le_trans h hb.2)),hk]

theorem Box.c9 {w:World} {b:Nat} {x0 x1 x2 x3 x4 x5 x6 x7 x8:Value} {t:TypeId} (h:Box w b #[x0,x1,x2,x3,x4,x5,x6,x7,x8] t) :
  w.cell? ⟨b,0,none⟩=some x0∧w.cell? ⟨b,1,none⟩=some x1∧w.cell? ⟨b,2,none⟩=some x2∧w.cell? ⟨b,3,none⟩=some x3∧w.cell? ⟨b,4,none⟩=some x4∧w.cell? ⟨b,5,none⟩=some x5∧w.cell? ⟨b,6,none⟩=some x6∧w.cell? ⟨b,7,none⟩=some x7∧w.cell? ⟨b,8,none⟩=some x8 :=
 ⟨h.cell 0,h.cell 1,h.cell 2,h.cell 3,h.cell 4,h.cell 5,h.cell 6,h.cell 7,h.cell 8⟩
theorem kind_fin {E P n:Nat} (h:wf E P n≠2^E-1):wkind E P n≤2:=by unfold wkind;rw [if_neg h];split<;>omega
theorem fin_wf {E P n:Nat} (h:wkind E P n≤2):wf E P n≠2^E-1:=by
 intro e
 unfold wkind at h;rw [if_pos e] at h
 split at h
 ·omega
 ·split at h<;>omega
theorem wvalK_fin {E P b n:Nat} (h:wkind E P n≤2):wvalK E P b n=wval E P b n:=by
 unfold wvalK
 by_cases h2:wkind E P n=2
 ·rw [if_pos h2]
 ·rw [if_neg h2,if_neg (by omega),if_neg (by omega)];have hk:wf E P n=0∧wr P n=0:=by
   have hne:=fin_wf h;unfold wkind at h2;rw [if_neg hne] at h2
   by_cases h3:wf E P n=0∧wr P n=0
   ·exact h3
   ·rw [if_neg h3] at h2;exact absurd rfl h2
  unfold wval wfr;rw [if_pos hk.1,hk.2]
  grind
theorem value_fin {E P n:Nat} (hn:n<2^(E+P)) (h:wkind E P n≤2):valueR E P n=(wval E P (bias E) n,0):=by
 unfold valueR;rw [if_neg (fun k=>k hn),if_neg (by omega),wvalK_fin h]
theorem grQ_nonneg (P b:Nat):0≤grQ P b:=by unfold grQ;exact steps_nonneg _ _
theorem kind_of_le {E P n:Nat} (hE:2≤E) (hP:1≤P) (h:absQ (wval E P (bias E) n)≤grQ P (bias E)):wkind E P n≤2:=by
 refine kind_fin (fun e => ?_);rw [wval_abs,e] at h;have h2:=two_bias (E:=E) (by omega);have hp:0<2^(P-1):=Nat.pow_pos (by decide);have hfr:2^(P-1)≤wfr E P n:=by unfold wfr;rw [if_neg (by rw [e];omega)];omega
 have h1:max (2^E-1) 1-1=2*bias E:=by omega
 rw [h1] at h;have h3:(2:Rat)^(((P-1:Nat):Int)+(2-(bias E:Int)-P+((2*bias E:Nat):Int)))≤grQ P (bias E):=by
  refine Rat.le_trans ?_ h;rw [p2_add,p2_nat]
  exact Rat.mul_le_mul_of_nonneg_right (by rw [Rat.natCast_le_natCast];exact hfr) (Rat.le_of_lt (p2_pos _))
 have h4:=grQ_lt P (bias E);have h5:((P-1:Nat):Int)+(2-(bias E:Int)-P+((2*bias E:Nat):Int))=(bias E:Int)+1:=by omega
 rw [h5] at h3
 exact absurd h4 (Rat.not_lt.2 h3)
theorem wordN_lt {E P:Nat} (h1:1≤E+P) (neg:Bool) {n f:Nat} (h:n+f*2^(P-1)<2^(E+P-1)):wordN E P neg n f<2^(E+P):=by
 rw [wordN_eq neg h];have h3:2^(E+P)=2*2^(E+P-1):=by rw [←Nat.pow_succ'];congr 1;omega
 cases neg
 ·simp;omega
 ·simp;omega
theorem sgb_word (E P:Nat) (s:Bool):sgb E P s=wordN E P s 0 0:=by unfold wordN;simp
theorem sgb_ok {E P:Nat} (hE:2≤E) (hP:1≤P) (s:Bool):sgb E P s<2^(E+P)∧valueR E P (sgb E P s)=(0,0):=by
 have h0:0+0*2^(P-1)<2^(E+P-1):=by rw [Nat.zero_mul];exact Nat.pow_pos (by decide)
 have hv:wval E P (bias E) (sgb E P s)=0:=by
  rw [sgb_word,wordN_val hP s h0 (Nat.zero_le _) (.inl rfl)]
  grind
 have hlt:sgb E P s<2^(E+P):=by rw [sgb_word];exact wordN_lt (by omega) s h0
 refine ⟨hlt,?_⟩;rw [value_fin hlt (kind_of_le hE hP (by rw [hv,absQ_nonneg Rat.le_refl];exact grQ_nonneg _ _)),hv]
theorem wvalK_sm {E P n:Nat} (hF:Fmt E P) (h:wkind E P n≤2):SmQ 5000 (wvalK E P (bias E) n):=by
 have hE:2≤E∧E≤11:=by unfold Fmt at hF;omega
 have hP:2≤P∧P≤113:=by unfold Fmt at hF;omega
 rw [wvalK_fin h];have h1:=wfr_lt (E:=E) (P:=P) (n:=n) (by omega);have hf:wf E P n<2^E:=Nat.mod_lt _ (Nat.pow_pos (by decide));have h2:2^E≤2048:=Nat.pow_le_pow_right (n:=2) (j:=11) (by decide) hE.2;have hb:bias E≤1023:=by
  have:2^(E-1)≤1024:=Nat.pow_le_pow_right (n:=2) (j:=10) (by decide) (by omega)
  unfold bias;omega
 have s1:SmQ 113 ((wfr E P n:Nat):Rat):=SmQ.nat (by decide) (Nat.lt_of_lt_of_le h1 (Nat.pow_le_pow_right (by decide) hP.2));have s2:=s1.mul_p2 (2-(bias E:Int)-P+((max (wf E P n) 1-1:Nat):Int)) 3500 (by omega);have s3:SmQ 5000 (((wfr E P n:Nat):Rat)*(2:Rat)^(2-(bias E:Int)-P+((max (wf E P n) 1-1:Nat):Int))):=s2.mono (by decide);unfold wval
 split
 ·have:=s3.neg
  rwa [show -(((wfr E P n:Nat):Rat)*(2:Rat)^(2-(bias E:Int)-P+((max (wf E P n) 1-1:Nat):Int))) = -1*(((wfr E P n:Nat):Rat)*(2:Rat)^(2-(bias E:Int)-P+((max (wf E P n) 1-1:Nat):Int))) from by grind] at this
 ·rwa [Rat.one_mul]
theorem SmQ.zero (K:Nat) (h:0<K):SmQ K 0:=SmQ.nat (n:=0) h (Nat.pow_pos (by decide))

theorem SmQ.mul {K L:Nat} {q r:Rat} (h:SmQ K q) (k:SmQ L r):SmQ (K+L) (q*r):=by
 have e1:q.num.natAbs*r.num.natAbs<2^(K+L):=by
  rw [Nat.pow_add];exact Nat.mul_lt_mul_of_lt_of_le h.1 (Nat.le_of_lt k.1) (Nat.pow_pos (by decide))
 have e2:q.den*r.den<2^(K+L):=by
  rw [Nat.pow_add];exact Nat.mul_lt_mul_of_lt_of_le h.2 (Nat.le_of_lt k.2) (Nat.pow_pos (by decide))
 rw [Rat.mul_def']
 exact SmQ.mk _ _ (Nat.mul_ne_zero q.den_nz r.den_nz) (by rw [Int.natAbs_mul];exact e1) e2
theorem SmQ.div {K L:Nat} {q r:Rat} (h:SmQ K q) (k:SmQ L r) (hr:r≠0):SmQ (K+L) (q/r):=by
 have e1:q.num.natAbs*r.den<2^(K+L):=by
  rw [Nat.pow_add];exact Nat.mul_lt_mul_of_lt_of_le h.1 (Nat.le_of_lt k.2) (Nat.pow_pos (by decide))
 have e2:q.den*r.num.natAbs<2^(K+L):=by
  rw [Nat.pow_add];exact Nat.mul_lt_mul_of_lt_of_le h.2 (Nat.le_of_lt k.1) (Nat.pow_pos (by decide))
 have h1:r.num.natAbs≠0:=fun e=>hr (Rat.num_eq_zero.1 (by omega));rw [←quo_value q r hr];unfold SmQ Sm;rw [mkq_natAbs _ _ _ (Nat.mul_ne_zero q.den_nz h1),mkq_den _ _ _ (Nat.mul_ne_zero q.den_nz h1)]
 exact ⟨Nat.lt_of_le_of_lt (Nat.div_le_self _ _) e1,Nat.lt_of_le_of_lt (Nat.div_le_self _ _) e2⟩
theorem SmQ.pos {K:Nat} {q:Rat} (h:SmQ K q):0<K:=by
 rcases Nat.eq_zero_or_pos K with e | e
 ·subst e;have h1:q.den<2^0:=h.2
  have:=q.den_pos
  omega
 ·exact e
theorem SmQ.floor {K:Nat} {q:Rat} (h:SmQ K q):SmQ K ((q.floor:Int):Rat):=by
 refine SmQ.int h.pos ?_;rw [Rat.floor_def]
 exact Nat.lt_of_le_of_lt (Int.natAbs_ediv_le_natAbs _ _) h.1
theorem kind_zero {E P b n:Nat} (h:wkind E P n≤2):wkind E P n=1↔wvalK E P b n=0:=by
 have hne:=fin_wf h
 constructor
 ·intro h1
  unfold wvalK;rw [if_neg (by omega),if_neg (by omega),if_neg (by omega)]
 ·intro h0
  rw [wvalK_fin h] at h0;have h2:absQ (wval E P b n)=0:=by rw [h0];exact absQ_nonneg Rat.le_refl
  rw [wval_abs] at h2;have h3:wfr E P n=0:=by
   rcases Nat.eq_zero_or_pos (wfr E P n) with e | e
   ·exact e
   ·exfalso
    have h4:(0:Rat)<((wfr E P n:Nat):Rat):=by exact_mod_cast e
    have h5:=Rat.mul_pos h4 (p2_pos (2-(b:Int)-P+((max (wf E P n) 1-1:Nat):Int)))
    grind
  have hp:0<2^(P-1):=Nat.pow_pos (by decide);unfold wfr at h3;unfold wkind;rw [if_neg hne]
  by_cases hf:wf E P n=0
  ·rw [if_pos hf] at h3;rw [if_pos ⟨hf,h3⟩]
  ·rw [if_neg hf] at h3;omega
theorem has_int {P b:Nat} {q:Rat} {l:Int} (hl:IsLog (absQ q) l) (hv:IsVal P b q):(q*(2:Rat)^(-(max l (1-(b:Int))-P+1))).den=1:=by
 obtain ⟨N,h1,h2⟩:=isVal_step hl hv;have hk:rdK P b l=max l (1-(b:Int))-P+1:=by unfold rdK rdF;omega
 rw [←hk];have e:absQ q*(2:Rat)^(-(rdK P b l))=(N:Rat):=h1;rw [absQ_eq] at e
 split at e
 ·have:q*(2:Rat)^(-(rdK P b l))=((-(N:Int):Int):Rat):=by
   have e2:q*(2:Rat)^(-(rdK P b l)) = -(N:Rat):=by grind
   rw [e2,Rat.intCast_neg];rfl
  rw [this];rfl
 ·rw [e];rfl
theorem cmpQ_le {q r:Rat} (h:q≤r):cmpQ q r≤0:=by
 have:¬ r<q:=Rat.not_lt.2 h
 unfold cmpQ
 split
 ·decide
 ·simp
theorem grQ_sm {P b:Nat} (hP:2≤P∧P≤113) (hb:b≤1023):SmQ 16000 (grQ P b):=by
 have h1:2^P-1<2^113:=by
  have h2:2^P≤2^113:=Nat.pow_le_pow_right (n:=2) (j:=113) (by decide) hP.2
  have:0<2^P:=Nat.pow_pos (by decide)
  omega
 have s1:SmQ 113 ((2^P-1:Nat):Rat):=SmQ.nat (by decide) h1
 exact (s1.mul_p2 ((b:Int)-P+1) 2000 (by omega)).mono (by decide)
theorem ltle {a b c:Rat} (h:a<b) (k:b≤c):a<c:=by grind
theorem lelt {a b c:Rat} (h:a≤b) (k:b<c):a<c:=by grind
theorem isVal_of_int {P b:Nat} {q:Rat} {l:Int} (hl:IsLog (absQ q) l) (hd:(q*(2:Rat)^(-(max l (1-(b:Int))-P+1))).den=1):IsVal P b q:=by
 obtain ⟨k,hk⟩:∃ k,k=max l (1-(b:Int))-P+1:=⟨_,rfl⟩;rw [←hk] at hd;obtain ⟨z,hz⟩:∃ z:Int,q*(2:Rat)^(-k)=(z:Rat):=⟨_,(den_one hd).symm⟩;have e:q=(z:Rat)*(2:Rat)^k:=by
  rw [←hz,Rat.mul_assoc,p2_cancel,Rat.mul_one]
 have ea:absQ q=((z.natAbs:Nat):Rat)*(2:Rat)^k:=by rw [e,absQ_int]
 refine ⟨z.natAbs,k,by omega,?_,ea⟩;have h1:absQ q<(2:Rat)^(l+1):=hl.2;have h2:(2:Rat)^(l+1)≤(2:Rat)^((P:Int)+k):=p2_mono (by omega);rw [ea] at h1;rw [p2_add (P:Int) k] at h2;have h3:((z.natAbs:Nat):Rat)*(2:Rat)^k<(2:Rat)^(P:Int)*(2:Rat)^k:=ltle h1 h2;rw [Rat.mul_lt_mul_right (p2_pos k),p2_nat,Rat.natCast_lt_natCast] at h3
 exact h3
theorem isVal_iff_int {P b:Nat} {q:Rat} {l:Int} (hl:IsLog (absQ q) l):(q*(2:Rat)^(-(max l (1-(b:Int))-P+1))).den=1↔IsVal P b q:=⟨isVal_of_int hl,has_int hl⟩
theorem cmpQ_iff {q r:Rat}:cmpQ q r≤0↔q≤r:=by
 constructor
 ·intro h
  unfold cmpQ at h
  split at h
  ·rename_i k;exact Rat.le_of_lt k
  ·split at h
   ·omega
   ·rename_i k;exact Rat.not_lt.1 k
 ·exact cmpQ_le
theorem bias_pos {E:Nat} (hE:2≤E):1≤bias E:=by
 have h2:=two_bias (E:=E) (by omega)
 have:2^2≤2^E:=Nat.pow_le_pow_right (by decide) hE
 omega
theorem fmt_bounds {E P:Nat} (hF:Fmt E P):(2≤E∧E≤11)∧(2≤P∧P≤113)∧bias E≤1023∧E+P≤124∧1≤bias E:=by
 have hE:2≤E∧E≤11:=by unfold Fmt at hF;omega
 have hP:2≤P∧P≤113:=by unfold Fmt at hF;omega
 have hb:bias E≤1023:=by
  have:2^(E-1)≤1024:=Nat.pow_le_pow_right (n:=2) (j:=10) (by decide) (by omega)
  unfold bias;omega
 exact ⟨hE,hP,hb,by omega,bias_pos hE.1⟩
def fmtZ (E P:Int):Int:=if Fmt E P then 0 else 2
def rankZ (E P n:Nat):Int:=if wn E P n=true then -((n%2^(E+P-1):Nat):Int) else ((n%2^(E+P-1):Nat):Int)
theorem rankZ_lt {E P n:Nat} (h:E+P≤124):(rankZ E P n).natAbs<2^124:=by
 have h1:n%2^(E+P-1)<2^(E+P-1):=Nat.mod_lt _ (Nat.pow_pos (by decide));have h2:2^(E+P-1)≤2^124:=Nat.pow_le_pow_right (by decide) (by omega);unfold rankZ;generalize n%2^(E+P-1)=t at *
 generalize 2^(E+P-1)=s at *
 split<;>omega
theorem rank_c (E P m b n:Nat) (w:World) (hF:Fmt E P) (hb:b≤1023) (hn:W128 n) :
  Calls Tryz.prog 97 #[.agg #[.int .i64 (E:Nat),.int .i64 (P:Nat),.int .i64 (m:Nat),.int .i64 (b:Nat)],Word n] w fun e w'=>∃ v,e=.returned v∧NumV w' v ((rankZ E P n:Int):Rat)∧Ext w w':=by
 obtain ⟨hE,hP,_,hEP,_⟩:=fmt_bounds hF;have hw2:IntKind.i64.wrap ((E:Int)+P)=(E:Int)+P:=IntWalk.i64_in _ (by omega);have hw3:IntKind.i64.wrap ((E:Int)+P-1)=(E:Int)+P-1:=IntWalk.i64_in _ (by omega);have hv2:wrap64 ((E:Int)+P)=(E:Int)+P:=w64r _ (by omega);have hv3:wrap64 ((E:Int)+P-1)=(E:Int)+P-1:=w64r _ (by omega);obtain ⟨i0,i1,ei⟩:=Word.shape n;obtain ⟨N,hN⟩:∃ N,N=n%2^(E+P-1):=⟨_,rfl⟩;have hN8:W128 N:=by rw [hN];exact Nat.lt_of_le_of_lt (Nat.mod_le _ _) hn
 obtain ⟨r0,r1,er⟩:=Word.shape N;have CLO:Hid (∀ w,Calls Tryz.prog 186 #[.agg #[.int .u64 i0,.int .u64 i1],.int .i64 ((E:Int)+P-1)] w fun e w'=>e=.returned (.agg #[.int .u64 r0,.int .u64 r1])∧Ext w w'):=hid fun w=>by
  have:=low_w n (E+P-1) w hn (by omega)
  rw [←hN,er,ei,show (((E+P-1:Nat):Nat):Int)=(E:Int)+P-1 by omega] at this
  exact this
 have CWH:Hid (∀ w,Calls Tryz.prog 188 #[.agg #[.int .u64 r0,.int .u64 r1]] w fun e w'=>∃ v,e=.returned v∧NumV w' v ((N:Nat):Rat)∧Ext w w'):=hid fun w=>by
  have:=fwhole_c N w hN8
  rwa [er] at this
 have CL:Hid (∀ w,Calls Tryz.prog 96 #[.agg #[.int .i64 (E:Nat),.int .i64 (P:Nat),.int .i64 (m:Nat),.int .i64 (b:Nat)],.agg #[.int .u64 i0,.int .u64 i1]] w (LookPost (wkind E P n) (wn E P n) (wvalK E P b n) w)):=hid fun w=>by
  rw [←ei];exact look_c E P m b n w hF hb hn
 have CNE:Hid (∀ v w,NumV w v ((N:Nat):Rat)→_):=hid fun v w h=>neg_c v _ w h;obtain ⟨q,hq⟩:∃ q:Rat,q=((rankZ E P n:Int):Rat):=⟨_,rfl⟩;have HQ:Hid (q=if wn E P n=true then -((N:Nat):Rat) else ((N:Nat):Rat)):=hid (by
  rw [hq,hN];unfold rankZ
  split
  ·rw [Rat.intCast_neg];rfl
  ·rfl)
 rw [ei,←hq];clear ei hN hN8 er hn hF hE hP hEP hq;obtain ⟨W0,hW0,g0,hz0,B_M,B_A,B_Z⟩:=pro3s w #[.int .i64 (E:Nat),.int .i64 (P:Nat),.int .i64 (m:Nat),.int .i64 (b:Nat)] #[.int .u64 i0,.int .u64 i1] #[.bool false,.slice none 0 0,.slice none 0 0] 96 29 40;have HE:=hid g0;have HB_M:=hid B_M;have HB_A:=hid B_A;have HB_Z:=hid B_Z;clear g0 B_M B_A B_Z 
 go_enter Tryz.func97,Tryz.ntmps97
 go_upto_region 1 with (fail)
 rw [←hW0];clear hW0;obtain ⟨J1,J2,J3,J4⟩:=HB_M.o.c4;obtain ⟨J5,J6⟩:=HB_A.o.c2;obtain ⟨J7,J8,J9⟩:=HB_Z.o.c3;go_wp2_with fail;clear J1 J2 J3 J4 J5 J6 J7 J8 J9;refine (CLO.o _).mono ?_;rintro e w1 ⟨rfl,g1⟩;have hz_w1:=g1.size;replace HE:=hid (HE.o.trans g1);replace HB_M:=hid (HB_M.o.ext g1);replace HB_A:=hid (HB_A.o.ext g1);replace HB_Z:=hid (HB_Z.o.ext g1);obtain ⟨J10,J11,J12,J13⟩:=HB_M.o.c4;obtain ⟨J14,J15⟩:=HB_A.o.c2;obtain ⟨J16,J17,J18⟩:=HB_Z.o.c3;go_wp2_with fail;clear J10 J11 J12 J13 J14 J15 J16 J17 J18;refine (CWH.o _).mono ?_;rintro e w2 ⟨v1,rfl,k1,g2⟩;have hz_w2:=g2.size;replace HE:=hid (HE.o.trans g2);replace HB_M:=hid (HB_M.o.ext g2);replace HB_A:=hid (HB_A.o.ext g2);replace HB_Z:=hid (HB_Z.o.ext g2);obtain ⟨ngq19,aq19,nq19,cq19,aq19',nq19',cq19',rfl⟩:=k1.shape;have gA:=Ext.alloc w2 (.cells #[.bool ngq19,.slice aq19 nq19 cq19,.slice aq19' nq19' cq19'] 40);obtain ⟨J20,J21,J22,J23⟩:=(HB_M.o.ext gA).c4;obtain ⟨J24,J25⟩:=(HB_A.o.ext gA).c2;obtain ⟨J26,J27,J28⟩:=(HB_Z.o.ext gA).c3;go_wp2_with fail;clear gA J20 J21 J22 J23 J24 J25 J26 J27 J28;obtain ⟨W3,hW3,g3,hy3,B_N⟩:=pro1 w2 #[.bool ngq19,.slice aq19 nq19 cq19,.slice aq19' nq19' cq19'] 40;rw [←hW3];clear hW3;have hz_W3:=g3.size;replace HE:=hid (HE.o.trans g3);replace HB_M:=hid (HB_M.o.ext g3);replace HB_A:=hid (HB_A.o.ext g3);replace HB_Z:=hid (HB_Z.o.ext g3);replace k1:=k1.ext g3;have HB_N:=hid B_N;clear B_N;generalize wkind E P n=kd at *
 generalize wn E P n=sg at *
 generalize wvalK E P b n=qv at *
 refine (CL.o _).mono ?_;rintro e w4 ⟨v2,rfl,⟨ng,a,k,c,a',k',c',rfl,kv⟩,g4⟩;have hz_w4:=g4.size;replace HE:=hid (HE.o.trans g4);replace HB_M:=hid (HB_M.o.ext g4);replace HB_A:=hid (HB_A.o.ext g4);replace HB_Z:=hid (HB_Z.o.ext g4);replace HB_N:=hid (HB_N.o.ext g4);replace k1:=k1.ext g4;have hfd:∀ W,(Instr.field 124 (.agg #[.int .i64 kd,.bool sg,.bool ng,.slice a k c,.slice a' k' c']) 1).run Tryz.prog W=.ok (.bool sg) W:=fun W=>by kernel_rfl
 by_cases hs:sg=true
 ·subst hs;have HQ2:Hid (q = -((N:Nat):Rat)):=hid (by rw [HQ.o];rfl);clear HQ kv;obtain ⟨J29,J30,J31,J32⟩:=HB_M.o.c4;obtain ⟨J33,J34⟩:=HB_A.o.c2;obtain ⟨J35,J36,J37⟩:=HB_Z.o.c3;obtain ⟨J38,J39,J40⟩:=HB_N.o.c3;go_wp2_with fail;clear J29 J30 J31 J32 J33 J34 J35 J36 J37 J38 J39 J40;refine (CNE.o _ _ k1).mono ?_;rintro e w5 ⟨v3,rfl,k3,g5⟩;have hz_w5:=g5.size;replace HE:=hid (HE.o.trans g5);replace HB_M:=hid (HB_M.o.ext g5);replace HB_A:=hid (HB_A.o.ext g5);replace HB_Z:=hid (HB_Z.o.ext g5);replace HB_N:=hid (HB_N.o.ext g5);replace k1:=k1.ext g5;obtain ⟨ng3,a3,n3,c3,a3',n3',c3',rfl⟩:=k3.shape;obtain ⟨J41,J42,J43,J44⟩:=HB_M.o.c4;obtain ⟨J45,J46⟩:=HB_A.o.c2;obtain ⟨J47,J48,J49⟩:=HB_Z.o.c3;obtain ⟨J50,J51,J52⟩:=HB_N.o.c3;obtain ⟨U53,U54,U55⟩:=HB_Z.o.f3;go_wp2_with fail;clear J41 J42 J43 J44 J45 J46 J47 J48 J49 J50 J51 J52 U53 U54 U55;obtain ⟨W6,hW6,g6,q6,B6,hy6,ho6⟩:=sto3 HE.o (by omega) HB_Z.o (by decide) (.bool ng3) (.slice a3 n3 c3) (.slice a3' n3' c3');rw [←hW6];clear hW6;replace HE:=hid g6;replace HB_M:=hid (ho6 _ _ _ (by omega) HB_M.o);replace HB_A:=hid (ho6 _ _ _ (by omega) HB_A.o);replace HB_N:=hid (ho6 _ _ _ (by omega) HB_N.o);replace HB_Z:=hid B6;replace k1:=k1.keep q6;replace k3:=k3.keep q6;rw [HQ2.o];obtain ⟨J56,J57,J58⟩:=HB_Z.o.c3;refine bodyPost_ret (v:=.agg #[.bool ng3,.slice a3 n3 c3,.slice a3' n3' c3']) (by simp [results,Tryz.results97,go_sem,J56,J57,J58]) rfl ⟨_,rfl,k3,HE.o⟩
 ·obtain rfl:sg=false:=by cases sg;rfl;exact absurd rfl hs
  have HQ2:Hid (q=((N:Nat):Rat)):=hid (by rw [HQ.o];rfl);clear HQ hs kv;obtain ⟨J29,J30,J31⟩:=HB_N.o.c3;obtain ⟨J32,J33,J34⟩:=HB_Z.o.c3;obtain ⟨U35,U36,U37⟩:=HB_Z.o.f3;go_wp2_with fail;clear J29 J30 J31 J32 J33 J34 U35 U36 U37;obtain ⟨W5,hW5,g5,q5,B5,hy5,ho5⟩:=sto3 HE.o (by omega) HB_Z.o (by decide) (.bool ngq19) (.slice aq19 nq19 cq19) (.slice aq19' nq19' cq19');rw [←hW5];clear hW5;replace HE:=hid g5;replace HB_M:=hid (ho5 _ _ _ (by omega) HB_M.o);replace HB_A:=hid (ho5 _ _ _ (by omega) HB_A.o);replace HB_N:=hid (ho5 _ _ _ (by omega) HB_N.o);replace HB_Z:=hid B5;replace k1:=k1.keep q5;rw [HQ2.o];obtain ⟨J38,J39,J40⟩:=HB_Z.o.c3;refine bodyPost_ret (v:=.agg #[.bool ngq19,.slice aq19 nq19 cq19,.slice aq19' nq19' cq19']) (by simp [results,Tryz.results97,go_sem,J38,J39,J40]) rfl ⟨_,rfl,k1,HE.o⟩
theorem end_fits {E P n f:Nat} (hE:1≤E) (hP:1≤P) (hn:n≤2^P) (hf:f=0∨2^(P-1)≤n) (hg:((n:Nat):Rat)*(2:Rat)^(2-(bias E:Int)-P+(f:Nat))≤grQ P (bias E)):n+f*2^(P-1)<2^(E+P-1):=by
 rcases Nat.lt_or_ge n (2^P) with h | h
 ·exact rd_fits hE hP h hf hg
 ·obtain rfl:n=2^P:=by omega
  have h1:(2:Rat)^((P:Int)+(2-(bias E:Int)-P+(f:Nat)))≤grQ P (bias E):=by rw [p2_add,p2_nat];exact hg
  have h2:=grQ_lt P (bias E);have h3:(2:Rat)^((P:Int)+(2-(bias E:Int)-P+(f:Nat)))<(2:Rat)^((bias E:Int)+1):=by grind
  rw [p2_lt_iff] at h3;have h4:=two_bias hE;have h5:2^P=2*2^(P-1):=by rw [←Nat.pow_succ'];congr 1;omega
  rw [pow_EP hP,h4,h5];have h6:f+2≤2*bias E:=by omega
  have h7:(f+2)*2^(P-1)≤2*bias E*2^(P-1):=Nat.mul_le_mul_right _ h6;have h8:2^(P-1)*(2*bias E+2)=2*bias E*2^(P-1)+2*2^(P-1):=by rw [Nat.mul_add,Nat.mul_comm,Nat.mul_comm (2^(P-1)) 2]
  have h9:(f+2)*2^(P-1)=f*2^(P-1)+2*2^(P-1):=by rw [Nat.add_mul]
  have hp:0<2^(P-1):=Nat.pow_pos (by decide)
  omega
theorem inf_word (E P:Nat) (s:Bool):infw E P s=wordN E P s 0 (2^E-1):=by unfold infw wordN;rw [Nat.zero_add]
theorem inf_ok {E P:Nat} (hP:1≤P) (s:Bool):infw E P s<2^(E+P)∧valueR E P (infw E P s)=(0,4):=by
 have hp:0<2^(P-1):=Nat.pow_pos (by decide);have he:0<2^E:=Nat.pow_pos (by decide);have h0:0+(2^E-1)*2^(P-1)<2^(E+P-1):=by
  rw [Nat.zero_add,pow_EP hP,Nat.mul_comm (2^(P-1))]
  exact Nat.mul_lt_mul_of_pos_right (by omega) hp
 have hlt:infw E P s<2^(E+P):=by rw [inf_word];exact wordN_lt (by omega) s h0
 refine ⟨hlt,?_⟩;have e1:wf E P (infw E P s)=2^E-1:=by rw [inf_word,wordN_wf hP s h0,Nat.zero_add,Nat.mul_div_cancel _ hp]
 have e2:wr P (infw E P s)=0:=by rw [inf_word,wordN_wr hP s h0,Nat.zero_mod]
 have e3:wkind E P (infw E P s)=3:=by unfold wkind;rw [if_pos e1,if_pos e2]
 unfold valueR;rw [if_neg (fun k=>k hlt),if_pos (by rw [e3];decide)]
theorem great_fits {E P:Nat} (hE:2≤E) (hP:1≤P):2^P-1+(2*bias E-1)*2^(P-1)<2^(E+P-1):=by
 have h4:=two_bias (E:=E) (by omega);have h5:2^P=2*2^(P-1):=by rw [←Nat.pow_succ'];congr 1;omega
 have hb:1≤bias E:=by
  have:2^2≤2^E:=Nat.pow_le_pow_right (by decide) hE
  omega
 rw [pow_EP hP,h4,h5];obtain ⟨c,hc⟩:∃ c,bias E=c+1:=⟨bias E-1,by omega⟩;rw [hc,show 2*(c+1)-1=2*c+1 by omega];have hp:0<2^(P-1):=Nat.pow_pos (by decide);generalize 2^(P-1)=t at *
 have e1:(2*c+1)*t=2*(c*t)+t:=by rw [Nat.add_mul,Nat.mul_assoc,Nat.one_mul]
 have e2:t*(2*(c+1)+2)=2*(c*t)+4*t:=by
  rw [Nat.mul_add,Nat.mul_comm t (2*(c+1)),Nat.mul_assoc,Nat.add_mul];omega
 omega
theorem roundR_lt {E P m:Nat} {q:Rat} {l:Int} (hE:2≤E) (hP:1≤P) (hl:IsLog (absQ q) l):(roundR E P (bias E) m q l).1<2^(E+P):=by
 have hN:=endN_le (P:=P) (b:=bias E) (m:=m) hl (decide (q.num<0)) (decide ((rdT P (bias E) l q).den=1)) (cmpQ ((rdT P (bias E) l q-(rdN P (bias E) l q:Nat))*2) 1);have hge:rdF (bias E) l=0∨2^(P-1)≤endN m (decide (q.num<0)) (rdN P (bias E) l q) (decide ((rdT P (bias E) l q).den=1)) (cmpQ ((rdT P (bias E) l q-(rdN P (bias E) l q:Nat))*2) 1):=by
  rcases rdN_ge (b:=bias E) hP hl with h | h
  ·exact .inl h
  ·exact .inr (Nat.le_trans h hN.2)
 unfold roundR endR
 split
 ·rename_i hg
  exact wordN_lt (by omega) _ (end_fits (by omega) hP hN.1 hge hg)
 ·split
  ·exact wordN_lt (by omega) _ (great_fits hE hP)
  ·exact (inf_ok hP _).1
theorem rnd_lt {E P m:Nat} {q:Rat} {l:Int} (hE:2≤E) (hP:1≤P) (hl:q≠0→IsLog (absQ q) l):(rnd E P (bias E) m q l).1<2^(E+P):=by
 unfold rnd
 split
 ·exact Nat.pow_pos (by decide)
 ·rename_i h
  exact roundR_lt hE hP (hl h)
def rankW (E P:Nat) (z:Int):Nat:=sgb E P (decide (z<0)) ||| z.natAbs
def mag (E P n:Nat):Nat:=n%2^(E+P-1)
theorem mag_lt (E P n:Nat):mag E P n<2^(E+P-1):=Nat.mod_lt _ (Nat.pow_pos (by decide))
theorem mag_parts {E P n:Nat} (hP:1≤P):wfr E P n+(max (wf E P n) 1-1)*2^(P-1)=mag E P n:=by
 have e3:mag E P n=wr P n+wf E P n*2^(P-1):=by
  unfold mag wr wf;rw [pow_EP hP,Nat.mod_mul,Nat.mul_comm]
 rw [e3];unfold wfr
 split
 ·rename_i h0;rw [h0];simp
 ·rename_i h0
  have:wf E P n=(max (wf E P n) 1-1)+1:=by omega
  conv=>rhs;rw [this,Nat.add_mul]
  omega
theorem wordN_mag {E P:Nat} (neg:Bool) {m:Nat} (h:m<2^(E+P-1)):wordN E P neg m 0=m+2^(E+P-1)*(if neg=true then 1 else 0):=by
 have:=wordN_eq (E:=E) (P:=P) neg (n:=m) (f:=0) (by omega)
 rw [this];omega
theorem word_split {E P n:Nat} (hEP:1≤E+P) (hn:n<2^(E+P)):n=wordN E P (wn E P n) (mag E P n) 0:=by
 rw [wordN_mag _ (mag_lt E P n)];have h2:2^(E+P)=2*2^(E+P-1):=by rw [←Nat.pow_succ'];congr 1;omega
 have hq:n/2^(E+P-1)<2:=by rw [Nat.div_lt_iff_lt_mul (Nat.pow_pos (by decide))];omega
 have hdm:=Nat.div_add_mod n (2^(E+P-1));unfold mag wn
 by_cases h0:n/2^(E+P-1)=0
 ·rw [h0] at hdm;simp only [h0]
  simp
  omega
 ·have h1:n/2^(E+P-1)=1:=Nat.le_antisymm (Nat.le_of_lt_succ hq) (Nat.pos_of_ne_zero h0);rw [h1] at hdm;simp only [h1]
  simp
  omega
theorem rankW_eq (E P:Nat) (z:Int):rankW E P z=wordN E P (decide (z<0)) z.natAbs 0:=by
 unfold rankW wordN;rw [Nat.zero_mul,Nat.add_zero]
theorem rankZ_mag (E P n:Nat):rankZ E P n=if wn E P n=true then -((mag E P n:Nat):Int) else ((mag E P n:Nat):Int):=rfl
theorem rankW_rankZ {E P n:Nat} (hEP:1≤E+P) (hn:n<2^(E+P)) (h0:rankZ E P n≠0):rankW E P (rankZ E P n)=n:=by
 have hs:=word_split hEP hn
 conv=>rhs;rw [hs]
 rw [rankW_eq];rw [rankZ_mag] at h0 ⊢
 cases h:wn E P n
 ·rw [h,if_neg (by decide)] at h0;rw [if_neg (by decide),decide_eq_false (by omega),Int.natAbs_natCast]
 ·rw [h,if_pos rfl] at h0;rw [if_pos rfl,decide_eq_true (by omega),Int.natAbs_neg,Int.natAbs_natCast]
theorem rankW_wn {E P:Nat} {z:Int} (h:z.natAbs<2^(E+P-1)):wn E P (rankW E P z)=decide (z<0):=by
 rw [rankW_eq];exact wordN_wn _ (by omega)
theorem rankW_mag {E P:Nat} {z:Int} (h:z.natAbs<2^(E+P-1)):mag E P (rankW E P z)=z.natAbs:=by
 rw [rankW_eq,wordN_mag _ h];unfold mag;rw [Nat.add_mul_mod_self_left,Nat.mod_eq_of_lt h]
theorem rankZ_rankW {E P:Nat} {z:Int} (h:z.natAbs<2^(E+P-1)):rankZ E P (rankW E P z)=z:=by
 rw [rankZ_mag,rankW_wn h,rankW_mag h]
 by_cases h0:z<0
 ·rw [decide_eq_true h0,if_pos rfl];omega
 ·rw [decide_eq_false h0,if_neg (by decide)];omega
theorem rankW_lt {E P:Nat} {z:Int} (hEP:1≤E+P) (h:z.natAbs<2^(E+P-1)):rankW E P z<2^(E+P):=by
 rw [rankW_eq];exact wordN_lt hEP _ (by omega)
/-! ### values -/
theorem wn_mag {E P n:Nat}:wn E P (mag E P n)=false:=by
 unfold wn mag;rw [Nat.div_eq_of_lt (Nat.mod_lt _ (Nat.pow_pos (by decide)))];rfl
theorem wr_mag {E P n:Nat} (hP:1≤P):wr P (mag E P n)=wr P n:=by
 unfold wr mag;rw [pow_EP hP,Nat.mod_mul_right_mod]
theorem wf_mag {E P n:Nat} (hP:1≤P):wf E P (mag E P n)=wf E P n:=by
 unfold wf mag;rw [pow_EP hP,Nat.mod_mul,Nat.add_mul_div_left _ _ (Nat.pow_pos (by decide)),Nat.div_eq_of_lt (Nat.mod_lt _ (Nat.pow_pos (by decide))),Nat.zero_add,Nat.mod_mod]
theorem wval_mag {E P b n:Nat} (hP:1≤P):wval E P b n=(if wn E P n=true then -1 else 1)*wval E P b (mag E P n):=by
 unfold wval;rw [wn_mag,if_neg Bool.false_ne_true,Rat.one_mul];unfold wfr;rw [wr_mag hP,wf_mag hP]
theorem mag_self {E P m:Nat} (h:m<2^(E+P-1)):mag E P m=m:=Nat.mod_eq_of_lt h
theorem wval_pos_eq {E P b m:Nat} (h:m<2^(E+P-1)):wval E P b m=((wfr E P m:Nat):Rat)*(2:Rat)^(2-(b:Int)-P+((max (wf E P m) 1-1:Nat):Int)):=by
 have e:wn E P m=false:=by
  have := @wn_mag E P m
  rwa [mag_self h] at this
 unfold wval;rw [e,if_neg (by decide),Rat.one_mul]
theorem wval_succ {E P b m:Nat} (hP:1≤P) (h:m+1<2^(E+P-1)):wval E P b m<wval E P b (m+1):=by
 have hp:=mag_parts (E:=E) (n:=m) hP;rw [mag_self (show m<2^(E+P-1) by omega)] at hp;have hN:=wfr_lt (E:=E) (n:=m) hP;have hf:max (wf E P m) 1-1=0∨2^(P-1)≤wfr E P m:=by
  by_cases h0:wf E P m=0
  ·left;omega
  ·right;unfold wfr;rw [if_neg h0];omega
 have e1:wordN E P false (wfr E P m+1) (max (wf E P m) 1-1)=m+1:=by
  rw [wordN_eq false (by omega),if_neg (by decide)];omega
 have e2:=wordN_val (E:=E) (b:=b) hP false (n:=wfr E P m+1) (f:=max (wf E P m) 1-1) (by omega) (by omega) (by omega);rw [e1,if_neg (by decide),Rat.one_mul] at e2;rw [wval_pos_eq (show m<2^(E+P-1) by omega),e2,Rat.mul_lt_mul_right (p2_pos _),Rat.natCast_lt_natCast]
 omega
theorem wval_lt {E P b:Nat} (hP:1≤P):∀ (d m:Nat),m+d+1<2^(E+P-1)→wval E P b m<wval E P b (m+d+1)
 | 0,m,h=>wval_succ hP h
 | d+1,m,h=>by
  have h1:=wval_lt (E:=E) (P:=P) (b:=b) hP d m (by omega);have h2:=wval_succ (E:=E) (P:=P) (b:=b) (m:=m+d+1) hP (by omega)
  exact ltle h1 (Rat.le_of_lt h2)
theorem wval_mono {E P b m m':Nat} (hP:1≤P) (h:m<m') (h':m'<2^(E+P-1)):wval E P b m<wval E P b m':=by
 have:=wval_lt (E:=E) (P:=P) (b:=b) hP (m'-m-1) m (by omega)
 rwa [show m+(m'-m-1)+1=m' by omega] at this
theorem wval_le_iff {E P b m m':Nat} (hP:1≤P) (hm:m<2^(E+P-1)) (hm':m'<2^(E+P-1)):wval E P b m≤wval E P b m'↔m≤m':=by
 constructor
 ·intro h
  rcases Nat.lt_or_ge m' m with h1 | h1
  ·exact absurd h (Rat.not_le.2 (wval_mono hP h1 hm))
  ·exact h1
 ·intro h
  rcases Nat.lt_or_ge m m' with h1 | h1
  ·exact Rat.le_of_lt (wval_mono hP h1 hm')
  ·rw [show m=m' by omega];exact Rat.le_refl
theorem wval_zero (E P b:Nat):wval E P b 0=0:=by
 unfold wval wfr wf wr
 simp
theorem wval_nonneg {E P b m:Nat} (hP:1≤P) (hm:m<2^(E+P-1)):0≤wval E P b m:=by
 have:=(wval_le_iff (b:=b) hP (Nat.lt_of_le_of_lt (Nat.zero_le _) hm) hm).2 (Nat.zero_le m)
 rwa [wval_zero] at this
theorem rank_le_iff {E P b i j:Nat} (hP:1≤P):wval E P b i≤wval E P b j↔rankZ E P i≤rankZ E P j:=by
 rw [wval_mag hP (n:=i),wval_mag hP (n:=j),rankZ_mag,rankZ_mag];have hi:=mag_lt E P i;have hj:=mag_lt E P j;have h1:=wval_le_iff (b:=b) hP hi hj;have h2:=wval_le_iff (b:=b) hP hj hi;have ni:=wval_nonneg (b:=b) hP hi;have nj:=wval_nonneg (b:=b) hP hj;have zi:=wval_le_iff (E:=E) (P:=P) (b:=b) hP hi (Nat.lt_of_le_of_lt (Nat.zero_le _) hi);have zj:=wval_le_iff (E:=E) (P:=P) (b:=b) hP hj (Nat.lt_of_le_of_lt (Nat.zero_le _) hj);rw [wval_zero] at zi zj;generalize wval E P b (mag E P i)=x at *
 generalize wval E P b (mag E P j)=y at *
 generalize mag E P i=m at *
 generalize mag E P j=k at *
 cases wn E P i<;>cases wn E P j<;>simp only [if_pos,Bool.false_eq_true,if_false,Rat.one_mul,Rat.neg_mul]
 ·rw [h1];omega
 ·constructor
  ·intro h
   have a1:x≤0:=by grind
   have a2:y≤0:=by grind
   have:=zi.1 a1
   have:=zj.1 a2
   omega
  ·intro h
   have a1:x≤0:=zi.2 (by omega);have a2:y≤0:=zj.2 (by omega)
   grind
 ·constructor
  ·intro h;omega
  ·intro h;grind
 ·constructor
  ·intro h
   have:y≤x:=by grind
   have:=h2.1 this
   omega
  ·intro h
   have:=h2.2 (by omega)
   grind
theorem or_low {P T N:Nat} (h:N<2^P):T*2^P ||| N=N+T*2^P:=by
 have:=Nat.two_pow_add_eq_or_of_lt h T
 rw [Nat.mul_comm T,←this];omega
theorem special_fits {E P N:Nat} (hP:1≤P) (h:N<2^(P-1)):N+(2^E-1)*2^(P-1)<2^(E+P-1):=by
 rw [pow_EP hP];have hE:0<2^E:=Nat.pow_pos (by decide);obtain ⟨c,hc⟩:∃ c,2^E=c+1:=⟨2^E-1,by omega⟩;rw [hc,Nat.add_sub_cancel,Nat.mul_comm,Nat.mul_add]
 omega
def infZ (E P:Nat):Nat:=(2^E-1)*2^(P-1)
theorem infZ_lt {E P:Nat} (hP:1≤P):infZ E P<2^(E+P-1):=by
 have:=special_fits (E:=E) (P:=P) (N:=0) hP (Nat.pow_pos (by decide))
 rwa [Nat.zero_add] at this
theorem infZ_pos {E P:Nat} (hE:1≤E):0<infZ E P:=by
 have h1:2^1≤2^E:=Nat.pow_le_pow_right (by decide) hE
 exact Nat.mul_pos (by omega) (Nat.pow_pos (by decide))
theorem infw_rankW {E P:Nat} (hE:1≤E) (s:Bool):infw E P s=rankW E P (if s=true then -((infZ E P:Nat):Int) else ((infZ E P:Nat):Int)):=by
 have h0:=infZ_pos (P:=P) hE;unfold rankW infw infZ at *
 cases s
 ·rw [if_neg (by decide),decide_eq_false (by omega),Int.natAbs_natCast]
 ·rw [if_pos rfl,decide_eq_true (by omega),Int.natAbs_neg,Int.natAbs_natCast]
theorem mag_eq {E P n:Nat} (hP:1≤P):mag E P n=wr P n+wf E P n*2^(P-1):=by
 unfold mag;rw [pow_EP hP,Nat.mod_mul,Nat.mul_comm]
 rfl
theorem kind_mag {E P n:Nat} (hP:1≤P):wkind E P n≤3↔mag E P n≤infZ E P:=by
 have hr:wr P n<2^(P-1):=Nat.mod_lt _ (Nat.pow_pos (by decide));have hf:wf E P n<2^E:=Nat.mod_lt _ (Nat.pow_pos (by decide));rw [mag_eq hP];unfold infZ wkind
 by_cases h:wf E P n=2^E-1
 ·rw [if_pos h,h]
  by_cases h2:wr P n=0
  ·rw [if_pos h2];omega
  ·rw [if_neg h2];split<;>omega
 ·rw [if_neg h];have h3:(wf E P n+1)*2^(P-1)≤(2^E-1)*2^(P-1):=Nat.mul_le_mul_right _ (by omega);rw [Nat.add_mul,Nat.one_mul] at h3
  split<;>omega
theorem kind_inf {E P n:Nat} (hP:1≤P):wkind E P n=3↔mag E P n=infZ E P:=by
 have hr:wr P n<2^(P-1):=Nat.mod_lt _ (Nat.pow_pos (by decide));have hf:wf E P n<2^E:=Nat.mod_lt _ (Nat.pow_pos (by decide));rw [mag_eq hP];unfold infZ wkind
 by_cases h:wf E P n=2^E-1
 ·rw [if_pos h,h]
  by_cases h2:wr P n=0
  ·rw [if_pos h2];omega
  ·rw [if_neg h2];split<;>omega
 ·rw [if_neg h];have h3:(wf E P n+1)*2^(P-1)≤(2^E-1)*2^(P-1):=Nat.mul_le_mul_right _ (by omega);rw [Nat.add_mul,Nat.one_mul] at h3
  split<;>omega
theorem rank_abs (E P n:Nat):(rankZ E P n).natAbs=mag E P n:=by
 rw [rankZ_mag];split<;>omega
def nextU (E P n:Nat):Nat:=if n=infw E P false then n else if rankZ E P n+1=0 then sgb E P true else rankW E P (rankZ E P n+1)
def nextD (E P n:Nat):Nat:=if n=infw E P true then n else rankW E P (rankZ E P n + -1)
theorem sgb_rank {E P:Nat} (s:Bool):rankZ E P (sgb E P s)=0:=by
 have h:mag E P (sgb E P s)=0:=by
  unfold mag sgb
  split
  ·exact Nat.mod_self _
  ·exact Nat.zero_mod _
 have:=rank_abs E P (sgb E P s)
 rw [h] at this
 omega
theorem sgb_lt {E P:Nat} (h:1≤E+P) (s:Bool):sgb E P s<2^(E+P):=by
 rw [sgb_word]
 exact wordN_lt h s (by
  have:0<2^(E+P-1):=Nat.pow_pos (by decide)
  omega)
theorem up_facts {E P n:Nat} (hE:1≤E) (hP:1≤P) (hn:n<2^(E+P)) (hk:wkind E P n≤3) (hi:n≠infw E P false) :
  nextU E P n<2^(E+P)∧rankZ E P (nextU E P n)=rankZ E P n+1∧wkind E P (nextU E P n)≤3∧(rankZ E P n+1).natAbs≤infZ E P:=by
 have hI:=infZ_lt (E:=E) hP;have hI0:=infZ_pos (P:=P) hE;have hm:=(kind_mag hP).1 hk;have ha:=rank_abs E P n;have hne:rankZ E P n≠((infZ E P:Nat):Int):=by
  intro h
  apply hi
  have h1:=rankW_rankZ (by omega) hn (by omega:rankZ E P n≠0);rw [h] at h1;rw [←h1,infw_rankW hE false,if_neg (by decide)]
 have hb:(rankZ E P n+1).natAbs≤infZ E P:=by omega
 unfold nextU;rw [if_neg hi]
 split
 ·rename_i h0
  refine ⟨sgb_lt (by omega) _,by rw [sgb_rank,h0],?_,hb⟩;rw [kind_mag hP,←rank_abs,sgb_rank]
  exact Nat.zero_le _
 ·have h1:=rankZ_rankW (E:=E) (P:=P) (z:=rankZ E P n+1) (by omega);refine ⟨rankW_lt (by omega) (by omega),h1,?_,hb⟩;rw [kind_mag hP,←rank_abs,h1];exact hb
theorem wval_inf {E P n:Nat} (hE:2≤E) (hP:1≤P) (hk:wkind E P n=3):wval E P (bias E) n=if wn E P n=true then -((2:Rat)^((bias E:Int)+1)) else (2:Rat)^((bias E:Int)+1):=by
 have h:wf E P n=2^E-1∧wr P n=0:=by
  unfold wkind at hk
  split at hk
  ·split at hk
   ·exact ⟨by assumption,by assumption⟩
   ·split at hk<;>cases hk
  ·split at hk<;>cases hk
 have h2:2^E=2*2^(E-1):=by rw [←Nat.pow_succ'];congr 1;omega
 have h3:2^1≤2^(E-1):=Nat.pow_le_pow_right (by decide) (by omega);have hv:((wfr E P n:Nat):Rat)*(2:Rat)^(2-((bias E:Nat):Int)-P+((max (wf E P n) 1-1:Nat):Int))=(2:Rat)^((bias E:Int)+1):=by
  unfold wfr;rw [h.1,h.2,if_neg (by omega),Nat.zero_add,←p2_nat,←p2_add]
  congr 1
  unfold bias
  omega
 unfold wval;rw [hv]
 split<;>grind
theorem inf_kind {E P:Nat} (hP:1≤P) (s:Bool):wkind E P (infw E P s)=3:=by
 have hp:0<2^(P-1):=Nat.pow_pos (by decide);have h0:0+(2^E-1)*2^(P-1)<2^(E+P-1):=by
  rw [pow_EP hP,Nat.mul_comm (2^(P-1))]
  have:0<2^E:=Nat.pow_pos (by decide)
  have:=Nat.mul_lt_mul_of_pos_right (show 2^E-1<2^E by omega) hp
  omega
 have e1:wf E P (infw E P s)=2^E-1:=by rw [inf_word,wordN_wf hP s h0,Nat.zero_add,Nat.mul_div_cancel _ hp]
 have e2:wr P (infw E P s)=0:=by rw [inf_word,wordN_wr hP s h0,Nat.zero_mod]
 unfold wkind;rw [if_pos e1,if_pos e2]
def sgnQ (neg:Bool):Rat:=if neg=true then -1 else 1
end Go.Proofs.YtgabigepocfllaaGreatDoor
