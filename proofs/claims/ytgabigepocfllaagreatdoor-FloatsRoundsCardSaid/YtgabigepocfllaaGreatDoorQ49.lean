/- exact: square roots of numbers, rounded down or up, by reckoning. -/
import Derived.Test.YtgabigepocfllaaGreatDoorQ48
import Derived.Test.YtgabigepocfllaaGreatDoorQ42
namespace Go.Proofs.YtgabigepocfllaaGreatDoor
open Go.RowKit Vn
set_option maxRecDepth 100000
set_option maxHeartbeats 8000000
abbrev pN (n:Nat):AV:=.c (.o 0 n)
section
variable {m n K:Nat} {q:Rat}
theorem exists_root:∀ n:Nat,∃ s,IsRoot n s
 | 0=>⟨0,by unfold IsRoot;decide⟩
 | n+1=>by
  obtain ⟨s,h1,h2⟩:=exists_root n
  by_cases h:n+1<(s+1)*(s+1)
  ·exact ⟨s,by omega,h⟩
  ·refine ⟨s+1,by omega,?_⟩
   have:(s+1+1)*(s+1+1)=(s+1)*(s+1)+2*s+3:=by grind
   omega
noncomputable def isq (n:Nat):Nat:=Classical.choose (exists_root n)
theorem isq_is (n:Nat):IsRoot n (isq n):=Classical.choose_spec (exists_root n)
theorem isq_eq {n s:Nat} (h:IsRoot n s):isq n=s:=(isq_is n).unique h
theorem isq_le (n:Nat):isq n≤n:=by
 have h1:=(isq_is n).1
 rcases Nat.eq_zero_or_pos (isq n) with h0 | h0
 ·omega
 ·exact Nat.le_trans (Nat.le_mul_of_pos_left _ h0) h1
theorem isq_sm (h:Sm K n):Sm K (isq n):=Nat.lt_of_le_of_lt (isq_le n) h
theorem cal_n1 {P:Program} {k:FuncId} {n r:Nat} (hb:bodyB P k=true) (h:∀ x w,NatV w x n→Calls P k #[x] w fun e w'=>∃ v,e=.returned v∧NatV w' v r∧Ext w w'):Cal P OQ k [pN n] (pN r) :=
 cal_of hb rfl fun _ w vs _ hv=>match vs,hv with
  | [x],hv=>(h x w hv.1).mono fun _ _ ⟨v,h1,h2,h3⟩=>⟨v,h1,h3,fun _=>h2⟩
theorem cNatRoot (sx:Sm K n) (hK:K≤40000000) (h0:0<n):Cal Tryz.prog OQ 269 [pN n] (pN (isq n)) :=
 cal_n1 (by kernel_rfl) fun x w hx=>(root_c x n K w hx sx hK h0).mono fun _ _ ⟨_,_,_,s,h1,h2,h3,h4⟩=>⟨_,h1,by rw [isq_eq h3];exact h2,h4⟩
theorem cOf {n:Nat} (hn:n<18446744073709551616):Cal Tryz.prog OQ 164 [.c (.v (.int .u64 (n:Nat)))] (pN n) :=
 cal_of (by kernel_rfl) rfl fun _ w vs _ hv=>match vs,hv with
  | [x],hv=>by
   have e:=sc_of hv.1;subst e
   exact (of_c n w (by omega) (by omega)).mono fun _ _ ⟨_,_,_,h1,h2,h3⟩=>⟨_,h1,h3,fun _=>h2⟩
theorem cMade {neg:Bool} {P Q:Nat} (sx:Sm K P) (sy:Sm K Q) (hK:K≤50000000) (hQ:0<Q):Cal Tryz.prog OQ 162 [bA neg,pN P,pN Q] (nA (mkq neg P Q)) :=
 cal_of (by kernel_rfl) rfl fun _ w vs _ hv=>match vs,hv with
  | [x,y,z],hv=>by
   have e:=sc_of hv.1;subst e
   exact (made_c neg y z P Q K w hv.2.1 hv.2.2.1 sx sy hK hQ).mono fun _ _ ⟨v,h1,h2,h3⟩=>⟨v,h1,h3,rep_num h2⟩
theorem cNlog (sx:SmQ K q) (hK:K≤10000000) (h:q≠0):Cal Tryz.prog OQ 237 [nA q] (iA (lgQ q)) :=
 cal1 (R:=fun _ v=>v=.int .i64 (lgQ q)) (by kernel_rfl) rfl (rep_sc rfl) fun x w _ hx=>(logA_c x q K w hx sx hK (fun e=>h (Rat.num_eq_zero.1 e))).mono fun _ _ ⟨k,h1,h2,h3⟩=>⟨_,h1,by rw [(lg_is h).unique h2],h3⟩
theorem cShifted {k:Int} (sx:SmQ K q) (h0 : -1000000≤k) (h1:k≤1000000) (hK:K≤20000000):Cal Tryz.prog OQ 236 [nA q,iA k] (nA (q*(2:Rat)^k)) :=
 cal1i (by kernel_rfl) rfl rep_num fun x w _ hx=>(shifted_c x q K k w hx sx h0 h1 hK).mono fun _ _ ⟨v,h1,h2,h3⟩=>⟨v,h1,h2,h3⟩
theorem cWholeD (sx:SmQ K q) (hK:K≤20000000):Cal Tryz.prog OQ 222 [nA q,bA false] (nA (mkq (decide (q.num<0)) (q.num.natAbs/q.den) 1)) :=
 cal1i (by kernel_rfl) rfl rep_num fun x w _ hx=>(whole_down x q K w hx sx hK).mono fun _ _ ⟨v,h1,h2,h3⟩=>⟨v,h1,h2,h3⟩
end
def inR (b:Int):Int:=if (if 1>b then 1 else b)>4000 then 4000 else (if 1>b then 1 else b)
theorem inR_eq (b:Int):1≤inR b∧inR b≤4000:=by unfold inR;split<;>split<;>omega
theorem cInRange {b:Int}:Cal Tryz.prog OQ 268 [iA b] (iA (inR b)):=by
 refine fn_call TK MX Tryz.func268 rfl (by kernel_rfl) (by kernel_rfl) (by kernel_rfl) rfl rfl ?_
 conv=>whnf
 rfl
theorem isRoot_shift {T s:Nat} (j:Nat) (h:IsRoot T s):IsRoot (T/4^j) (s/2^j):=by
 have h2:0<2^j:=Nat.pow_pos (by decide);have h4:4^j=2^j*2^j:=by rw [show (4:Nat)=2*2 from rfl,Nat.mul_pow]
 have a1:=Nat.div_mul_le_self s (2^j);have a2:s+1≤(s/2^j+1)*2^j:=Nat.lt_mul_of_div_lt (Nat.lt_succ_self (s/2^j)) h2
 constructor
 ·rw [Nat.le_div_iff_mul_le (by rw [h4];exact Nat.mul_pos h2 h2),h4];refine Nat.le_trans ?_ h.1
  have:=Nat.mul_le_mul a1 a1
  have e:s/2^j*(s/2^j)*(2^j*2^j)=s/2^j*2^j*(s/2^j*2^j):=by grind
  omega
 ·rw [Nat.div_lt_iff_lt_mul (by rw [h4];exact Nat.mul_pos h2 h2),h4];refine Nat.lt_of_lt_of_le h.2 ?_
  have:=Nat.mul_le_mul a2 a2
  have e:(s/2^j+1)*(s/2^j+1)*(2^j*2^j)=(s/2^j+1)*2^j*((s/2^j+1)*2^j):=by grind
  omega
theorem p2_nat4 (j:Nat):(2:Rat)^(2*(j:Int))=((4^j:Nat):Rat):=by
 have:(2*(j:Int))=((2*j:Nat):Int):=by omega
 rw [this,p2_nat,Nat.pow_mul]
theorem nat_floor {t:Rat} (h:0≤t):((t.floor.toNat:Nat):Rat)≤t∧t<((t.floor.toNat:Nat):Rat)+1:=by
 have h1:=Rat.floor_le t;have h2:=Rat.lt_floor_add_one t;have h0:0≤t.floor:=by rw [Rat.le_floor_iff];exact h
 rw [Rat.intCast_add] at h2;have i1:((1:Int):Rat)=1:=rfl;rw [i1] at h2;have e:((t.floor.toNat:Nat):Int)=t.floor:=Int.toNat_of_nonneg h0;have e2:((t.floor.toNat:Nat):Rat)=((t.floor:Int):Rat):=by rw [←e];rfl
 rw [e2];exact ⟨h1,h2⟩
theorem floor_shift4 {t:Rat} (h:0≤t) (j:Nat):(t*(2:Rat)^(2*(j:Int))).floor.toNat/4^j=t.floor.toNat:=by
 have hp:=p2_pos (2*(j:Int));obtain ⟨a1,a2⟩:=nat_floor (t:=t*(2:Rat)^(2*(j:Int))) (Rat.mul_nonneg h (Rat.le_of_lt hp));obtain ⟨b1,b2⟩:=nat_floor h;generalize (t*(2:Rat)^(2*(j:Int))).floor.toNat=T at *
 generalize t.floor.toNat=z at *
 rw [p2_nat4] at *
 have h4:0<4^j:=Nat.pow_pos (by decide);generalize 4^j=u at *
 have c1:z*u≤T:=by
  have k1:((z*u:Nat):Rat)≤t*((u:Nat):Rat):=by rw [Rat.natCast_mul];exact Rat.mul_le_mul_of_nonneg_right b1 (Rat.le_of_lt hp)
  have k2:((z*u:Nat):Rat)<((T:Nat):Rat)+1:=by grind
  have k3:((z*u:Nat):Rat)<((T+1:Nat):Rat):=by rw [Rat.natCast_add];exact k2
  rw [Rat.natCast_lt_natCast] at k3
  omega
 have c2:T<(z+1)*u:=by
  have k1:t*((u:Nat):Rat)<(((z+1)*u:Nat):Rat):=by
   rw [Rat.natCast_mul,Rat.natCast_add];exact (Rat.mul_lt_mul_right hp).2 b2
  have k2:((T:Nat):Rat)<(((z+1)*u:Nat):Rat):=by grind
  rwa [Rat.natCast_lt_natCast] at k2
 apply Nat.le_antisymm
 ·exact Nat.le_of_lt_succ ((Nat.div_lt_iff_lt_mul h4).2 c2)
 ·exact (Nat.le_div_iff_mul_le h4).2 c1
def rtK (bits:Int) (q:Rat):Int:=lgQ q/2-inR bits+1
noncomputable def rtS (bits:Int) (q:Rat):Nat:=isq (q*(2:Rat)^(-2*rtK bits q)).floor.toNat
noncomputable def rtDn (bits:Int) (q:Rat):Rat:=if q=0 then 0 else ((rtS bits q:Nat):Rat)*(2:Rat)^(rtK bits q)
theorem rtDn_floor {bits:Int} {q:Rat} (h:0<q) (hk:rtK bits q≤0):(rtDn bits q).floor=((isq q.floor.toNat:Nat):Int):=by
 obtain ⟨j,hj⟩:∃ j:Nat,rtK bits q = -(j:Int):=⟨(-rtK bits q).toNat,by omega⟩;unfold rtDn rtS;rw [if_neg (by grind),hj,nat_floor_half];have e : -2 * -(j:Int)=2*(j:Int):=by omega
 rw [e]
 congr 1
 have h1:=isRoot_shift j (isq_is (q*(2:Rat)^(2*(j:Int))).floor.toNat);rw [floor_shift4 (Rat.le_of_lt h)] at h1
 exact (isq_eq h1).symm
theorem isq_lt {T P:Nat} (h:T<4^P):isq T<2^P:=by
 refine Nat.lt_of_not_le (fun k => ?_)
 have:=(isq_is T).1
 have h2:=Nat.mul_le_mul k k;rw [←Nat.mul_pow] at h2
 have:(2*2:Nat)^P=4^P:=rfl
 omega
theorem isq_ge {T P:Nat} (h:4^P≤T):2^P≤isq T:=by
 refine Nat.le_of_not_lt (fun k => ?_)
 have:=(isq_is T).2
 have h2:=Nat.mul_le_mul (show isq T+1≤2^P from k) (show isq T+1≤2^P from k);rw [←Nat.mul_pow] at h2
 have:(2*2:Nat)^P=4^P:=rfl
 omega
theorem isq_sq {t:Rat} (h:0≤t):((isq t.floor.toNat*isq t.floor.toNat:Nat):Rat)≤t∧t<(((isq t.floor.toNat+1)*(isq t.floor.toNat+1):Nat):Rat):=by
 obtain ⟨b1,b2⟩:=nat_floor h;have h1:=isq_is t.floor.toNat;generalize t.floor.toNat=T at *
 constructor
 ·have:((isq T*isq T:Nat):Rat)≤((T:Nat):Rat):=by rw [Rat.natCast_le_natCast];exact h1.1
  grind
 ·have:((T+1:Nat):Rat)≤(((isq T+1)*(isq T+1):Nat):Rat):=by rw [Rat.natCast_le_natCast];exact h1.2
  rw [Rat.natCast_add] at this;have e:((1:Nat):Rat)=1:=rfl
  grind
section
variable {P b:Nat} {x:Rat} {l:Int}
def rtT (P b:Nat) (l:Int) (x:Rat):Rat:=x*(2:Rat)^(-2*rdK P b l)
noncomputable def rtN (P b:Nat) (l:Int) (x:Rat):Nat:=isq (rtT P b l x).floor.toNat
theorem rtT_pos (h:0<x):0<rtT P b l x:=Rat.mul_pos h (p2_pos _)
theorem rdK_ge (P b:Nat) (l:Int):l-P+1≤rdK P b l:=by unfold rdK rdF;omega
theorem rtT_lt {L:Int} (h:IsLog x L) (hl:l=L/2):rtT P b l x<(2:Rat)^(2*(P:Int)):=by
 have h1:rtT P b l x<(2:Rat)^(L+1)*(2:Rat)^(-2*rdK P b l):=(Rat.mul_lt_mul_right (p2_pos _)).2 h.2;rw [←p2_add] at h1;have h2:(2:Rat)^(L+1 + -2*rdK P b l)≤(2:Rat)^(2*(P:Int)):=p2_mono (by have:=rdK_ge P b l;omega)
 exact ltle h1 h2
theorem rtT_ge {L:Int} (h:IsLog x L) (hl:l=L/2) (hP:1≤P) (hf:rdF b l≠0):(2:Rat)^(2*((P-1:Nat):Int))≤rtT P b l x:=by
 have h1:(2:Rat)^L*(2:Rat)^(-2*rdK P b l)≤rtT P b l x:=Rat.mul_le_mul_of_nonneg_right h.1 (Rat.le_of_lt (p2_pos _));rw [←p2_add] at h1;refine Rat.le_trans (p2_mono ?_) h1;unfold rdK;unfold rdF at hf ⊢
 omega
theorem rtN_lt {L:Int} (h:IsLog x L) (hl:l=L/2):rtN P b l x<2^P:=by
 refine isq_lt ?_;obtain ⟨a1,a2⟩:=nat_floor (Rat.le_of_lt (rtT_pos (P:=P) (b:=b) (l:=l) h.pos));have h1:=rtT_lt (P:=P) (b:=b) h hl;rw [p2_nat4] at h1
 have:(((rtT P b l x).floor.toNat:Nat):Rat)<((4^P:Nat):Rat):=by grind
 rwa [Rat.natCast_lt_natCast] at this
theorem rtN_ge {L:Int} (h:IsLog x L) (hl:l=L/2) (hP:1≤P):rdF b l=0∨2^(P-1)≤rtN P b l x:=by
 by_cases hf:rdF b l=0
 ·exact .inl hf
 ·right
  refine isq_ge ?_;obtain ⟨a1,a2⟩:=nat_floor (Rat.le_of_lt (rtT_pos (P:=P) (b:=b) (l:=l) h.pos));have h1:=rtT_ge (P:=P) (b:=b) h hl hP hf;rw [p2_nat4] at h1
  have:((4^(P-1):Nat):Rat)<(((rtT P b l x).floor.toNat+1:Nat):Rat):=by rw [Rat.natCast_add];have e:((1:Nat):Rat)=1:=rfl;grind
  rw [Rat.natCast_lt_natCast] at this
  omega
theorem rtN_sq (h:0<x):((rtN P b l x*rtN P b l x:Nat):Rat)≤rtT P b l x∧rtT P b l x<(((rtN P b l x+1)*(rtN P b l x+1):Nat):Rat):=isq_sq (Rat.le_of_lt (rtT_pos h))
theorem rtT_back:x=rtT P b l x*((2:Rat)^(rdK P b l)*(2:Rat)^(rdK P b l)):=by
 unfold rtT;have e : -2*rdK P b l = -(rdK P b l+rdK P b l):=by omega
 rw [←p2_add,e,Rat.mul_assoc,p2_cancel,Rat.mul_one]
theorem rt_log {L:Int} (hx:IsLog x L) (hl:l=L/2) (bits:Int) (hb:(P:Int)≤inR bits):rtK bits (rtT P b l x)≤0:=by
 have h0:=rtT_pos (P:=P) (b:=b) (l:=l) hx.pos;have h1:=rtT_lt (P:=P) (b:=b) hx hl;have h2:=(lg_is (q:=rtT P b l x) (by grind)).1;rw [absQ_nonneg (Rat.le_of_lt h0)] at h2;have h3:(2:Rat)^(lgQ (rtT P b l x))<(2:Rat)^(2*(P:Int)):=lelt h2 h1;rw [p2_lt_iff] at h3;unfold rtK
 omega
end
theorem cho_pos {m n:Nat} {s:Rat} {c:Int} (hm:m≤4) (hs:0<s):choQ m (((n:Nat):Rat)*s) ((((n:Nat):Rat)+1)*s) s c=(((if upB m (decide (n%2=1)) c=true then n+1 else n):Nat):Rat)*s:=by
 have hs0:s≠0:=by grind
 have n0:(0:Rat)≤((n:Nat):Rat):=by exact_mod_cast Nat.zero_le n
 have e1:((n+1:Nat):Rat)=((n:Nat):Rat)+1:=by rw [Rat.natCast_add];rfl
 have s2:s+s≠0:=by grind
 have hq:∀ z:Rat,z*s/(s+s)=z/2:=by
  intro z
  have:s+s=s*2:=by grind
  rw [this,Rat.div_def,Rat.inv_mul_rev,Rat.div_def]
  have:=Rat.mul_inv_cancel s hs0
  grind
 have hb1:absQ (((n:Nat):Rat)*s)=((n:Nat):Rat)*s:=absQ_nonneg (Rat.mul_nonneg n0 (Rat.le_of_lt hs));have hb2:absQ ((((n:Nat):Rat)+1)*s)=(((n:Nat):Rat)+1)*s:=absQ_nonneg (Rat.mul_nonneg (by grind) (Rat.le_of_lt hs));have hc0:¬ 0<cmpQ (absQ (((n:Nat):Rat)*s)) (absQ ((((n:Nat):Rat)+1)*s)):=by
  rw [hb1,hb2,cmpQ_gt];intro h;grind
 have hev:((((n:Nat):Rat)*s/(s+s)).den=1)↔n%2=0:=by rw [hq];exact half_even n
 rcases (show m=0∨m=1∨m=2∨m=3∨m=4 by omega) with rfl | rfl | rfl | rfl | rfl
 ·rw [cho0,up0]
  rcases Int.lt_trichotomy c 0 with h | h | h
  ·rw [if_pos h,if_neg (show ¬ c=0 by omega),decide_eq_false (show ¬ 0≤c by omega),if_neg (show ¬ false=true by decide)]
  ·subst h;rw [if_neg (show ¬ (0:Int)<0 by decide),if_neg (show ¬ (0:Int)<0 by decide),if_pos (show (0:Int)=0 from rfl)]
   by_cases h':n%2=0
   ·rw [if_pos (hev.2 h'),decide_eq_false (show ¬ n%2=1 by omega),if_neg (show ¬ false=true by decide)]
   ·rw [if_neg (fun k=>h' (hev.1 k)),decide_eq_true (show n%2=1 by omega),if_pos rfl,e1]
  ·rw [if_neg (show ¬ c<0 by omega),if_pos h,if_neg (show ¬ c=0 by omega),decide_eq_true (show 0≤c by omega),if_pos rfl,e1]
 ·rw [cho1,up1,if_neg hc0]
  rcases Int.lt_trichotomy c 0 with h | h | h
  ·rw [if_pos h,decide_eq_false (show ¬ 0≤c by omega),if_neg (show ¬ false=true by decide)]
  ·subst h;rw [if_neg (show ¬ (0:Int)<0 by decide),if_neg (show ¬ (0:Int)<0 by decide),decide_eq_true (show (0:Int)≤0 by omega),if_pos rfl,e1]
  ·rw [if_neg (show ¬ c<0 by omega),if_pos h,decide_eq_true (show 0≤c by omega),if_pos rfl,e1]
 ·rw [cho2,up2,if_neg hc0,if_neg (show ¬ false=true by decide)]
 ·rw [cho3,up3,if_pos rfl,e1]
 ·rw [cho4,up4,if_neg (show ¬ false=true by decide)]
section
variable {P b m:Nat} {x:Rat} {l:Int}
noncomputable def rtE (P b:Nat) (l:Int) (x:Rat):Bool:=decide (((rtN P b l x*rtN P b l x:Nat):Rat)=rtT P b l x)
noncomputable def rtC (P b:Nat) (l:Int) (x:Rat):Int:=cmpQ (rtT P b l x*4) (((2*rtN P b l x+1:Nat):Rat)*((2*rtN P b l x+1:Nat):Rat))
noncomputable def rtR (P b m:Nat) (l:Int) (x:Rat):Nat:=endN m false (rtN P b l x) (rtE P b l x) (rtC P b l x)
theorem rt_low (h:0<x):decide (((rtN P b l x:Nat):Rat)*(2:Rat)^(rdK P b l)*(((rtN P b l x:Nat):Rat)*(2:Rat)^(rdK P b l))<x) = !rtE P b l x:=by
 have hs:=p2_pos (rdK P b l);have hb:=rtT_back (P:=P) (b:=b) (x:=x) (l:=l);have hq:=(rtN_sq (P:=P) (b:=b) (l:=l) h).1;unfold rtE;rw [Rat.natCast_mul] at hq ⊢;generalize (2:Rat)^(rdK P b l)=s at *
 generalize rtT P b l x=t at *
 generalize ((rtN P b l x:Nat):Rat)=n at *
 have hss:0<s*s:=Rat.mul_pos hs hs;have e:n*s*(n*s)=n*n*(s*s):=by grind
 rw [Bool.eq_iff_iff,decide_eq_true_iff,Bool.not_eq_true',decide_eq_false_iff_not,e,hb,Rat.mul_lt_mul_right hss]
 constructor
 ·intro h1 h2;grind
 ·intro h1
  rcases Rat.le_iff_lt_or_eq.1 hq with h2 | h2
  ·exact h2
  ·exact absurd h2 h1
theorem rt_mid:cmpQ x (midQ (((rtN P b l x:Nat):Rat)*(2:Rat)^(rdK P b l)) ((((rtN P b l x:Nat):Rat)+1)*(2:Rat)^(rdK P b l))*midQ (((rtN P b l x:Nat):Rat)*(2:Rat)^(rdK P b l)) ((((rtN P b l x:Nat):Rat)+1)*(2:Rat)^(rdK P b l)))=rtC P b l x:=by
 have hs:=p2_pos (rdK P b l);have hb:=rtT_back (P:=P) (b:=b) (x:=x) (l:=l);unfold rtC midQ;rw [half_p2];have e1:((2*rtN P b l x+1:Nat):Rat)=2*((rtN P b l x:Nat):Rat)+1:=by rw [Rat.natCast_add,Rat.natCast_mul];rfl
 rw [e1];generalize (2:Rat)^(rdK P b l)=s at *
 generalize rtT P b l x=t at *
 generalize ((rtN P b l x:Nat):Rat)=n at *
 have hss:0<s*s:=Rat.mul_pos hs hs;have e:(n*s+(n+1)*s)*(1/2)*((n*s+(n+1)*s)*(1/2))=(2*n+1)*(2*n+1)/4*(s*s):=by grind
 rw [e,hb];refine cmpQ_le_iff ?_ ?_
 ·rw [mul_le_r hss];constructor<;>intro h<;>grind
 ·rw [mul_le_r hss];constructor<;>intro h<;>grind
theorem rt_multiple (hm:m≤4) {c:Int} (hc:rtE P b l x=false→c=rtC P b l x) :
  choQ m (((rtN P b l x:Nat):Rat)*(2:Rat)^(rdK P b l)) (if rtE P b l x=true then ((rtN P b l x:Nat):Rat)*(2:Rat)^(rdK P b l) else (((rtN P b l x:Nat):Rat)+1)*(2:Rat)^(rdK P b l)) ((2:Rat)^(rdK P b l)) c
   = ((rtR P b m l x:Nat):Rat)*(2:Rat)^(rdK P b l):=by
 unfold rtR endN
 cases h:rtE P b l x
 ·rw [hc h,if_neg (by decide),if_neg (by decide),cho_pos hm (p2_pos _)]
  rfl
 ·rw [if_pos rfl,if_pos rfl,choQ_same]
theorem rt_exact (h:0<x):decide (((rtR P b m l x:Nat):Rat)*(2:Rat)^(rdK P b l)*(((rtR P b m l x:Nat):Rat)*(2:Rat)^(rdK P b l))=x)=rtE P b l x:=by
 have hs:=p2_pos (rdK P b l);have hb:=rtT_back (P:=P) (b:=b) (x:=x) (l:=l);have hq:=rtN_sq (P:=P) (b:=b) (l:=l) h;have hE:rtE P b l x=decide (((rtN P b l x*rtN P b l x:Nat):Rat)=rtT P b l x):=rfl;have hR:rtR P b m l x=if rtE P b l x=true then rtN P b l x else if upB (modeN m false) (decide (rtN P b l x%2=1)) (rtC P b l x)=true then rtN P b l x+1 else rtN P b l x:=rfl;have h1:∀ N:Nat,decide (((N:Nat):Rat)*(2:Rat)^(rdK P b l)*(((N:Nat):Rat)*(2:Rat)^(rdK P b l))=x)=decide (((N*N:Nat):Rat)=rtT P b l x):=by
  intro N
  rw [Rat.natCast_mul];generalize (2:Rat)^(rdK P b l)=s at *
  generalize rtT P b l x=t at *
  have hss:s*s≠0:=by have:=Rat.mul_pos hs hs;grind
  have e:((N:Nat):Rat)*s*(((N:Nat):Rat)*s)=((N:Nat):Rat)*((N:Nat):Rat)*(s*s):=by grind
  rw [Bool.eq_iff_iff,decide_eq_true_iff,decide_eq_true_iff,e,hb]
  constructor
  ·intro k
   have k2:=congrArg (· * (s*s)⁻¹) k;simp only [Rat.mul_assoc] at k2;have k3:s*(s*(s*s)⁻¹)=1:=by rw [←Rat.mul_assoc];exact Rat.mul_inv_cancel _ hss
   rw [k3,Rat.mul_one,Rat.mul_one] at k2
   exact k2
  ·intro k;rw [k]
 rw [h1,hR]
 cases hh:rtE P b l x
 ·rw [if_neg (by decide)];rw [hE] at hh;have hne:=of_decide_eq_false hh
  split
  ·refine decide_eq_false (fun k => ?_);rw [k] at hq;exact absurd hq.2 (Rat.lt_irrefl)
  ·exact hh
 ·rw [if_pos rfl,←hE];exact hh
end
section
variable {q:Rat} {K:Nat} {bits:Int}
theorem shr1 (L:Int):L.fdiv (2^min (1:Int).toNat IntKind.i64.bits)=L/2:=by
 show L.fdiv 2=L/2
 exact Int.fdiv_eq_ediv_of_nonneg _ (by decide)
theorem num_posN (h:0<q):0<q.num:=by
 have h0:0≤q.num:=Rat.num_nonneg.2 (Rat.le_of_lt h);have h1:q.num≠0:=fun e=>by rw [Rat.num_eq_zero] at e;subst e;exact Rat.lt_irrefl h
 omega
theorem sgn_pos (h:0<q):q.num.sign=1:=Int.sign_eq_one_of_pos (num_posN h)
theorem rt_pos1 (h:0<q):0<(q*(2:Rat)^(-2*rtK bits q)).floor.toNat:=by
 have hl:=(lg_is (q:=q) (by grind)).1;rw [absQ_nonneg (Rat.le_of_lt h)] at hl;have h1:(2:Rat)^(lgQ q)*(2:Rat)^(-2*rtK bits q)≤q*(2:Rat)^(-2*rtK bits q):=Rat.mul_le_mul_of_nonneg_right hl (Rat.le_of_lt (p2_pos _));rw [←p2_add] at h1;have h2:(2:Rat)^(0:Int)≤(2:Rat)^(lgQ q + -2*rtK bits q):=p2_mono (by have:=inR_eq bits;unfold rtK;omega);have h3:(1:Rat)≤q*(2:Rat)^(-2*rtK bits q):=by
  have e:(2:Rat)^(0:Int)=1:=Rat.zpow_zero _;rw [e] at h2;exact Rat.le_trans h2 h1
 have h4:(1:Int)≤(q*(2:Rat)^(-2*rtK bits q)).floor:=by rw [Rat.le_floor_iff];exact h3
 omega
theorem rtK_bound (sx:SmQ K q) (h:0<q) : -(K:Int)-4001≤rtK bits q∧rtK bits q≤K:=by
 have h1:=(lg_is (q:=q) (by grind)).bound sx.absQ
 have:=inR_eq bits
 unfold rtK;omega
theorem floor_nat (h:0≤q):q.floor.toNat=q.num.natAbs/q.den:=by
 have h0:0≤q.num:=Rat.num_nonneg.2 h;rw [Rat.floor_def];have e:q.num=((q.num.natAbs:Nat):Int):=by omega
 generalize q.num.natAbs=a at *
 rw [e]
 show ((a:Int)/(q.den:Int)).toNat=_
 rw [←Int.natCast_ediv]
 rfl
theorem rtDn_sm (sx:SmQ K q) (h:0≤q) (hK:K≤100000):SmQ (2*K+300000) (rtDn bits q):=by
 unfold rtDn
 split
 ·exact SmQ.zero _ (by omega)
 ·rename_i h0
  have hp:0<q:=by grind
  have hk:=rtK_bound (bits:=bits) sx hp;have st:SmQ (K+250000) (q*(2:Rat)^(-2*rtK bits q)):=(sx.mul_p2 (-2*rtK bits q) 250000 (by omega));have hT0:0≤q*(2:Rat)^(-2*rtK bits q):=Rat.mul_nonneg h (Rat.le_of_lt (p2_pos _));have sS:Sm (K+250000) (q*(2:Rat)^(-2*rtK bits q)).floor.toNat:=by rw [floor_nat hT0];exact st.1.of_le (Nat.div_le_self _ _)
  exact ((SmQ.nat (by omega) (isq_sm sS)).mul_p2 (rtK bits q) (K+5000) (by omega)).mono (by omega)
theorem cRtDown (sx:SmQ K q) (h:0≤q) (hK:K≤100000):Cal Tryz.prog OQ 200 [nA q,iA bits] (.t [nA (rtDn bits q),iA 0]):=by
 refine fn_call TK MX Tryz.func200 rfl (by kernel_rfl) (by kernel_rfl) (by kernel_rfl) rfl rfl ?_
 conv=>whnf
 refine ⟨.t [nA (rtDn bits q),iA 0],?_,?_⟩
 ·by_cases h0:q=0
  ·subst h0;refine fn_call TK MX Tryz.func241 rfl (by kernel_rfl) (by kernel_rfl) (by kernel_rfl) rfl rfl ?_;rw [show rtDn bits 0=0 from if_pos rfl]
   conv=>whnf
   refine ⟨_,cSign,?_⟩
   conv=>whnf
   rfl
  ·have hp:0<q:=by grind
   have hk:=rtK_bound (bits:=bits) sx hp;have hl:=(lg_is h0).bound sx.absQ;have hr:=inR_eq bits;have st:SmQ (K+250000) (q*(2:Rat)^(-2*rtK bits q)):=(sx.mul_p2 (-2*rtK bits q) 250000 (by omega));have hT0:0≤q*(2:Rat)^(-2*rtK bits q):=Rat.mul_nonneg h (Rat.le_of_lt (p2_pos _));have hn:=rt_pos1 (bits:=bits) hp;have sS:Sm (K+250000) (q*(2:Rat)^(-2*rtK bits q)).floor.toNat:=by rw [floor_nat hT0];exact st.1.of_le (Nat.div_le_self _ _)
   refine fn_call TK MX Tryz.func241 rfl (by kernel_rfl) (by kernel_rfl) (by kernel_rfl) rfl rfl ?_
   conv=>whnf
   refine ⟨_,cSign,?_⟩;rw [sgn_pos hp]
   conv=>whnf
   refine ⟨_,cNlog sx (by omega) h0,?_⟩
   conv=>whnf
   refine ⟨_,cInRange,?_⟩
   conv=>whnf
   rw [shr1,IntWalk.i64_in (lgQ q/2-inR bits) (by omega),IntWalk.i64_in (lgQ q/2-inR bits+1) (by omega)];rw [show lgQ q/2-inR bits+1=rtK bits q from rfl];generalize hkk:rtK bits q=k at *
   rw [IntWalk.i64_in (-2*k) (by omega)];refine ⟨_,cShifted sx (by omega) (by omega) (by omega),?_⟩
   conv=>whnf
   refine ⟨_,cWholeD st (by omega),?_⟩;have hng:decide ((q*(2:Rat)^(-2*k)).num<0)=false:=dF (by have:=Rat.num_nonneg.2 hT0;omega);have hT:(q*(2:Rat)^(-2*k)).num.natAbs/(q*(2:Rat)^(-2*k)).den=(q*(2:Rat)^(-2*k)).floor.toNat:=(floor_nat hT0).symm;have hres:rtDn bits q=((isq (q*(2:Rat)^(-2*k)).floor.toNat:Nat):Rat)*(2:Rat)^k:=by
    unfold rtDn rtS;rw [if_neg h0,hkk]
   rw [hng,hT,mkq_nat,hres];generalize (q*(2:Rat)^(-2*k)).floor.toNat=T at *
   conv=>whnf
   refine ⟨_,cNatRoot (n:=T) sS (by omega) hn,?_⟩
   conv=>whnf
   refine ⟨_,cOf (n:=1) (by decide),?_⟩
   conv=>whnf
   refine ⟨_,cMade (K:=K+250000) (isq_sm sS) (Nat.one_lt_two_pow (by omega)) (by omega) (by decide),?_⟩;rw [mkq_nat];have s2:SmQ (K+250000) ((isq T:Nat):Rat):=SmQ.nat (by omega) (isq_sm sS)
   conv=>whnf
   refine ⟨_,cShifted s2 (by omega) (by omega) (by omega),?_⟩
   conv=>whnf
   rfl
 ·conv=>whnf
  rfl
end
section
variable {E P m:Nat} {q:Rat} {K:Nat}
noncomputable def rootR (E P m:Nat) (q:Rat):Nat×Nat:=if q=0 then (sgb E P false,0) else
 endR E P (bias E) m false (rtN P (bias E) (lgQ q/2) q) (rdF (bias E) (lgQ q/2)) (rtE P (bias E) (lgQ q/2) q) (rtC P (bias E) (lgQ q/2) q) (decide (lgQ q/2<1-((bias E:Nat):Int)))
theorem lg_pos (h:0<q):IsLog q (lgQ q):=by
 have:=lg_is (q:=q) (by grind)
 rwa [absQ_nonneg (Rat.le_of_lt h)] at this
theorem cmp_eq0 (a b:Rat):(cmpQ a b==0)=decide (a=b):=by
 rw [Bool.eq_iff_iff,beq_iff_eq,decide_eq_true_iff]
 constructor
 ·exact cmp_zero
 ·rintro rfl;exact cmpQ_self _
theorem cRootM (hF:Fmt E P) (hm:m≤4) (sx:SmQ K q) (h:0≤q) (hK:K≤12000):Cal Tryz.prog OQ 118 [mA E P m (bias E:Nat),nA q] (resA (rootR E P m q)):=by
 refine fn_call TK MX Tryz.func118 rfl (by kernel_rfl) (by kernel_rfl) (by kernel_rfl) rfl rfl ?_;have p:=fmt_n hF;unfold rootR
 conv=>whnf
 refine ⟨_,cSign,?_⟩
 conv=>whnf
 rw [signZ]
 by_cases h0:q=0
 ·rw [dT h0,if_pos h0]
  conv=>whnf
  refine ⟨_,cZero hF,?_⟩
  conv=>whnf
  rfl
 ·have hp:0<q:=by grind
  have hL:=lg_pos hp;have hl:=(lg_is h0).bound sx.absQ;rw [dF h0,if_neg h0]
  conv=>whnf
  refine ⟨_,cLogF sx (by omega) (fun e=>h0 (Rat.num_eq_zero.1 e)) (lg_is h0),?_⟩
  conv=>whnf
  rw [shr1];refine ⟨_,cStepM hF (by omega) (by omega),?_⟩;rw [rdK_max];have hn:=rtN_lt (P:=P) (b:=bias E) hL rfl;have hg:=rtN_ge (P:=P) (b:=bias E) hL rfl (by omega);have hfl:=rtDn_floor (bits:=(P:Int)+4) (rtT_pos (P:=P) (b:=bias E) (l:=lgQ q/2) hp) (rt_log hL rfl _ (by unfold inR;split<;>split<;>omega));have hk1:=rdK_ge P (bias E) (lgQ q/2);have hk2:rdK P (bias E) (lgQ q/2)≤8000 ∧ -8000≤rdK P (bias E) (lgQ q/2):=by unfold rdK rdF;omega
  have hf:rdF (bias E) (lgQ q/2)≤15000:=by unfold rdF;omega
  have ek:rdK P (bias E) (lgQ q/2)=2-((bias E:Nat):Int)-P+(rdF (bias E) (lgQ q/2):Nat):=rfl;have eN:rtN P (bias E) (lgQ q/2) q=isq (rtT P (bias E) (lgQ q/2) q).floor.toNat:=rfl;have eE:rtE P (bias E) (lgQ q/2) q=decide (((rtN P (bias E) (lgQ q/2) q*rtN P (bias E) (lgQ q/2) q:Nat):Rat)=rtT P (bias E) (lgQ q/2) q):=rfl;have eC:rtC P (bias E) (lgQ q/2) q=cmpQ (rtT P (bias E) (lgQ q/2) q*4) (((2*rtN P (bias E) (lgQ q/2) q+1:Nat):Rat)*((2*rtN P (bias E) (lgQ q/2) q+1:Nat):Rat)):=rfl;have eT:q*(2:Rat)^(-2*rdK P (bias E) (lgQ q/2))=rtT P (bias E) (lgQ q/2) q:=rfl;have sT:SmQ 32000 (rtT P (bias E) (lgQ q/2) q):=(sx.mul_p2 (-2*rdK P (bias E) (lgQ q/2)) 20000 (by omega)).mono (by omega);have hT0:=Rat.le_of_lt (rtT_pos (P:=P) (b:=bias E) (l:=lgQ q/2) hp);rw [←eN] at hfl;generalize rdK P (bias E) (lgQ q/2)=k at *
  generalize rtC P (bias E) (lgQ q/2) q=cc at *
  generalize rtE P (bias E) (lgQ q/2) q=ex at *
  generalize rtT P (bias E) (lgQ q/2) q=t at *
  generalize rtN P (bias E) (lgQ q/2) q=n at *
  generalize rdF (bias E) (lgQ q/2)=f at *
  conv=>whnf
  rw [IntWalk.i64_in (-2*k) (by omega)];refine ⟨_,cShiftF sx (by omega) (by omega) (by omega),?_⟩;rw [eT]
  conv=>whnf
  rw [IntWalk.i64_in ((P:Int)+4) (by omega)];refine ⟨_,cRtDown sT hT0 (by decide),?_⟩
  conv=>whnf
  refine ⟨_,cFloor (rtDn_sm sT hT0 (by decide)) (by decide),?_⟩;rw [hfl,show (((n:Nat):Int):Rat)=((n:Nat):Rat) from rfl];have hn3:n<2^113:=Nat.lt_of_lt_of_le hn (Nat.pow_le_pow_right (by decide) (by omega));have sn:SmQ 113 ((n:Nat):Rat):=SmQ.nat (by decide) hn3;have e1:((n:Nat):Rat)*(2:Rat)^(1:Int)+((1:Int):Rat)=((2*n+1:Nat):Rat):=by
   rw [Rat.natCast_add,Rat.natCast_mul,Rat.zpow_one];have a1:((1:Int):Rat)=1:=rfl;have a2:((1:Nat):Rat)=1:=rfl;have a3:((2:Nat):Rat)=2:=rfl;rw [a1,a2,a3];grind
  have sh:SmQ 115 ((2*n+1:Nat):Rat):=SmQ.nat (by decide) (by have:2^115=4*2^113:=(by decide);omega)
  conv=>whnf
  refine ⟨_,cShiftF (k:=1) sn (by decide) (by decide) (by decide),?_⟩
  conv=>whnf
  refine ⟨_,cInt (n:=1) (by decide) (by decide),?_⟩
  conv=>whnf
  refine ⟨_,cAdd (K:=200) ((sn.mul_p2 1 2 (by decide)).mono (by decide)) (SmQ.int (n:=1) (by decide) (by decide)) (by decide),?_⟩;rw [e1];have e4:t*(2:Rat)^(2:Int)=t*4:=by
   have:(2:Rat)^(2:Int)=4:=by decide +kernel
   rw [this]
  have e5:((n:Nat):Rat)*((n:Nat):Rat)=((n*n:Nat):Rat):=(Rat.natCast_mul _ _).symm;refine ⟨_,cMul sn sn (by decide),?_⟩;rw [e5]
  conv=>whnf
  refine ⟨_,cCmp (K:=32000) ((SmQ.nat (K:=226) (by decide) (by have:=Nat.mul_lt_mul'' hn3 hn3;exact Nat.lt_of_lt_of_le this (by decide))).mono (by decide)) sT (by decide),?_⟩
  conv=>whnf
  rw [cmp_eq0,←eE];refine ⟨_,cShiftF (k:=2) sT (by decide) (by decide) (by decide),?_⟩;rw [e4]
  conv=>whnf
  refine ⟨_,cMul sh sh (by decide),?_⟩
  conv=>whnf
  refine ⟨_,cCmp (K:=40000) ((e4 ▸ sT.mul_p2 2 3 (by decide)).mono (by decide)) ((sh.mul sh).mono (by decide)) (by decide),?_⟩;rw [←eC]
  conv=>whnf
  refine ⟨_,cNormalF (by omega),?_⟩
  conv=>whnf
  rw [ek];refine ⟨_,cEnd hF hm hn hf hg (by rw [eC];exact cmp_three _ _),?_⟩
  conv=>whnf
  rfl
end
end Go.Proofs.YtgabigepocfllaaGreatDoor
