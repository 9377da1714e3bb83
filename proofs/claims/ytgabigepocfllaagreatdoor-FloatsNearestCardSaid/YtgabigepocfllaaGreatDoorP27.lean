/- floats: round. -/
import Derived.Test.YtgabigepocfllaaGreatDoorP26
namespace Go.Proofs.YtgabigepocfllaaGreatDoor
open Go.RowKit Vn
set_option maxRecDepth 100000
set_option maxHeartbeats 8000000
def absQ (q:Rat):Rat:=mkq false q.num.natAbs q.den
theorem absQ_eq (q:Rat):absQ q=if q.num<0 then -q else q:=neg_num_abs q
theorem num_neg_iff {q:Rat}:q.num<0↔q<0:=by
 rw [←Rat.not_le,←Rat.num_nonneg];omega
theorem absQ_pos {q:Rat} (h:q.num≠0):0<absQ q:=by
 rw [absQ_eq];have hq:q≠0:=fun e=>h (by rw [e];rfl)
 split
 ·rename_i h2
  have:=num_neg_iff.1 h2
  grind
 ·rename_i h2
  have:0≤q:=Rat.num_nonneg.1 (by omega)
  grind
theorem absQ_num_pos {q:Rat} (h:q.num≠0):0<(absQ q).num:=by
 have h1:=absQ_pos h;have h2:0≤(absQ q).num:=Rat.num_nonneg.2 (Rat.le_of_lt h1)
 rcases Int.lt_or_le 0 (absQ q).num with h3 | h3
 ·exact h3
 ·have:absQ q=0:=Rat.num_eq_zero.1 (by omega)
  rw [this] at h1;exact absurd h1 (Rat.lt_irrefl)
theorem SmQ.absQ {K:Nat} {q:Rat} (h:SmQ K q):SmQ K (absQ q):=by
 rw [absQ_eq];split
 ·exact h.neg
 ·exact h
theorem IsLog.bound {K:Nat} {q:Rat} {l:Int} (h:IsLog q l) (s:SmQ K q) : -(K:Int)-1≤l∧l≤K:=by
 have hp:0<q.num:=by
  have h1:=h.pos;have h2:0≤q.num:=Rat.num_nonneg.2 (Rat.le_of_lt h1)
  rcases Int.lt_or_le 0 q.num with h3 | h3
  ·exact h3
  ·have:q=0:=Rat.num_eq_zero.1 (by omega)
   rw [this] at h1;exact absurd h1 (Rat.lt_irrefl)
 have hd:=den_pos q
 constructor
 ·have h1:(2:Rat)^(((0:Nat):Int)-(K:Nat))≤q:=(p2_le hp 0 K).2 (by
   have:=s.2;unfold Sm at this
   have e:1*2^K≤q.num.natAbs*2^K:=Nat.mul_le_mul_right _ (by omega)
   omega)
  have h2:(2:Rat)^(((0:Nat):Int)-(K:Nat))<(2:Rat)^(l+1):=by have:=h.2;grind
  rw [p2_lt_iff] at h2
  omega
 ·have h1:q<(2:Rat)^(((K:Nat):Int)-(0:Nat)):=(lt_p2 hp K 0).2 (by
   have:=s.1;unfold Sm at this
   have e:1*2^K≤q.den*2^K:=Nat.mul_le_mul_right _ (by omega)
   omega)
  have h2:(2:Rat)^l<(2:Rat)^(((K:Nat):Int)-(0:Nat)):=by have:=h.1;grind
  rw [p2_lt_iff] at h2
  omega
def rdF (b:Nat) (l:Int):Nat:=(max (l+b-1) 0).toNat
def rdK (P b:Nat) (l:Int):Int:=2-(b:Int)-P+rdF b l
def rdT (P b:Nat) (l:Int) (q:Rat):Rat:=absQ q*(2:Rat)^(-(rdK P b l))
def rdN (P b:Nat) (l:Int) (q:Rat):Nat:=(rdT P b l q).floor.toNat
def roundR (E P b m:Nat) (q:Rat) (l:Int):Nat×Nat :=
 endR E P b m (decide (q.num<0)) (rdN P b l q) (rdF b l) (decide ((rdT P b l q).den=1)) (cmpQ ((rdT P b l q-(rdN P b l q:Nat))*2) 1) (decide (l<1-(b:Int)))
theorem rdT_nonneg (P b:Nat) (l:Int) (q:Rat):0≤rdT P b l q:=by
 unfold rdT;have h1:=p2_pos (-(rdK P b l));have h2:0≤absQ q:=by
  rw [absQ_eq];split
  ·rename_i h;have:=num_neg_iff.1 h;grind
  ·rename_i h;exact Rat.num_nonneg.1 (by omega)
 have:=Rat.mul_nonneg h2 (Rat.le_of_lt h1)
 exact this
theorem rdN_floor (P b:Nat) (l:Int) (q:Rat):(rdT P b l q).floor=((rdN P b l q:Nat):Int):=by
 unfold rdN
 have:0≤(rdT P b l q).floor:=by rw [Rat.le_floor_iff];exact rdT_nonneg P b l q
 omega
theorem rdN_lt {P b:Nat} {l:Int} {q:Rat} (h:IsLog (absQ q) l):rdN P b l q<2^P:=by
 have h1:rdT P b l q<(2:Rat)^(P:Int):=by
  unfold rdT;have h2:absQ q*(2:Rat)^(-(rdK P b l))<(2:Rat)^(l+1)*(2:Rat)^(-(rdK P b l)):=(Rat.mul_lt_mul_right (p2_pos _)).2 h.2;rw [←p2_add] at h2;have h3:(2:Rat)^(l+1 + -(rdK P b l))≤(2:Rat)^(P:Int):=p2_mono (by unfold rdK rdF;omega)
  grind
 have h2:(rdT P b l q).floor<((2^P:Nat):Int):=by
  rw [Rat.floor_lt_iff];rw [p2_nat] at h1
  exact h1
 rw [rdN_floor] at h2
 omega
theorem rdN_ge {P b:Nat} {l:Int} {q:Rat} (hP:1≤P) (h:IsLog (absQ q) l):rdF b l=0∨2^(P-1)≤rdN P b l q:=by
 rcases Nat.eq_zero_or_pos (rdF b l) with h0 | h0
 ·exact .inl h0
 ·right
  have h1:(2:Rat)^(((P-1:Nat):Int))≤rdT P b l q:=by
   unfold rdT;have h2:(2:Rat)^l*(2:Rat)^(-(rdK P b l))≤absQ q*(2:Rat)^(-(rdK P b l)):=Rat.mul_le_mul_of_nonneg_right h.1 (Rat.le_of_lt (p2_pos _));rw [←p2_add] at h2;have h3:((P-1:Nat):Int)=l + -(rdK P b l):=by unfold rdK;unfold rdF at *;omega
   rw [h3];exact h2
  have h2:((2^(P-1):Nat):Int)≤(rdT P b l q).floor:=by
   rw [Rat.le_floor_iff];rw [p2_nat] at h1
   exact h1
  rw [rdN_floor] at h2
  omega
theorem SmQ.mk {K:Nat} (n:Int) (d:Nat) (hd:d≠0) (h1:n.natAbs<2^K) (h2:d<2^K):SmQ K (mkRat n d):=by
 have e:mkRat n d=mkq (decide (n<0)) n.natAbs d:=by
  unfold mkq sg
  by_cases h:n<0
  ·simp only [h,decide_true,if_true];congr 1;omega
  ·simp only [h,decide_false];congr 1;simp;omega
 rw [e];unfold SmQ Sm;rw [mkq_natAbs _ _ _ hd,mkq_den _ _ _ hd]
 exact ⟨Nat.lt_of_le_of_lt (Nat.div_le_self _ _) h1,Nat.lt_of_le_of_lt (Nat.div_le_self _ _) h2⟩
theorem SmQ.add {K L:Nat} {q r:Rat} (h:SmQ K q) (k:SmQ L r):SmQ (K+L+1) (q+r):=by
 rw [Rat.add_def'];have e:(2:Nat)^(K+L+1)=2^K*2^L*2:=by rw [Nat.pow_succ,Nat.pow_add]
 have a1:q.num.natAbs*r.den<2^K*2^L:=Nat.mul_lt_mul_of_lt_of_le h.1 (Nat.le_of_lt k.2) (Nat.pow_pos (by decide));have a2:r.num.natAbs*q.den<2^L*2^K:=Nat.mul_lt_mul_of_lt_of_le k.1 (Nat.le_of_lt h.2) (Nat.pow_pos (by decide));have a3:q.den*r.den<2^K*2^L:=Nat.mul_lt_mul_of_lt_of_le h.2 (Nat.le_of_lt k.2) (Nat.pow_pos (by decide));rw [Nat.mul_comm (2^L)] at a2;refine SmQ.mk _ _ (Nat.mul_ne_zero q.den_nz r.den_nz) ?_ (by rw [e];omega);have b1:(q.num*(r.den:Int)).natAbs=q.num.natAbs*r.den:=by rw [Int.natAbs_mul];simp
 have b2:(r.num*(q.den:Int)).natAbs=r.num.natAbs*q.den:=by rw [Int.natAbs_mul];simp
 have b3:=Int.natAbs_add_le (q.num*(r.den:Int)) (r.num*(q.den:Int));rw [e]
 omega
theorem SmQ.sub {K L:Nat} {q r:Rat} (h:SmQ K q) (k:SmQ L r):SmQ (K+L+1) (q-r):=by
 rw [Rat.sub_eq_add_neg];exact h.add k.neg
theorem cmpQ_three (q r:Rat):cmpQ q r = -1∨cmpQ q r=0∨cmpQ q r=1:=by unfold cmpQ;split;simp;split<;>simp
theorem round_c (E P b m:Nat) (x:Value) (q:Rat) (l:Int) (K:Nat) (w:World) (hF:Fmt E P) (hm:m≤4) (hb:b=bias E) (hx:NumV w x q) (sx:SmQ K q) (hK:K≤12000) (h0:q.num≠0) (hl:IsLog (absQ q) l) (hT:Tabs w) :
  Calls Tryz.prog 74 #[.agg #[.int .i64 E,.int .i64 P,.int .i64 m,.int .i64 b],x] w fun e w'=>EndPost (roundR E P b m q l) w e w':=by
 have hE:2≤E∧E≤11:=by unfold Fmt at hF;omega
 have hP:2≤P∧P≤113:=by unfold Fmt at hF;omega
 have hb1:b≤1023:=by
  have:2^(E-1)≤1024:=Nat.pow_le_pow_right (n:=2) (by decide) (show E-1≤10 by omega)
  unfold bias at hb;omega
 obtain ⟨ng,a,n,c,a',n',c',rfl⟩:=hx.shape;have hlb:=hl.bound sx.absQ;have hK0:0<K:=by
  rcases Nat.eq_zero_or_pos K with h | h
  ·rw [h] at sx;have h1:=sx.2;have h2:=q.den_nz;unfold Sm at h1;omega
  ·exact h
 obtain ⟨k,hk⟩:∃ k,k=rdK P b l:=⟨_,rfl⟩;have hk0 : -15000≤k∧k≤15000:=by rw [hk];unfold rdK rdF;omega
 have hstep:max l (1-(b:Int))-P+1=k:=by rw [hk];unfold rdK rdF;omega
 have hf:rdF b l≤15000:=by unfold rdF;omega
 obtain ⟨t,ht⟩:∃ t,t=rdT P b l q:=⟨_,rfl⟩;obtain ⟨N,hN⟩:∃ N,N=rdN P b l q:=⟨_,rfl⟩;obtain ⟨mid,hmid⟩:∃ mid,mid=cmpQ ((t-(N:Rat))*2) 1:=⟨_,rfl⟩;have h3:=cmpQ_three ((t-(N:Rat))*2) 1;rw [←hmid] at h3;have ft:t.floor=(N:Int):=by rw [ht,hN];exact rdN_floor P b l q
 have hNP:N<2^P:=by rw [hN];exact rdN_lt hl
 have hNg:rdF b l=0∨2^(P-1)≤N:=by rw [hN];exact rdN_ge (by omega) hl
 have st:SmQ (K+15001) t:=by rw [ht];unfold rdT;rw [←hk];exact sx.absQ.mul_p2 (-k) 15001 (by omega)
 have sN:SmQ 128 (N:Rat):=SmQ.nat (by decide) (by
  have h3:2^P≤2^113:=Nat.pow_le_pow_right (by decide) hP.2;have h4:(2:Nat)^113<2^128:=by decide
  omega)
 have sd0:SmQ 30000 (t-(N:Rat)):=(st.sub sN).mono (by omega);have sd:SmQ 60000 ((t-(N:Rat))*(2:Rat)^(1:Int)):=(sd0.mul_p2 1 2 (by decide)).mono (by decide);have Sd0:=hid sd0;have p21:(2:Rat)^(1:Int)=2:=by rw [Rat.zpow_one]
 have HT2:Hid (absQ q*(2:Rat)^(-k)=t):=hid (by rw [ht,hk];rfl);have H21:=hid p21;clear sd0 p21;have HR:Hid (roundR E P b m q l=endR E P b m (decide (q.num<0)) N (rdF b l) (decide (t.den=1)) mid (decide (l<1-(b:Int)))):=hid (by
  unfold roundR;rw [←ht,←hN,←hmid])
 have HA:=absQ_num_pos h0;have HKK:=hid hk;have HK0:=hid hk0;have HS:=hid hstep;have HFf:=hid hf;have HTt:=hid ht;have Hmid:=hid hmid;have H3:=hid h3;have Hft:=hid ft;have HNP:=hid hNP;have HNg:=hid hNg;have St:=hid st;have SN:=hid sN;have Sd:=hid sd;have HAp:=hid HA;have HL:=hid hl;have SX:=hid sx;have HKb:=hid hK;have HF:=hid hF;have HP:=hid hP;have HB:=hid hb;have HB1:=hid hb1;have HM:=hid hm;have HT:=hid hT;have H0:=hid h0;have HLB:=hid hlb;clear hk hk0 hstep hf ht hN hmid h3 ft hNP hNg st sN sd HA hl sx hK hF hP hb hb1 hm hT hE hlb hK0 h0;have hx0:=hid hx;clear hx;obtain ⟨W0,hW0,g0,hz0,B_M,B_X,B_Z⟩:=pro3s w #[.int .i64 E,.int .i64 P,.int .i64 m,.int .i64 b] #[.bool ng,.slice a n c,.slice a' n' c'] #[.int .u64 0,.int .u64 0] 96 40 29;have HE:=hid g0;have HB_M:=hid B_M;have HB_X:=hid B_X;have HB_Z:=hid B_Z;clear g0 B_M B_X B_Z 
 go_enter Tryz.func74,Tryz.ntmps74
 go_wp2_with fail;rw [←hW0];clear hW0;have hx:=hx0.o.ext HE.o;have hsg:q.num.sign = -1∧q.num<0∨q.num.sign=1∧¬ q.num<0:=by
  have:=H0.o
  rcases Int.lt_or_le q.num 0 with h | h
  ·exact .inl ⟨Int.sign_eq_neg_one_of_neg h,h⟩
  ·exact .inr ⟨Int.sign_eq_one_of_pos (by omega),by omega⟩
 have cs:Hid (∀ w v,NumV w v q→_):=hid fun w v h=>sign_c v q w h;generalize q.num.sign=z at hsg cs;have Hsg:=hid hsg;clear hsg;refine (cs.o _ _ hx).mono ?_;rintro e w1 ⟨rfl,g1⟩;have hz_w1:=g1.size;replace HE:=hid (HE.o.trans g1);replace HB_M:=hid (HB_M.o.ext g1);replace HB_X:=hid (HB_X.o.ext g1);replace HB_Z:=hid (HB_Z.o.ext g1);replace hx:=hx.ext g1;have hz:(z==0)=false:=by rcases Hsg.o with h | h<;>rw [h.1]<;>rfl
 obtain ⟨J1,J2,J3,J4⟩:=HB_M.o.c4;obtain ⟨J5,J6,J7⟩:=HB_X.o.c3;obtain ⟨J8,J9⟩:=HB_Z.o.c2;go_wp2_with fail;clear J1 J2 J3 J4 J5 J6 J7 J8 J9;refine (abs_c _ q _ hx).mono ?_;rintro e w2 ⟨v1,rfl,k1,g2⟩;have hz_w2:=g2.size;replace HE:=hid (HE.o.trans g2);replace HB_M:=hid (HB_M.o.ext g2);replace HB_X:=hid (HB_X.o.ext g2);replace HB_Z:=hid (HB_Z.o.ext g2);replace hx:=hx.ext g2;obtain ⟨ngq10,aq10,nq10,cq10,aq10',nq10',cq10',rfl⟩:=k1.shape;have gA:=Ext.alloc w2 (.cells #[.bool ngq10,.slice aq10 nq10 cq10,.slice aq10' nq10' cq10'] 40);obtain ⟨J11,J12,J13,J14⟩:=(HB_M.o.ext gA).c4;obtain ⟨J15,J16,J17⟩:=(HB_X.o.ext gA).c3;obtain ⟨J18,J19⟩:=(HB_Z.o.ext gA).c2;go_wp2_with fail;clear gA J11 J12 J13 J14 J15 J16 J17 J18 J19;obtain ⟨W3,hW3,g3,hy3,B_A⟩:=pro1 w2 #[.bool ngq10,.slice aq10 nq10 cq10,.slice aq10' nq10' cq10'] 40;rw [←hW3];clear hW3;have hz_W3:=g3.size;replace HE:=hid (HE.o.trans g3);replace HB_M:=hid (HB_M.o.ext g3);replace HB_X:=hid (HB_X.o.ext g3);replace HB_Z:=hid (HB_Z.o.ext g3);replace hx:=hx.ext g3;replace k1:=k1.ext g3;have HB_A:=hid B_A;clear B_A;refine (flog_c _ (absQ q) K _ k1 SX.o.absQ (by have:=HKb.o;omega) HAp.o).mono ?_;rintro e w4 ⟨j,rfl,hj,g4⟩;have hz_w4:=g4.size;replace HE:=hid (HE.o.trans g4);replace HB_M:=hid (HB_M.o.ext g4);replace HB_X:=hid (HB_X.o.ext g4);replace HB_Z:=hid (HB_Z.o.ext g4);replace HB_A:=hid (HB_A.o.ext g4);replace hx:=hx.ext g4;replace k1:=k1.ext g4;obtain rfl:j=l:=hj.unique HL.o;clear hj;obtain ⟨J20,J21,J22,J23⟩:=HB_M.o.c4;obtain ⟨J24,J25,J26⟩:=HB_X.o.c3;obtain ⟨J27,J28⟩:=HB_Z.o.c2;obtain ⟨J29,J30,J31⟩:=HB_A.o.c3;go_wp2_with fail;clear J20 J21 J22 J23 J24 J25 J26 J27 J28 J29 J30 J31;refine (step_c E P m b j _ HP.o HB1.o (by have:=HLB.o;have:=HKb.o;omega)).mono ?_;rintro e w5 ⟨rfl,g5⟩;have hz_w5:=g5.size;replace HE:=hid (HE.o.trans g5);replace HB_M:=hid (HB_M.o.ext g5);replace HB_X:=hid (HB_X.o.ext g5);replace HB_Z:=hid (HB_Z.o.ext g5);replace HB_A:=hid (HB_A.o.ext g5);replace hx:=hx.ext g5;replace k1:=k1.ext g5;rw [HS.o];have hk1 : -15000≤k:=HK0.o.1;have hk2:k≤15000:=HK0.o.2;obtain ⟨J32,J33,J34,J35⟩:=HB_M.o.c4;obtain ⟨J36,J37,J38⟩:=HB_X.o.c3;obtain ⟨J39,J40⟩:=HB_Z.o.c2;obtain ⟨J41,J42,J43⟩:=HB_A.o.c3;go_wp2_with fail;clear J32 J33 J34 J35 J36 J37 J38 J39 J40 J41 J42 J43;refine (shift_c _ (absQ q) K (-k) _ k1 SX.o.absQ (by omega) (by omega) (by have:=HKb.o;omega)).mono ?_;rintro e w6 ⟨v2,rfl,k2,g6⟩;have hz_w6:=g6.size;replace HE:=hid (HE.o.trans g6);replace HB_M:=hid (HB_M.o.ext g6);replace HB_X:=hid (HB_X.o.ext g6);replace HB_Z:=hid (HB_Z.o.ext g6);replace HB_A:=hid (HB_A.o.ext g6);replace hx:=hx.ext g6;replace k1:=k1.ext g6;rw [HT2.o] at k2;obtain ⟨ngq44,aq44,nq44,cq44,aq44',nq44',cq44',rfl⟩:=k2.shape;have gA:=Ext.alloc w6 (.cells #[.bool ngq44,.slice aq44 nq44 cq44,.slice aq44' nq44' cq44'] 40);obtain ⟨J45,J46,J47,J48⟩:=(HB_M.o.ext gA).c4;obtain ⟨J49,J50,J51⟩:=(HB_X.o.ext gA).c3;obtain ⟨J52,J53⟩:=(HB_Z.o.ext gA).c2;obtain ⟨J54,J55,J56⟩:=(HB_A.o.ext gA).c3;go_wp2_with fail;clear gA J45 J46 J47 J48 J49 J50 J51 J52 J53 J54 J55 J56;obtain ⟨W7,hW7,g7,hy7,B_T⟩:=pro1 w6 #[.bool ngq44,.slice aq44 nq44 cq44,.slice aq44' nq44' cq44'] 40;rw [←hW7];clear hW7;have hz_W7:=g7.size;replace HE:=hid (HE.o.trans g7);replace HB_M:=hid (HB_M.o.ext g7);replace HB_X:=hid (HB_X.o.ext g7);replace HB_Z:=hid (HB_Z.o.ext g7);replace HB_A:=hid (HB_A.o.ext g7);replace hx:=hx.ext g7;replace k1:=k1.ext g7;replace k2:=k2.ext g7;have HB_T:=hid B_T;clear B_T;refine (Floor_c _ t (K+15001) _ k2 St.o (by have:=HKb.o;omega)).mono ?_;rintro e w8 ⟨v3,rfl,k3,g8⟩;have hz_w8:=g8.size;replace HE:=hid (HE.o.trans g8);replace HB_M:=hid (HB_M.o.ext g8);replace HB_X:=hid (HB_X.o.ext g8);replace HB_Z:=hid (HB_Z.o.ext g8);replace HB_A:=hid (HB_A.o.ext g8);replace HB_T:=hid (HB_T.o.ext g8);replace hx:=hx.ext g8;replace k1:=k1.ext g8;replace k2:=k2.ext g8;rw [Hft.o] at k3;replace k3:NumV _ v3 (N:Rat):=k3;obtain ⟨ngq57,aq57,nq57,cq57,aq57',nq57',cq57',rfl⟩:=k3.shape;have gA:=Ext.alloc w8 (.cells #[.bool ngq57,.slice aq57 nq57 cq57,.slice aq57' nq57' cq57'] 40);obtain ⟨J58,J59,J60,J61⟩:=(HB_M.o.ext gA).c4;obtain ⟨J62,J63,J64⟩:=(HB_X.o.ext gA).c3;obtain ⟨J65,J66⟩:=(HB_Z.o.ext gA).c2;obtain ⟨J67,J68,J69⟩:=(HB_A.o.ext gA).c3;obtain ⟨J70,J71,J72⟩:=(HB_T.o.ext gA).c3;go_wp2_with fail;clear gA J58 J59 J60 J61 J62 J63 J64 J65 J66 J67 J68 J69 J70 J71 J72;obtain ⟨W9,hW9,g9,hy9,B_N⟩:=pro1 w8 #[.bool ngq57,.slice aq57 nq57 cq57,.slice aq57' nq57' cq57'] 40;rw [←hW9];clear hW9;have hz_W9:=g9.size;replace HE:=hid (HE.o.trans g9);replace HB_M:=hid (HB_M.o.ext g9);replace HB_X:=hid (HB_X.o.ext g9);replace HB_Z:=hid (HB_Z.o.ext g9);replace HB_A:=hid (HB_A.o.ext g9);replace HB_T:=hid (HB_T.o.ext g9);replace hx:=hx.ext g9;replace k1:=k1.ext g9;replace k2:=k2.ext g9;replace k3:=k3.ext g9;have HB_N:=hid B_N;clear B_N;obtain ⟨is,his⟩:∃ is,is=decide (t.den=1):=⟨_,rfl⟩;have His:=hid his;clear his;have ce:Hid (∀ w neg v,NumV w v (N:Rat)→Tabs w→_):=hid fun w neg v hv hT=>end_c E P m b neg v N (rdF b j) is mid (decide (j<1-(b:Int))) w HF.o HM.o HB.o hv HNP.o HFf.o HNg.o H3.o hT;have HRK:Hid (2-(b:Int)-P+(rdF b j:Nat)=k):=hid (by rw [HKK.o];rfl);have SI:Hid (SmQ 60000 ((1:Int):Rat)):=hid ((SmQ.int (K:=2) (by decide) (by decide)).mono (by decide));have c7:Hid (∀ w,_):=hid fun w=>normal_c E P m b w (hid (by have:=HB1.o;omega))
 rcases Hsg.o with ⟨rfl,hneg⟩ | ⟨rfl,hneg⟩
 ·have HRn:Hid (roundR E P b m q j=endR E P b m true N (rdF b j) is mid (decide (j<1-(b:Int)))):=hid (by rw [HR.o,His.o,show decide (q.num<0)=true from decide_eq_true (by omega)]);clear hneg;have ce2:Hid (∀ w v,NumV w v (N:Rat)→Tabs w→Calls Tryz.prog 169 #[.agg #[.int .i64 E,.int .i64 P,.int .i64 m,.int .i64 b],.bool true,v,.int .i64 k,.bool is,.int .i64 mid,.bool (decide (j<1-(b:Int)))] w (EndPost (roundR E P b m q j) w)):=hid fun w v hv hT=>by rw [HRn.o,←HRK.o];exact ce.o w true v hv hT
  obtain ⟨r0,r1,er⟩:=Word.shape (roundR E P b m q j).1;have Er:=hid er;clear er;obtain ⟨J73,J74,J75,J76⟩:=HB_M.o.c4;obtain ⟨J77,J78,J79⟩:=HB_X.o.c3;obtain ⟨J80,J81⟩:=HB_Z.o.c2;obtain ⟨J82,J83,J84⟩:=HB_A.o.c3;obtain ⟨J85,J86,J87⟩:=HB_T.o.c3;obtain ⟨J88,J89,J90⟩:=HB_N.o.c3;go_wp2_with fail;clear J73 J74 J75 J76 J77 J78 J79 J80 J81 J82 J83 J84 J85 J86 J87 J88 J89 J90;have HS:Hid (∀ w',Ext W9 w'→w'.cell? ⟨w.heap.size,0,none⟩=some (.int .i64 E)∧w'.cell? ⟨w.heap.size,1,none⟩=some (.int .i64 P)∧w'.cell? ⟨w.heap.size,2,none⟩=some (.int .i64 m)∧w'.cell? ⟨w.heap.size,3,none⟩=some (.int .i64 b)∧w'.cell? ⟨w.heap.size+1,0,none⟩=some (.bool ng)∧w'.cell? ⟨w.heap.size+1,1,none⟩=some (.slice a n c)∧w'.cell? ⟨w.heap.size+1,2,none⟩=some (.slice a' n' c')∧w'.cell? ⟨w6.heap.size,0,none⟩=some (.bool ngq44)∧w'.cell? ⟨w6.heap.size,1,none⟩=some (.slice aq44 nq44 cq44)∧w'.cell? ⟨w6.heap.size,2,none⟩=some (.slice aq44' nq44' cq44')∧w'.cell? ⟨w8.heap.size,0,none⟩=some (.bool ngq57)∧w'.cell? ⟨w8.heap.size,1,none⟩=some (.slice aq57 nq57 cq57)∧w'.cell? ⟨w8.heap.size,2,none⟩=some (.slice aq57' nq57' cq57')):=hid fun w' h=>⟨(HB_M.o.ext h).cell 0,(HB_M.o.ext h).cell 1,(HB_M.o.ext h).cell 2,(HB_M.o.ext h).cell 3,(HB_X.o.ext h).cell 0,(HB_X.o.ext h).cell 1,(HB_X.o.ext h).cell 2,(HB_T.o.ext h).cell 0,(HB_T.o.ext h).cell 1,(HB_T.o.ext h).cell 2,(HB_N.o.ext h).cell 0,(HB_N.o.ext h).cell 1,(HB_N.o.ext h).cell 2⟩;have hne_M:w.heap.size≠w.heap.size+1+1:=by omega
  have hne_X:w.heap.size+1≠w.heap.size+1+1:=by omega
  have hne_T:w6.heap.size≠w.heap.size+1+1:=by omega
  have hne_N:w8.heap.size≠w.heap.size+1+1:=by omega
  have HSZ:Hid (∀ (v0 v1:Value) (w':World),Ext W9 w'→((w'.setCell ⟨w.heap.size+1+1,0,none⟩ v0).setCell ⟨w.heap.size+1+1,1,none⟩ v1).cell? ⟨w.heap.size,0,none⟩=some (.int .i64 E)∧((w'.setCell ⟨w.heap.size+1+1,0,none⟩ v0).setCell ⟨w.heap.size+1+1,1,none⟩ v1).cell? ⟨w.heap.size,1,none⟩=some (.int .i64 P)∧((w'.setCell ⟨w.heap.size+1+1,0,none⟩ v0).setCell ⟨w.heap.size+1+1,1,none⟩ v1).cell? ⟨w.heap.size,2,none⟩=some (.int .i64 m)∧((w'.setCell ⟨w.heap.size+1+1,0,none⟩ v0).setCell ⟨w.heap.size+1+1,1,none⟩ v1).cell? ⟨w.heap.size,3,none⟩=some (.int .i64 b)∧((w'.setCell ⟨w.heap.size+1+1,0,none⟩ v0).setCell ⟨w.heap.size+1+1,1,none⟩ v1).cell? ⟨w.heap.size+1,0,none⟩=some (.bool ng)∧((w'.setCell ⟨w.heap.size+1+1,0,none⟩ v0).setCell ⟨w.heap.size+1+1,1,none⟩ v1).cell? ⟨w.heap.size+1,1,none⟩=some (.slice a n c)∧((w'.setCell ⟨w.heap.size+1+1,0,none⟩ v0).setCell ⟨w.heap.size+1+1,1,none⟩ v1).cell? ⟨w.heap.size+1,2,none⟩=some (.slice a' n' c')∧((w'.setCell ⟨w.heap.size+1+1,0,none⟩ v0).setCell ⟨w.heap.size+1+1,1,none⟩ v1).cell? ⟨w6.heap.size,0,none⟩=some (.bool ngq44)∧((w'.setCell ⟨w.heap.size+1+1,0,none⟩ v0).setCell ⟨w.heap.size+1+1,1,none⟩ v1).cell? ⟨w6.heap.size,1,none⟩=some (.slice aq44 nq44 cq44)∧((w'.setCell ⟨w.heap.size+1+1,0,none⟩ v0).setCell ⟨w.heap.size+1+1,1,none⟩ v1).cell? ⟨w6.heap.size,2,none⟩=some (.slice aq44' nq44' cq44')∧((w'.setCell ⟨w.heap.size+1+1,0,none⟩ v0).setCell ⟨w.heap.size+1+1,1,none⟩ v1).cell? ⟨w8.heap.size,0,none⟩=some (.bool ngq57)∧((w'.setCell ⟨w.heap.size+1+1,0,none⟩ v0).setCell ⟨w.heap.size+1+1,1,none⟩ v1).cell? ⟨w8.heap.size,1,none⟩=some (.slice aq57 nq57 cq57)∧((w'.setCell ⟨w.heap.size+1+1,0,none⟩ v0).setCell ⟨w.heap.size+1+1,1,none⟩ v1).cell? ⟨w8.heap.size,2,none⟩=some (.slice aq57' nq57' cq57')):=hid fun v0 v1 w' h=>⟨(cell_other hne_M (cell_other hne_M ((HB_M.o.ext h).cell 0))),(cell_other hne_M (cell_other hne_M ((HB_M.o.ext h).cell 1))),(cell_other hne_M (cell_other hne_M ((HB_M.o.ext h).cell 2))),(cell_other hne_M (cell_other hne_M ((HB_M.o.ext h).cell 3))),(cell_other hne_X (cell_other hne_X ((HB_X.o.ext h).cell 0))),(cell_other hne_X (cell_other hne_X ((HB_X.o.ext h).cell 1))),(cell_other hne_X (cell_other hne_X ((HB_X.o.ext h).cell 2))),(cell_other hne_T (cell_other hne_T ((HB_T.o.ext h).cell 0))),(cell_other hne_T (cell_other hne_T ((HB_T.o.ext h).cell 1))),(cell_other hne_T (cell_other hne_T ((HB_T.o.ext h).cell 2))),(cell_other hne_N (cell_other hne_N ((HB_N.o.ext h).cell 0))),(cell_other hne_N (cell_other hne_N ((HB_N.o.ext h).cell 1))),(cell_other hne_N (cell_other hne_N ((HB_N.o.ext h).cell 2)))⟩;clear hne_M hne_X hne_T hne_N;have hb0:Ext W9 W9.drew:=Below.drew (Below.refl _ W9)
  go_region_held3 (fun w'=>w'.cell? ⟨w.heap.size,0,none⟩=some (.int .i64 E)∧w'.cell? ⟨w.heap.size,1,none⟩=some (.int .i64 P)∧w'.cell? ⟨w.heap.size,2,none⟩=some (.int .i64 m)∧w'.cell? ⟨w.heap.size,3,none⟩=some (.int .i64 b)∧w'.cell? ⟨w.heap.size+1,0,none⟩=some (.bool ng)∧w'.cell? ⟨w.heap.size+1,1,none⟩=some (.slice a n c)∧w'.cell? ⟨w.heap.size+1,2,none⟩=some (.slice a' n' c')∧w'.cell? ⟨w6.heap.size,0,none⟩=some (.bool ngq44)∧w'.cell? ⟨w6.heap.size,1,none⟩=some (.slice aq44 nq44 cq44)∧w'.cell? ⟨w6.heap.size,2,none⟩=some (.slice aq44' nq44' cq44')∧w'.cell? ⟨w8.heap.size,0,none⟩=some (.bool ngq57)∧w'.cell? ⟨w8.heap.size,1,none⟩=some (.slice aq57 nq57 cq57)∧w'.cell? ⟨w8.heap.size,2,none⟩=some (.slice aq57' nq57' cq57'))
    (first | exact HS.o _ (by assumption) | exact HSZ.o _ _ _ (by assumption))
   (first
   | (go_at_call 25;(with_reducible refine (cs.o _ _ (hx.ext hb0)).mono ?_);rintro e x91_1 ⟨rfl,g1⟩;have hb1:Ext W9 x91_1:=hb0.trans g1)
   | (go_at_call 76;(with_reducible refine (isInt_c _ t _ (k2.ext hb1)).mono ?_);rintro e x91_2 ⟨rfl,g2⟩;have hb2:Ext W9 x91_2:=hb1.trans g2;rw [←His.o])
   | (go_at_call 125;(with_reducible refine (Sub_c _ _ t (N:Rat) (K+15001) _ (k2.ext hb2) (k3.ext hb2) St.o (SN.o.mono (by omega)) (by have:=HKb.o;omega)).mono ?_);rintro e x91_3 ⟨w3,rfl,l3,g3⟩;have hb3:Ext W9 x91_3:=hb2.trans g3)
   | (go_at_call 98;(with_reducible refine (shift_c _ _ 30000 1 _ l3 Sd0.o (by decide) (by decide) (by decide)).mono ?_);rintro e x91_4 ⟨w4,rfl,l4,g4⟩;have hb4:Ext W9 x91_4:=hb3.trans g4)
   | (go_at_call 127;(with_reducible refine (Int_c 1 _ (by decide) (by decide)).mono ?_);rintro e x91_5 ⟨w5,rfl,l5,g5⟩;have hb5:Ext W9 x91_5:=hb4.trans g5)
   | (go_at_call 20;(with_reducible refine (Cmp_c _ _ _ _ 60000 _ (l4.ext g5) l5 Sd.o SI.o (by decide)).mono ?_);rintro e x91_6 ⟨rfl,g6⟩;have hb6:Ext W9 x91_6:=hb5.trans g6;rw [H21.o];rw [show cmpQ ((t-(N:Rat))*2) ((1:Int):Rat)=mid from Hmid.o.symm])
   | (go_at_call 105;(with_reducible refine (c7.o _).mono ?_);rintro e x91_7 ⟨rfl,g7⟩;have hb7:Ext W9 x91_7:=hb6.trans g7)
   | (go_at_call 169;(with_reducible refine (ce2.o _ _ (k3.ext hb7) (HT.o.ext (HE.o.trans hb7))).mono ?_);rintro e x91_8 ⟨rfl,g8⟩;have hb8:Ext W9 x91_8:=hb7.trans g8;rw [Er.o];obtain ⟨zc0,zc1⟩:=(HB_Z.o.ext hb8).c2;obtain ⟨zf0,zf1⟩:=(HB_Z.o.ext hb8).f2))
  clear HS HSZ;have hz_x91_8:=hb8.size;replace HE:=hid (HE.o.trans hb8);replace HB_M:=hid (HB_M.o.ext hb8);replace HB_X:=hid (HB_X.o.ext hb8);replace HB_Z:=hid (HB_Z.o.ext hb8);replace HB_A:=hid (HB_A.o.ext hb8);replace HB_T:=hid (HB_T.o.ext hb8);replace HB_N:=hid (HB_N.o.ext hb8);replace hx:=hx.ext hb8;replace k1:=k1.ext hb8;replace k2:=k2.ext hb8;replace k3:=k3.ext hb8;obtain ⟨J92,J93,J94,J95⟩:=HB_M.o.c4;obtain ⟨J96,J97,J98⟩:=HB_X.o.c3;obtain ⟨J99,J100⟩:=HB_Z.o.c2;obtain ⟨J101,J102,J103⟩:=HB_A.o.c3;obtain ⟨J104,J105,J106⟩:=HB_T.o.c3;obtain ⟨J107,J108,J109⟩:=HB_N.o.c3;obtain ⟨U110,U111⟩:=HB_Z.o.f2;go_wp2_with fail;clear J92 J93 J94 J95 J96 J97 J98 J99 J100 J101 J102 J103 J104 J105 J106 J107 J108 J109 U110 U111;obtain ⟨W10,hW10,g10,q10,B10,hy10,ho10⟩:=sto2 HE.o (by omega) HB_Z.o (by decide) (.int .u64 r0) (.int .u64 r1);rw [←hW10];clear hW10;replace HE:=hid g10;replace HB_M:=hid (ho10 _ _ _ (by omega) HB_M.o);replace HB_X:=hid (ho10 _ _ _ (by omega) HB_X.o);replace HB_A:=hid (ho10 _ _ _ (by omega) HB_A.o);replace HB_T:=hid (ho10 _ _ _ (by omega) HB_T.o);replace HB_N:=hid (ho10 _ _ _ (by omega) HB_N.o);replace HB_Z:=hid B10;replace hx:=hx.keep q10;replace k1:=k1.keep q10;replace k2:=k2.keep q10;replace k3:=k3.keep q10;unfold EndPost;obtain ⟨J112,J113⟩:=HB_Z.o.c2;refine bodyPost_ret (v:=.tuple #[.agg #[.int .u64 r0,.int .u64 r1],.int .i64 ((roundR E P b m q j).2:Nat)]) (by simp [results,Tryz.results74,go_sem,J112,J113]) rfl ⟨by rw [Er.o],HE.o⟩
 ·have HRn:Hid (roundR E P b m q j=endR E P b m false N (rdF b j) is mid (decide (j<1-(b:Int)))):=hid (by rw [HR.o,His.o,show decide (q.num<0)=false from decide_eq_false (by omega)]);clear hneg;have ce2:Hid (∀ w v,NumV w v (N:Rat)→Tabs w→Calls Tryz.prog 169 #[.agg #[.int .i64 E,.int .i64 P,.int .i64 m,.int .i64 b],.bool false,v,.int .i64 k,.bool is,.int .i64 mid,.bool (decide (j<1-(b:Int)))] w (EndPost (roundR E P b m q j) w)):=hid fun w v hv hT=>by rw [HRn.o,←HRK.o];exact ce.o w false v hv hT
  obtain ⟨r0,r1,er⟩:=Word.shape (roundR E P b m q j).1;have Er:=hid er;clear er;obtain ⟨J73,J74,J75,J76⟩:=HB_M.o.c4;obtain ⟨J77,J78,J79⟩:=HB_X.o.c3;obtain ⟨J80,J81⟩:=HB_Z.o.c2;obtain ⟨J82,J83,J84⟩:=HB_A.o.c3;obtain ⟨J85,J86,J87⟩:=HB_T.o.c3;obtain ⟨J88,J89,J90⟩:=HB_N.o.c3;go_wp2_with fail;clear J73 J74 J75 J76 J77 J78 J79 J80 J81 J82 J83 J84 J85 J86 J87 J88 J89 J90;have HS:Hid (∀ w',Ext W9 w'→w'.cell? ⟨w.heap.size,0,none⟩=some (.int .i64 E)∧w'.cell? ⟨w.heap.size,1,none⟩=some (.int .i64 P)∧w'.cell? ⟨w.heap.size,2,none⟩=some (.int .i64 m)∧w'.cell? ⟨w.heap.size,3,none⟩=some (.int .i64 b)∧w'.cell? ⟨w.heap.size+1,0,none⟩=some (.bool ng)∧w'.cell? ⟨w.heap.size+1,1,none⟩=some (.slice a n c)∧w'.cell? ⟨w.heap.size+1,2,none⟩=some (.slice a' n' c')∧w'.cell? ⟨w6.heap.size,0,none⟩=some (.bool ngq44)∧w'.cell? ⟨w6.heap.size,1,none⟩=some (.slice aq44 nq44 cq44)∧w'.cell? ⟨w6.heap.size,2,none⟩=some (.slice aq44' nq44' cq44')∧w'.cell? ⟨w8.heap.size,0,none⟩=some (.bool ngq57)∧w'.cell? ⟨w8.heap.size,1,none⟩=some (.slice aq57 nq57 cq57)∧w'.cell? ⟨w8.heap.size,2,none⟩=some (.slice aq57' nq57' cq57')):=hid fun w' h=>⟨(HB_M.o.ext h).cell 0,(HB_M.o.ext h).cell 1,(HB_M.o.ext h).cell 2,(HB_M.o.ext h).cell 3,(HB_X.o.ext h).cell 0,(HB_X.o.ext h).cell 1,(HB_X.o.ext h).cell 2,(HB_T.o.ext h).cell 0,(HB_T.o.ext h).cell 1,(HB_T.o.ext h).cell 2,(HB_N.o.ext h).cell 0,(HB_N.o.ext h).cell 1,(HB_N.o.ext h).cell 2⟩;have hne_M:w.heap.size≠w.heap.size+1+1:=by omega
  have hne_X:w.heap.size+1≠w.heap.size+1+1:=by omega
  have hne_T:w6.heap.size≠w.heap.size+1+1:=by omega
  have hne_N:w8.heap.size≠w.heap.size+1+1:=by omega
  have HSZ:Hid (∀ (v0 v1:Value) (w':World),Ext W9 w'→((w'.setCell ⟨w.heap.size+1+1,0,none⟩ v0).setCell ⟨w.heap.size+1+1,1,none⟩ v1).cell? ⟨w.heap.size,0,none⟩=some (.int .i64 E)∧((w'.setCell ⟨w.heap.size+1+1,0,none⟩ v0).setCell ⟨w.heap.size+1+1,1,none⟩ v1).cell? ⟨w.heap.size,1,none⟩=some (.int .i64 P)∧((w'.setCell ⟨w.heap.size+1+1,0,none⟩ v0).setCell ⟨w.heap.size+1+1,1,none⟩ v1).cell? ⟨w.heap.size,2,none⟩=some (.int .i64 m)∧((w'.setCell ⟨w.heap.size+1+1,0,none⟩ v0).setCell ⟨w.heap.size+1+1,1,none⟩ v1).cell? ⟨w.heap.size,3,none⟩=some (.int .i64 b)∧((w'.setCell ⟨w.heap.size+1+1,0,none⟩ v0).setCell ⟨w.heap.size+1+1,1,none⟩ v1).cell? ⟨w.heap.size+1,0,none⟩=some (.bool ng)∧((w'.setCell ⟨w.heap.size+1+1,0,none⟩ v0).setCell ⟨w.heap.size+1+1,1,none⟩ v1).cell? ⟨w.heap.size+1,1,none⟩=some (.slice a n c)∧((w'.setCell ⟨w.heap.size+1+1,0,none⟩ v0).setCell ⟨w.heap.size+1+1,1,none⟩ v1).cell? ⟨w.heap.size+1,2,none⟩=some (.slice a' n' c')∧((w'.setCell ⟨w.heap.size+1+1,0,none⟩ v0).setCell ⟨w.heap.size+1+1,1,none⟩ v1).cell? ⟨w6.heap.size,0,none⟩=some (.bool ngq44)∧((w'.setCell ⟨w.heap.size+1+1,0,none⟩ v0).setCell ⟨w.heap.size+1+1,1,none⟩ v1).cell? ⟨w6.heap.size,1,none⟩=some (.slice aq44 nq44 cq44)∧((w'.setCell ⟨w.heap.size+1+1,0,none⟩ v0).setCell ⟨w.heap.size+1+1,1,none⟩ v1).cell? ⟨w6.heap.size,2,none⟩=some (.slice aq44' nq44' cq44')∧((w'.setCell ⟨w.heap.size+1+1,0,none⟩ v0).setCell ⟨w.heap.size+1+1,1,none⟩ v1).cell? ⟨w8.heap.size,0,none⟩=some (.bool ngq57)∧((w'.setCell ⟨w.heap.size+1+1,0,none⟩ v0).setCell ⟨w.heap.size+1+1,1,none⟩ v1).cell? ⟨w8.heap.size,1,none⟩=some (.slice aq57 nq57 cq57)∧((w'.setCell ⟨w.heap.size+1+1,0,none⟩ v0).setCell ⟨w.heap.size+1+1,1,none⟩ v1).cell? ⟨w8.heap.size,2,none⟩=some (.slice aq57' nq57' cq57')):=hid fun v0 v1 w' h=>⟨(cell_other hne_M (cell_other hne_M ((HB_M.o.ext h).cell 0))),(cell_other hne_M (cell_other hne_M ((HB_M.o.ext h).cell 1))),(cell_other hne_M (cell_other hne_M ((HB_M.o.ext h).cell 2))),(cell_other hne_M (cell_other hne_M ((HB_M.o.ext h).cell 3))),(cell_other hne_X (cell_other hne_X ((HB_X.o.ext h).cell 0))),(cell_other hne_X (cell_other hne_X ((HB_X.o.ext h).cell 1))),(cell_other hne_X (cell_other hne_X ((HB_X.o.ext h).cell 2))),(cell_other hne_T (cell_other hne_T ((HB_T.o.ext h).cell 0))),(cell_other hne_T (cell_other hne_T ((HB_T.o.ext h).cell 1))),(cell_other hne_T (cell_other hne_T ((HB_T.o.ext h).cell 2))),(cell_other hne_N (cell_other hne_N ((HB_N.o.ext h).cell 0))),(cell_other hne_N (cell_other hne_N ((HB_N.o.ext h).cell 1))),(cell_other hne_N (cell_other hne_N ((HB_N.o.ext h).cell 2)))⟩;clear hne_M hne_X hne_T hne_N;have hb0:Ext W9 W9.drew:=Below.drew (Below.refl _ W9)
  go_region_held3 (fun w'=>w'.cell? ⟨w.heap.size,0,none⟩=some (.int .i64 E)∧w'.cell? ⟨w.heap.size,1,none⟩=some (.int .i64 P)∧w'.cell? ⟨w.heap.size,2,none⟩=some (.int .i64 m)∧w'.cell? ⟨w.heap.size,3,none⟩=some (.int .i64 b)∧w'.cell? ⟨w.heap.size+1,0,none⟩=some (.bool ng)∧w'.cell? ⟨w.heap.size+1,1,none⟩=some (.slice a n c)∧w'.cell? ⟨w.heap.size+1,2,none⟩=some (.slice a' n' c')∧w'.cell? ⟨w6.heap.size,0,none⟩=some (.bool ngq44)∧w'.cell? ⟨w6.heap.size,1,none⟩=some (.slice aq44 nq44 cq44)∧w'.cell? ⟨w6.heap.size,2,none⟩=some (.slice aq44' nq44' cq44')∧w'.cell? ⟨w8.heap.size,0,none⟩=some (.bool ngq57)∧w'.cell? ⟨w8.heap.size,1,none⟩=some (.slice aq57 nq57 cq57)∧w'.cell? ⟨w8.heap.size,2,none⟩=some (.slice aq57' nq57' cq57'))
    (first | exact HS.o _ (by assumption) | exact HSZ.o _ _ _ (by assumption))
   (first
   | (go_at_call 25;(with_reducible refine (cs.o _ _ (hx.ext hb0)).mono ?_);rintro e x91_1 ⟨rfl,g1⟩;have hb1:Ext W9 x91_1:=hb0.trans g1)
   | (go_at_call 76;(with_reducible refine (isInt_c _ t _ (k2.ext hb1)).mono ?_);rintro e x91_2 ⟨rfl,g2⟩;have hb2:Ext W9 x91_2:=hb1.trans g2;rw [←His.o])
   | (go_at_call 125;(with_reducible refine (Sub_c _ _ t (N:Rat) (K+15001) _ (k2.ext hb2) (k3.ext hb2) St.o (SN.o.mono (by omega)) (by have:=HKb.o;omega)).mono ?_);rintro e x91_3 ⟨w3,rfl,l3,g3⟩;have hb3:Ext W9 x91_3:=hb2.trans g3)
   | (go_at_call 98;(with_reducible refine (shift_c _ _ 30000 1 _ l3 Sd0.o (by decide) (by decide) (by decide)).mono ?_);rintro e x91_4 ⟨w4,rfl,l4,g4⟩;have hb4:Ext W9 x91_4:=hb3.trans g4)
   | (go_at_call 127;(with_reducible refine (Int_c 1 _ (by decide) (by decide)).mono ?_);rintro e x91_5 ⟨w5,rfl,l5,g5⟩;have hb5:Ext W9 x91_5:=hb4.trans g5)
   | (go_at_call 20;(with_reducible refine (Cmp_c _ _ _ _ 60000 _ (l4.ext g5) l5 Sd.o SI.o (by decide)).mono ?_);rintro e x91_6 ⟨rfl,g6⟩;have hb6:Ext W9 x91_6:=hb5.trans g6;rw [H21.o];rw [show cmpQ ((t-(N:Rat))*2) ((1:Int):Rat)=mid from Hmid.o.symm])
   | (go_at_call 105;(with_reducible refine (c7.o _).mono ?_);rintro e x91_7 ⟨rfl,g7⟩;have hb7:Ext W9 x91_7:=hb6.trans g7)
   | (go_at_call 169;(with_reducible refine (ce2.o _ _ (k3.ext hb7) (HT.o.ext (HE.o.trans hb7))).mono ?_);rintro e x91_8 ⟨rfl,g8⟩;have hb8:Ext W9 x91_8:=hb7.trans g8;rw [Er.o];obtain ⟨zc0,zc1⟩:=(HB_Z.o.ext hb8).c2;obtain ⟨zf0,zf1⟩:=(HB_Z.o.ext hb8).f2))
  clear HS HSZ;have hz_x91_8:=hb8.size;replace HE:=hid (HE.o.trans hb8);replace HB_M:=hid (HB_M.o.ext hb8);replace HB_X:=hid (HB_X.o.ext hb8);replace HB_Z:=hid (HB_Z.o.ext hb8);replace HB_A:=hid (HB_A.o.ext hb8);replace HB_T:=hid (HB_T.o.ext hb8);replace HB_N:=hid (HB_N.o.ext hb8);replace hx:=hx.ext hb8;replace k1:=k1.ext hb8;replace k2:=k2.ext hb8;replace k3:=k3.ext hb8;obtain ⟨J92,J93,J94,J95⟩:=HB_M.o.c4;obtain ⟨J96,J97,J98⟩:=HB_X.o.c3;obtain ⟨J99,J100⟩:=HB_Z.o.c2;obtain ⟨J101,J102,J103⟩:=HB_A.o.c3;obtain ⟨J104,J105,J106⟩:=HB_T.o.c3;obtain ⟨J107,J108,J109⟩:=HB_N.o.c3;obtain ⟨U110,U111⟩:=HB_Z.o.f2;go_wp2_with fail;clear J92 J93 J94 J95 J96 J97 J98 J99 J100 J101 J102 J103 J104 J105 J106 J107 J108 J109 U110 U111;obtain ⟨W10,hW10,g10,q10,B10,hy10,ho10⟩:=sto2 HE.o (by omega) HB_Z.o (by decide) (.int .u64 r0) (.int .u64 r1);rw [←hW10];clear hW10;replace HE:=hid g10;replace HB_M:=hid (ho10 _ _ _ (by omega) HB_M.o);replace HB_X:=hid (ho10 _ _ _ (by omega) HB_X.o);replace HB_A:=hid (ho10 _ _ _ (by omega) HB_A.o);replace HB_T:=hid (ho10 _ _ _ (by omega) HB_T.o);replace HB_N:=hid (ho10 _ _ _ (by omega) HB_N.o);replace HB_Z:=hid B10;replace hx:=hx.keep q10;replace k1:=k1.keep q10;replace k2:=k2.keep q10;replace k3:=k3.keep q10;unfold EndPost;obtain ⟨J112,J113⟩:=HB_Z.o.c2;refine bodyPost_ret (v:=.tuple #[.agg #[.int .u64 r0,.int .u64 r1],.int .i64 ((roundR E P b m q j).2:Nat)]) (by simp [results,Tryz.results74,go_sem,J112,J113]) rfl ⟨by rw [Er.o],HE.o⟩
end Go.Proofs.YtgabigepocfllaaGreatDoor
