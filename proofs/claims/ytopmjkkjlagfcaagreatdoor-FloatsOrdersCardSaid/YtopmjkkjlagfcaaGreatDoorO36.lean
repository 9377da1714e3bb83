/- The reference's words: Infinite, NaN, word; nan. -/
import Derived.Test.YtopmjkkjlagfcaaGreatDoorO35
namespace Go.Proofs.YtopmjkkjlagfcaaGreatDoor
open Go.RowKit Vn
set_option maxRecDepth 100000
set_option maxHeartbeats 8000000
theorem codeN_lt {E P:Nat} (hE:1≤E) (hP:1≤P) (neg:Bool) {f r:Nat} (hf:f≤2^E-1) (hr:r<2^(P-1)):r+f*2^(P-1)<2^(E+P-1)∧codeN E P neg f r<2^(E+P):=by
 have h0:0<2^E:=Nat.pow_pos (by decide);have h1:2^(E+P-1)=2^E*2^(P-1):=by rw [←Nat.pow_add];congr 1;omega
 have h2:(f+1)*2^(P-1)≤2^E*2^(P-1):=Nat.mul_le_mul_right _ (by omega);rw [Nat.add_mul] at h2;have h3:2^(E+P)=2*2^(E+P-1):=by rw [←Nat.pow_succ'];congr 1;omega
 refine ⟨by omega,?_⟩;unfold codeN
 cases neg
 ·simp;omega
 ·simp;omega
theorem fmt_pow {E P:Nat} (hF:Fmt E P):2^(E+P)≤2^124:=Nat.pow_le_pow_right (by decide) (fmt_bounds hF).2.2.2.1
theorem codeN_small {E P:Nat} (hF:Fmt E P) (neg:Bool) {f r:Nat} (hf:f≤2^E-1) (hr:r<2^(P-1)):codeN E P neg f r<340282366920938463463374607431768211456:=by
 have h:=(codeN_lt (E:=E) (P:=P) (by have:=(fmt_bounds hF).1.1;omega) (by have:=(fmt_bounds hF).2.1.1;omega) neg hf hr).2
 have:=fmt_pow hF
 omega
theorem top_le {E P:Nat} (hF:Fmt E P):2^E-1≤4096:=by
 have:2^E≤2^11:=Nat.pow_le_pow_right (by decide) (fmt_bounds hF).1.2
 omega
theorem codeN_nan {E P:Nat} (hF:Fmt E P):codeN E P false (2^E-1) (2^(P-2))=nanw E P:=by
 obtain ⟨h1,h2,_,_,_⟩:=fmt_bounds hF;have hlt:2^(P-2)<2^(P-1):=Nat.pow_lt_pow_right (by decide) (by omega);unfold codeN nanw infw sgb;simp only [Bool.false_eq_true,if_false,Nat.zero_or,Nat.zero_add];have h3:=Nat.two_pow_add_eq_or_of_lt hlt (2^E-1);rw [Nat.mul_comm (2^E-1),Nat.add_comm,h3]
theorem rNaN_c (E P:Nat) (w:World) (hF:Fmt E P) :
  Calls Tryz.prog 150 #[.agg #[.int .i64 (E:Nat),.int .i64 (P:Nat)]] w fun e w'=>e=.returned (Word (nanw E P))∧Ext w w':=by
 obtain ⟨T,hT⟩:∃ T,T=2^E-1:=⟨_,rfl⟩;have CT:Hid (∀ w,Calls Tryz.prog 63 #[.agg #[.int .i64 (E:Nat),.int .i64 (P:Nat)]] w fun e w'=>e=.returned (.int .i64 (T:Nat))∧Ext w w'):=hid fun w=>by rw [hT];exact rtop_c E P w hF
 have HF:=hid hF;have hP:2≤P∧P≤113:=(fmt_bounds hF).2.1;obtain ⟨Q,hQ⟩:∃ Q,Q=2^(P-2):=⟨_,rfl⟩;have hQ1:Q≤2^111:=by rw [hQ];exact Nat.pow_le_pow_right (by decide) (by omega)
 have CQ:Hid (∀ w,Calls Tryz.prog 60 #[.int .i64 ((P:Int)-2)] w fun e w'=>∃ v,e=.returned v∧RNumV w' v ((Q:Nat):Rat)∧Ext w w'):=hid fun w=>by
  have h2:=rtwo_c ((P-2:Nat):Int) w (by omega) (by omega);rw [p2_nat,←hQ] at h2;rw [show (P:Int)-2=((P-2:Nat):Int) by omega];exact h2
 have hwp:IntKind.i64.wrap ((P:Int)-2)=(P:Int)-2:=IntWalk.i64_in _ (by omega);have CC:Hid (∀ w x,RNumV w x ((Q:Nat):Rat)→Calls Tryz.prog 62 #[.agg #[.int .i64 (E:Nat),.int .i64 (P:Nat)],.bool false,.int .i64 (T:Nat),x] w fun e w'=>e=.returned (Word (nanw E P))∧Ext w w'):=hid fun w x h=>by
  have h2:=rcoded_c E P false T Q x w hF h (by rw [hT];exact top_le hF) (by omega) (by rw [hT,hQ];exact codeN_small hF false (Nat.le_refl _) (Nat.pow_lt_pow_right (by decide) (by omega)));rw [hT,hQ,codeN_nan hF] at h2;rw [hT];exact h2
 clear hF hT hP hQ hQ1;obtain ⟨W0,hW0,g0,hz0,B_F,B_Z⟩:=pro2s w #[.int .i64 (E:Nat),.int .i64 (P:Nat)] #[.int .u64 0,.int .u64 0] 23 29;have HE:=hid g0;have HB_F:=hid B_F;have HB_Z:=hid B_Z;have ac:=cland HB_F.o.a2 (HB_Z.o.a2);have hr0:Ext W0 W0:=Below.refl _ _;clear g0 B_F B_Z 
 go_enter Tryz.func150,Tryz.ntmps150
 go_upto_region 1 with (fail)
 rw [←hW0];clear hW0;have kc:=(Box.bt (z:=w.heap.size+1) HB_F.o (by omega) Box.n2);have g1:Ext W0 W0.drew:=Below.drew (Below.refl _ _);refine wp_region_held_drew (S:=But W0 (w.heap.size+1)) (by kernel_rfl) (g1.but) (fun hHeld => ?_);generalize W0.drew=wD1 at *
 apply wts 0 3 rfl rfl (by kernel_rfl) (fun _ _ _ h=>h) hHeld
 ·intro w' hSw;go_simp<;>with_reducible rfl
 apply wts 1 4 rfl rfl (by kernel_rfl) (fun _ _ _ h=>h) hHeld
 ·intro w' hSw;go_simp<;>with_reducible rfl
 apply wts 3 6 rfl rfl (by kernel_rfl) (fun _ _ _ h=>h) hHeld
 ·intro w' hSw;go_simp<;>with_reducible rfl
 apply wts 4 7 rfl rfl (by kernel_rfl) (fun _ _ _ h=>h) hHeld
 ·intro w' hSw;go_simp<;>with_reducible rfl
 apply wts 5 8 rfl rfl (by kernel_rfl) (fun _ _ _ h=>h) hHeld
 ·intro w' hSw;go_simp<;>with_reducible rfl
 try simp only [Act.put,pA,pB,pC]
 refine wonc 2 5 63 #[.tmp 4] #[23] 3 (by kernel_rfl) rfl rfl (fun KK hKK => ?_);go_simp;refine (CT.o _).mono ?_;rintro e w2 ⟨rfl,g2⟩;have hb1:=g1.trans g2
 try dsimp only
 refine hKK.out _ _ (hb1.but) (fun hHeld => ?_)
 try simp only [Act.put,pA,pB,pC]
 refine wonc 6 9 60 #[.tmp 8] #[3] 43 (by kernel_rfl) rfl rfl (fun KK hKK => ?_);go_simp;refine (CQ.o _).mono ?_;rintro e w3 ⟨v3,rfl,k1,g3⟩;have hb2:=hb1.trans g3
 try dsimp only
 refine hKK.out _ _ (hb2.but) (fun hHeld => ?_)
 try simp only [Act.put,pA,pB,pC]
 refine wonc 7 10 62 #[.tmp 3,.const (Value.bool false),.tmp 5,.tmp 9] #[23,4,3,43] 29 (by kernel_rfl) rfl rfl (fun KK hKK => ?_);go_simp;refine (CC.o _ _ k1).mono ?_;rintro e w4 ⟨rfl,g4⟩;have hb3:=hb2.trans g4;obtain ⟨r0,r1,er⟩:=Word.shape (nanw E P);have ER:=hid er;clear er;rw [ER.o]
 try dsimp only
 refine hKK.out _ _ (hb3.but) (fun hHeld => ?_)
 try simp only [Act.put,pA,pB,pC]
 refine wons 8 29 2 10 (by kernel_rfl) rfl rfl (fun KK hKK => ?_);obtain ⟨U4,U5⟩:=(HB_Z.o.ext hb3).f2;go_simp;clear U4 U5;obtain ⟨W5,hW5,g5,q5,B5,hy5,ho5⟩:=rsto2 (HE.o.trans hb3) (by omega) (HB_Z.o.ext hb3) (by decide) (.int .u64 (r0:Nat)) (.int .u64 (r1:Nat));rw [←hW5];clear hW5;replace HB_Z:=hid B5;have hq5:But W0 (w.heap.size+1) W5:=But.sto (hb3.but) ho5
 try dsimp only
 refine hKK.out _ _ (hq5) (fun hHeld => ?_);refine wpAnyH_done (by kernel_rfl) ?_ _;have ac:=cland (ho5 _ _ _ (by omega) (HB_F.o.ext (g1.trans (g2.trans (g3.trans g4))))).a2 (HB_Z.o.a2);have hr6:Ext W5 W5:=Below.refl _ _;go_wp2_with fail;obtain ⟨J7,J8⟩:=HB_Z.o.c2;refine bodyPost_ret (v:=.agg #[.int .u64 (r0:Nat),.int .u64 (r1:Nat)]) (by simp [results,Tryz.results150,go_sem,J7,J8]) rfl ⟨by rw [ER.o],g5⟩
def wv (P b n f:Nat):Rat:=((n:Nat):Rat)*(2:Rat)^(2-(b:Int)-P+f)
theorem wv_nonneg (P b n f:Nat):0≤wv P b n f:=Rat.mul_nonneg (by exact_mod_cast Nat.zero_le n) (Rat.le_of_lt (p2_pos _))
theorem wv_abs (P b n f:Nat):absQ (wv P b n f)=wv P b n f:=absQ_nonneg (wv_nonneg P b n f)
theorem wv_sm {P b n f:Nat} (hn:n<2^P) (hP:P≤113) (hb:b≤1023) (hf:f≤4096):SmQ 6000 (wv P b n f):=by
 have h1:2^P≤2^113:=Nat.pow_le_pow_right (by decide) hP;unfold wv
 exact ((nat_sm (K:=113) (n:=n) (by omega)).mul_p2 _ 5500 (by omega)).mono (by decide)
theorem wv_below {P b n f:Nat} (hP:1≤P) (h:f=0∨2^(P-1)≤n):wv P b n f<(2:Rat)^(1-(b:Int))↔f=0∧n<2^(P-1):=by
 have e:(2:Rat)^(1-(b:Int))=((2^(P-1):Nat):Rat)*(2:Rat)^(2-(b:Int)-P):=by
  rw [←p2_nat,←p2_add];congr 1;omega
 unfold wv;rw [p2_add,←Rat.mul_assoc,e,Rat.mul_assoc,Rat.mul_comm ((2:Rat)^(2-(b:Int)-P)),←Rat.mul_assoc,Rat.mul_lt_mul_right (p2_pos _),p2_nat,←Rat.natCast_mul,Rat.natCast_lt_natCast]
 constructor
 ·intro h2
  rcases h with h3 | h3
  ·subst h3;simp at h2;exact ⟨rfl,h2⟩
  ·exfalso
   have h4:n*1≤n*2^f:=Nat.mul_le_mul_left _ (Nat.pow_pos (by decide))
   omega
 ·rintro ⟨h2,h3⟩;subst h2;simpa using h3
theorem wv_log {P b n f:Nat} (hP:1≤P) (h1:2^(P-1)≤n) (h2:n<2^P):IsLog (wv P b n f) (1-(b:Int)+f):=by
 unfold wv
 constructor
 ·have e:(2:Rat)^(1-(b:Int)+f)=((2^(P-1):Nat):Rat)*(2:Rat)^(2-(b:Int)-P+f):=by
   rw [←p2_nat,←p2_add];congr 1;omega
  rw [e]
  exact Rat.mul_le_mul_of_nonneg_right (by exact_mod_cast h1) (Rat.le_of_lt (p2_pos _))
 ·have e:(2:Rat)^(1-(b:Int)+f+1)=((2^P:Nat):Rat)*(2:Rat)^(2-(b:Int)-P+f):=by
   rw [←p2_nat,←p2_add];congr 1;omega
  rw [e,Rat.mul_lt_mul_right (p2_pos _),Rat.natCast_lt_natCast];exact h2
theorem wv_shift {P b n f:Nat}:wv P b n f*(2:Rat)^((P:Int)-1-(1-(b:Int)+f))=((n:Nat):Rat):=by
 unfold wv;rw [Rat.mul_assoc,←p2_add,show 2-(b:Int)-P+f+((P:Int)-1-(1-(b:Int)+f))=0 by omega,Rat.zpow_zero,Rat.mul_one]
theorem wv_over {P b n:Nat}:wv P b n 0/(2:Rat)^(2-(b:Int)-P)=((n:Nat):Rat):=by
 unfold wv;rw [show 2-(b:Int)-P+((0:Nat):Int)=2-(b:Int)-P by omega,Rat.div_def,Rat.mul_assoc,Rat.mul_inv_cancel _ (p2_ne _),Rat.mul_one]
theorem codeN_next {E P:Nat} (neg:Bool) {n f:Nat} (h1:2^(P-1)≤n):codeN E P neg (f+1) (n-2^(P-1))=codeN E P neg f n:=by
 unfold codeN;rw [Nat.add_mul];omega
theorem rword_c (E P n f:Nat) (neg:Bool) (x:Value) (w:World) (hF:Fmt E P) (hx:RNumV w x (wv P (bias E) n f)) (hn:n<2^P) (h:f=0∨2^(P-1)≤n) (hf:f+1≤2^E-1) :
  Calls Tryz.prog 54 #[.agg #[.int .i64 (E:Nat),.int .i64 (P:Nat)],.bool neg,x] w fun e w'=>e=.returned (Word (codeN E P neg f n))∧Ext w w':=by
 obtain ⟨s1,a1,n1,c1,a1',n1',c1',rfl⟩:=hx.shape;have hvx:=hx;have HF:=hid hF;obtain ⟨hE,hP,hb,hEP,_⟩:=fmt_bounds hF;have hf4:f≤4096:=by have:=top_le hF;omega
 have hP1:1≤P:=by omega
 have hP2:P≤113:=hP.2;obtain ⟨b,hbb⟩:∃ b,b=bias E:=⟨_,rfl⟩;rw [←hbb] at hvx hb;obtain ⟨Q,hQ⟩:∃ Q,Q=wv P b n f:=⟨_,rfl⟩;have SQ:Hid (SmQ 6000 Q):=hid (by rw [hQ];exact wv_sm hn hP2 hb hf4);have HA:Hid (absQ Q=Q):=hid (by rw [hQ];exact wv_abs P b n f);have hlt:2^P≤2^113:=Nat.pow_le_pow_right (by decide) hP2;have SN:Hid (SmQ 201 ((n:Nat):Rat)):=hid (nat_sm (by omega));rw [←hQ] at hvx;have CBI:Hid (∀ w,Calls Tryz.prog 126 #[.agg #[.int .i64 (E:Nat),.int .i64 (P:Nat)]] w fun e w'=>e=.returned (.int .i64 (b:Nat))∧Ext w w'):=hid fun w=>by rw [hbb];exact rbias_c E P w hF
 have CL:Hid (∀ w,Calls Tryz.prog 87 #[.agg #[.int .i64 (E:Nat),.int .i64 (P:Nat)]] w fun e w'=>∃ v,e=.returned v∧RNumV w' v ((2:Rat)^(2-(b:Int)-P))∧Ext w w'):=hid fun w=>by rw [hbb];exact rleast_c E P w hF
 have SL:Hid (SmQ 6000 ((2:Rat)^(2-(b:Int)-P))):=hid ((p2_sm (L:=1200) (by omega)).mono (by decide));have CB0:Hid (∀ w u,RNumV w u Q→Calls Tryz.prog 123 #[.agg #[.int .i64 (E:Nat),.int .i64 (P:Nat)],u] w fun e w'=>e=.returned (.bool (decide (f=0∧n<2^(P-1))))∧Ext w w'):=hid fun w u h2=>by
  have h3:=rbelow_c E P u Q 6000 w hF h2 SQ.o (by decide);have e:decide (absQ Q<(2:Rat)^(1-(bias E:Int)))=decide (f=0∧n<2^(P-1)):=by
   rw [HA.o,hQ,hbb,decide_eq_decide];exact wv_below hP1 h
  rw [e] at h3;exact h3
 by_cases hbel:f=0∧n<2^(P-1)
 ·obtain ⟨rfl,hn2⟩:=hbel;have CB:Hid (∀ w u,RNumV w u Q→Calls Tryz.prog 123 #[.agg #[.int .i64 (E:Nat),.int .i64 (P:Nat)],u] w fun e w'=>e=.returned (.bool true)∧Ext w w'):=hid fun w u h2=>by
   have h3:=CB0.o w u h2
   rwa [decide_eq_true ⟨rfl,hn2⟩] at h3
  have CO:Hid (∀ w u v,RNumV w u Q→RNumV w v ((2:Rat)^(2-(b:Int)-P))→Calls Tryz.prog 121 #[u,v] w fun e w'=>∃ z,e=.returned z∧RNumV w' z ((n:Nat):Rat)∧Ext w w'):=hid fun w u v h2 h3=>by
   have h4:=rover_c u v _ _ 6000 w h2 h3 SQ.o SL.o (by decide) (p2_ne _);rw [hQ,wv_over] at h4;exact h4
  have CC:Hid (∀ w u,RNumV w u ((n:Nat):Rat)→Calls Tryz.prog 62 #[.agg #[.int .i64 (E:Nat),.int .i64 (P:Nat)],.bool neg,.int .i64 0,u] w fun e w'=>e=.returned (Word (codeN E P neg 0 n))∧Ext w w'):=hid fun w u h2=>rcoded_c E P neg 0 n u w hF h2 (by decide) (by omega) (codeN_small hF neg (by omega) hn2);clear hF hx hn h hf CB0 hE hP hbb hQ hlt hn2 hEP;obtain ⟨W0,hW0,g0,hz0,B_F,B_X,B_Z⟩:=pro3s w #[.int .i64 (E:Nat),.int .i64 (P:Nat)] #[.int .i64 s1,.slice a1 n1 c1,.slice a1' n1' c1'] #[.int .u64 0,.int .u64 0] 23 43 29;have HE:=hid g0;have HB_F:=hid B_F;have HB_X:=hid B_X;have HB_Z:=hid B_Z;have ac:=cland HB_F.o.a2 (cland HB_X.o.a3 (HB_Z.o.a2));have hr0:Ext W0 W0:=Below.refl _ _;clear g0 B_F B_X B_Z 
  go_enter Tryz.func54,Tryz.ntmps54
  go_upto_region 1 with (fail)
  rw [←hW0];clear hW0;replace hvx:=hvx.ext HE.o;go_wp2_with fail;refine (CB.o _ _ hvx).mono ?_;rintro e w1 ⟨rfl,g1⟩
  go_upto_region 2 with (fail)
  have kc:=cland (Box.bt (z:=w.heap.size+1+1) HB_F.o (by omega) Box.n2) ((Box.bt (z:=w.heap.size+1+1) HB_X.o (by omega) Box.n3));have g2:Ext w1 w1.drew:=Below.drew (Below.refl _ _);have hb1:=g1.trans g2;refine wp_region_held_drew (S:=But W0 (w.heap.size+1+1)) (by kernel_rfl) (hb1.but) (fun hHeld => ?_);generalize w1.drew=wD2 at *
  apply wts 0 12 rfl rfl (by kernel_rfl) (fun _ _ _ h=>h) hHeld
  ·intro w' hSw;go_simp<;>with_reducible rfl
  apply wts 1 13 rfl rfl (by kernel_rfl) (fun _ _ _ h=>h) hHeld
  ·intro w' hSw;go_simp<;>with_reducible rfl
  apply wts 2 14 rfl rfl (by kernel_rfl) (fun _ _ _ h=>h) hHeld
  ·intro w' hSw;go_simp<;>with_reducible rfl
  apply wts 3 15 rfl rfl (by kernel_rfl) (fun _ _ _ h=>h) hHeld
  ·intro w' hSw;go_simp<;>with_reducible rfl
  try simp only [Act.put,pA,pB,pC]
  refine wonc 4 16 87 #[.tmp 15] #[23] 43 (by kernel_rfl) rfl rfl (fun KK hKK => ?_);go_simp;refine (CL.o _).mono ?_;rintro e w3 ⟨v3,rfl,k1,g3⟩;have hb2:=hb1.trans g3
  try dsimp only
  refine hKK.out _ _ (hb2.but) (fun hHeld => ?_)
  try simp only [Act.put,pA,pB,pC]
  refine wonc 5 17 121 #[.tmp 14,.tmp 16] #[43,43] 43 (by kernel_rfl) rfl rfl (fun KK hKK => ?_);go_simp;refine (CO.o _ _ _ (hvx.ext hb2) k1).mono ?_;rintro e w4 ⟨v4,rfl,k2,g4⟩;have hb3:=hb2.trans g4
  try dsimp only
  refine hKK.out _ _ (hb3.but) (fun hHeld => ?_)
  try simp only [Act.put,pA,pB,pC]
  refine wonc 6 18 62 #[.tmp 12,.tmp 13,.const (Value.int IntKind.i64 0),.tmp 17] #[23,4,3,43] 29 (by kernel_rfl) rfl rfl (fun KK hKK => ?_);go_simp;refine (CC.o _ _ k2).mono ?_;rintro e w5 ⟨rfl,g5⟩;have hb4:=hb3.trans g5;obtain ⟨r0,r1,er⟩:=Word.shape (codeN E P neg 0 n);have ER:=hid er;clear er;rw [ER.o]
  try dsimp only
  refine hKK.out _ _ (hb4.but) (fun hHeld => ?_)
  try simp only [Act.put,pA,pB,pC]
  refine wons 7 29 6 18 (by kernel_rfl) rfl rfl (fun KK hKK => ?_);obtain ⟨U5,U6⟩:=(HB_Z.o.ext hb4).f2;go_simp;clear U5 U6;obtain ⟨W6,hW6,g6,q6,B6,hy6,ho6⟩:=rsto2 (HE.o.trans hb4) (by omega) (HB_Z.o.ext hb4) (by decide) (.int .u64 (r0:Nat)) (.int .u64 (r1:Nat));rw [←hW6];clear hW6;replace HB_Z:=hid B6;have hq6:But W0 (w.heap.size+1+1) W6:=But.sto (hb4.but) ho6
  try dsimp only
  refine hKK.out _ _ (hq6) (fun hHeld => ?_);refine wpAnyH_done (by kernel_rfl) ?_ _;have ac:=cland (ho6 _ _ _ (by omega) (HB_F.o.ext (g1.trans (g2.trans (g3.trans (g4.trans g5)))))).a2 (cland (ho6 _ _ _ (by omega) (HB_X.o.ext (g1.trans (g2.trans (g3.trans (g4.trans g5)))))).a3 (HB_Z.o.a2));have hr7:Ext W6 W6:=Below.refl _ _;go_wp2_with fail;obtain ⟨J8,J9⟩:=HB_Z.o.c2;refine bodyPost_ret (v:=.agg #[.int .u64 (r0:Nat),.int .u64 (r1:Nat)]) (by simp [results,Tryz.results54,go_sem,J8,J9]) rfl ⟨by rw [ER.o],g6⟩
 ·have hn1:2^(P-1)≤n:=by omega
  have CB:Hid (∀ w u,RNumV w u Q→Calls Tryz.prog 123 #[.agg #[.int .i64 (E:Nat),.int .i64 (P:Nat)],u] w fun e w'=>e=.returned (.bool false)∧Ext w w'):=hid fun w u h2=>by
   have h3:=CB0.o w u h2
   rwa [decide_eq_false hbel] at h3
  obtain ⟨k,hk⟩:∃ k:Int,k=1-(b:Int)+f:=⟨_,rfl⟩;have HK:Hid (IsLog (absQ Q) k):=hid (by rw [HA.o,hQ,hk];exact wv_log hP1 hn1 hn);have HQ0:Hid (Q≠0):=hid (fun e=>by
   have h2:=HK.o.pos;rw [HA.o,e] at h2;exact Rat.lt_irrefl h2)
  have CLG:Hid (∀ w u,RNumV w u Q→Calls Tryz.prog 124 #[u] w fun e w'=>e=.returned (.int .i64 k)∧Ext w w'):=hid fun w u h2=>by
   refine (rlog_c u Q 6000 w h2 SQ.o (by decide) HQ0.o).mono ?_;rintro e w' ⟨l,rfl,hl,hb⟩
   exact ⟨by rw [hl.o.unique HK.o],hb⟩
  have hk1 : -1023≤k:=by omega
  have hk2:k≤5000:=by omega
  have hkb:k+(b:Int)=((f+1:Nat):Int):=by omega
  have CS:Hid (∀ w u,RNumV w u Q→Calls Tryz.prog 125 #[u,.int .i64 ((P:Int)-1-k)] w fun e w'=>∃ z,e=.returned z∧RNumV w' z ((n:Nat):Rat)∧Ext w w'):=hid fun w u h2=>by
   have h3:=rshiftq_c u Q 6000 ((P:Int)-1-k) w h2 SQ.o (by omega) (by omega) (by decide);rw [hQ,hk,wv_shift] at h3;rw [hk];exact h3
  obtain ⟨H,hH⟩:∃ H,H=2^(P-1):=⟨_,rfl⟩;have CT:Hid (∀ w,Calls Tryz.prog 60 #[.int .i64 ((P:Int)-1)] w fun e w'=>∃ v,e=.returned v∧RNumV w' v ((H:Nat):Rat)∧Ext w w'):=hid fun w=>by
   have h2:=rtwo_c ((P-1:Nat):Int) w (by omega) (by omega);rw [p2_nat,←hH] at h2;rw [show (P:Int)-1=((P-1:Nat):Int) by omega];exact h2
  have CSU:Hid (∀ w u v,RNumV w u ((n:Nat):Rat)→RNumV w v ((H:Nat):Rat)→Calls Tryz.prog 89 #[u,v] w fun e w'=>∃ z,e=.returned z∧RNumV w' z ((n-H:Nat):Rat)∧Ext w w'):=hid fun w u v h2 h3=>by
   have h4:=rsubq_c u v _ _ 201 w h2 h3 SN.o (nat_sm (by omega)) (by decide);rw [nat_sub (by omega)] at h4;exact h4
  have hnH:n-H<2^(P-1):=by
   have:2^P=2*2^(P-1):=by rw [←Nat.pow_succ'];congr 1;omega
   omega
  have CC:Hid (∀ w u,RNumV w u ((n-H:Nat):Rat)→Calls Tryz.prog 62 #[.agg #[.int .i64 (E:Nat),.int .i64 (P:Nat)],.bool neg,.int .i64 (k+(b:Int)),u] w fun e w'=>e=.returned (Word (codeN E P neg f n))∧Ext w w'):=hid fun w u h2=>by
   have h3:=rcoded_c E P neg (f+1) (n-H) u w hF h2 (by have:=top_le hF;omega) (by omega) (codeN_small hF neg hf hnH);rw [hH,codeN_next neg hn1] at h3;rw [hkb];exact h3
  have hw1:IntKind.i64.wrap (k+(b:Int))=k+(b:Int):=IntWalk.i64_in _ (by omega);have hw2:IntKind.i64.wrap ((P:Int)-1)=(P:Int)-1:=IntWalk.i64_in _ (by omega);clear hF hx hn h hf CB0 hE hP hbb hQ hlt hEP hbel hk hn1 hkb hH hnH;obtain ⟨W0,hW0,g0,hz0,B_F,B_X,B_Z⟩:=pro3s w #[.int .i64 (E:Nat),.int .i64 (P:Nat)] #[.int .i64 s1,.slice a1 n1 c1,.slice a1' n1' c1'] #[.int .u64 0,.int .u64 0] 23 43 29;have HE:=hid g0;have HB_F:=hid B_F;have HB_X:=hid B_X;have HB_Z:=hid B_Z;have ac:=cland HB_F.o.a2 (cland HB_X.o.a3 (HB_Z.o.a2));have hr0:Ext W0 W0:=Below.refl _ _;clear g0 B_F B_X B_Z 
  go_enter Tryz.func54,Tryz.ntmps54
  go_upto_region 1 with (fail)
  rw [←hW0];clear hW0;replace hvx:=hvx.ext HE.o;go_wp2_with fail;refine (CB.o _ _ hvx).mono ?_;rintro e w1 ⟨rfl,g1⟩;go_wp2_with fail;refine (CLG.o _ _ (hvx.ext g1)).mono ?_;rintro e w2 ⟨rfl,g2⟩;have hb1:=g1.trans g2;go_wp2_with fail;refine (CS.o _ _ (hvx.ext hb1)).mono ?_;rintro e w3 ⟨v3,rfl,k1,g3⟩;have hb2:=hb1.trans g3;obtain ⟨s3,a3,n3,c3,a3',n3',c3',rfl⟩:=k1.shape;have gA:=hb2.trans (Ext.alloc w3 (.cells #[.int .i64 s3,.slice a3 n3 c3,.slice a3' n3' c3'] 43))
  go_upto_region 5 with (fail)
  clear gA;have hs3:=(g1.trans (g2.trans g3)).size;obtain ⟨W4,hW4,g4,hy4,B_M⟩:=pro1 w3 #[.int .i64 s3,.slice a3 n3 c3,.slice a3' n3' c3'] 43;rw [←hW4];clear hW4;have hb4:=hb2.trans g4;have HB_M:=hid B_M;clear B_M;have he5:=(HE.o.trans hb4);replace ac:=hb4.cl ac;have hr6:Ext W4 W4:=Below.refl _ _;replace ac:=cland ac HB_M.o.a3;have kc:=cland (Box.bt (z:=w.heap.size+1+1) (HB_F.o.ext (g1.trans (g2.trans (g3.trans g4)))) (by omega) Box.n2) ((Box.bt (z:=w.heap.size+1+1) HB_M.o (by omega) Box.n3));have g5:Ext W4 W4.drew:=Below.drew (Below.refl _ _);refine wp_region_held_drew (S:=But W4 (w.heap.size+1+1)) (by kernel_rfl) (g5.but) (fun hHeld => ?_);generalize W4.drew=wD5 at *
  apply wts 0 28 rfl rfl (by kernel_rfl) (fun _ _ _ h=>h) hHeld
  ·intro w' hSw;go_simp<;>with_reducible rfl
  apply wts 1 29 rfl rfl (by kernel_rfl) (fun _ _ _ h=>h) hHeld
  ·intro w' hSw;go_simp<;>with_reducible rfl
  apply wts 2 30 rfl rfl (by kernel_rfl) (fun _ _ _ h=>h) hHeld
  ·intro w' hSw;go_simp<;>with_reducible rfl
  apply wts 3 31 rfl rfl (by kernel_rfl) (fun _ _ _ h=>h) hHeld
  ·intro w' hSw;go_simp<;>with_reducible rfl
  apply wts 6 34 rfl rfl (by kernel_rfl) (fun _ _ _ h=>h) hHeld
  ·intro w' hSw;go_simp<;>with_reducible rfl
  apply wts 7 35 rfl rfl (by kernel_rfl) (fun _ _ _ h=>h) hHeld
  ·intro w' hSw;go_simp<;>with_reducible rfl
  apply wts 8 36 rfl rfl (by kernel_rfl) (fun _ _ _ h=>h) hHeld
  ·intro w' hSw;go_simp<;>with_reducible rfl
  apply wts 9 37 rfl rfl (by kernel_rfl) (fun _ _ _ h=>h) hHeld
  ·intro w' hSw;go_simp<;>with_reducible rfl
  try simp only [Act.put,pA,pB,pC]
  refine wonc 4 32 126 #[.tmp 31] #[23] 3 (by kernel_rfl) rfl rfl (fun KK hKK => ?_);go_simp;refine (CBI.o _).mono ?_;rintro e w6 ⟨rfl,g6⟩;have hb7:=g5.trans g6
  try dsimp only
  refine hKK.out _ _ (hb7.but) (fun hHeld => ?_);apply wts 5 33 rfl rfl (by kernel_rfl) (fun _ _ _ h=>h) hHeld
  ·intro w' hSw;go_simp<;>with_reducible rfl
  try simp only [Act.put,pA,pB,pC]
  refine wonc 10 38 60 #[.tmp 37] #[3] 43 (by kernel_rfl) rfl rfl (fun KK hKK => ?_);go_simp;refine (CT.o _).mono ?_;rintro e w7 ⟨v7,rfl,k2,g7⟩;have hb8:=hb7.trans g7
  try dsimp only
  refine hKK.out _ _ (hb8.but) (fun hHeld => ?_)
  try simp only [Act.put,pA,pB,pC]
  refine wonc 11 39 89 #[.tmp 34,.tmp 38] #[43,43] 43 (by kernel_rfl) rfl rfl (fun KK hKK => ?_);go_simp;refine (CSU.o _ _ _ ((k1.ext g4).ext hb8) k2).mono ?_;rintro e w8 ⟨v8,rfl,k3,g8⟩;have hb9:=hb8.trans g8
  try dsimp only
  refine hKK.out _ _ (hb9.but) (fun hHeld => ?_)
  try simp only [Act.put,pA,pB,pC]
  refine wonc 12 40 62 #[.tmp 28,.tmp 29,.tmp 33,.tmp 39] #[23,4,3,43] 29 (by kernel_rfl) rfl rfl (fun KK hKK => ?_);go_simp;refine (CC.o _ _ k3).mono ?_;rintro e w9 ⟨rfl,g9⟩;have hb10:=hb9.trans g9;obtain ⟨r0,r1,er⟩:=Word.shape (codeN E P neg f n);have ER:=hid er;clear er;rw [ER.o]
  try dsimp only
  refine hKK.out _ _ (hb10.but) (fun hHeld => ?_)
  try simp only [Act.put,pA,pB,pC]
  refine wons 13 29 6 40 (by kernel_rfl) rfl rfl (fun KK hKK => ?_);obtain ⟨U11,U12⟩:=((HB_Z.o.ext (g1.trans (g2.trans (g3.trans g4)))).ext hb10).f2;go_simp;clear U11 U12;obtain ⟨W10,hW10,g10,q10,B10,hy10,ho10⟩:=rsto2 (he5.trans hb10) (by omega) ((HB_Z.o.ext (g1.trans (g2.trans (g3.trans g4)))).ext hb10) (by decide) (.int .u64 (r0:Nat)) (.int .u64 (r1:Nat));rw [←hW10];clear hW10;replace HB_Z:=hid B10;have hq10:But W4 (w.heap.size+1+1) W10:=But.sto (hb10.but) ho10
  try dsimp only
  refine hKK.out _ _ (hq10) (fun hHeld => ?_);refine wpAnyH_done (by kernel_rfl) ?_ _;have ac:=cland (ho10 _ _ _ (by omega) (HB_F.o.ext (g1.trans (g2.trans (g3.trans (g4.trans (g5.trans (g6.trans (g7.trans (g8.trans g9)))))))))).a2 (cland (ho10 _ _ _ (by omega) (HB_X.o.ext (g1.trans (g2.trans (g3.trans (g4.trans (g5.trans (g6.trans (g7.trans (g8.trans g9)))))))))).a3 (cland HB_Z.o.a2 ((ho10 _ _ _ (by omega) (HB_M.o.ext (g5.trans (g6.trans (g7.trans (g8.trans g9)))))).a3)));have hr13:Ext W10 W10:=Below.refl _ _;go_wp2_with fail;obtain ⟨J14,J15⟩:=HB_Z.o.c2;refine bodyPost_ret (v:=.agg #[.int .u64 (r0:Nat),.int .u64 (r1:Nat)]) (by simp [results,Tryz.results54,go_sem,J14,J15]) rfl ⟨by rw [ER.o],g10⟩
def ROSl (w:World) (v:Value) (ks:List Nat):Prop:=∃ (a:Option Addr) (b off cap:Nat),v=.slice a ks.length cap∧ks.length≤cap∧cap≤1000∧(0<ks.length→a=some ⟨b,off,none⟩)∧(∀ k∈ks,k≤5) ∧
 ∀ i,i<ks.length→∃ (neg:Bool) (s:Int) (a1:Option Addr) (n1 c1:Nat) (a2:Option Addr) (n2 c2:Nat),w.cell? ⟨b,off+i*5,none⟩=some (.int .i64 (ks.getD i 0:Nat))∧w.cell? ⟨b,off+i*5+1,none⟩=some (.bool neg) ∧
  w.cell? ⟨b,off+i*5+2,none⟩=some (.int .i64 s)∧w.cell? ⟨b,off+i*5+3,none⟩=some (.slice a1 n1 c1)∧w.cell? ⟨b,off+i*5+4,none⟩=some (.slice a2 n2 c2)
theorem rnan_c (k:Nat) (neg:Bool) (s:Int) (a:Option Addr) (n c:Nat) (a':Option Addr) (n' c':Nat) (w:World) :
  Calls Tryz.prog 85 #[.agg #[.int .i64 (k:Nat),.bool neg,.int .i64 s,.slice a n c,.slice a' n' c']] w fun e w'=>e=.returned (.bool (decide (4≤k∧k≤5)))∧Ext w w':=by
 obtain ⟨W0,hW0,g0,hz0,B_X⟩:=pro1 w #[.int .i64 (k:Nat),.bool neg,.int .i64 s,.slice a n c,.slice a' n' c'] 122;have HE:=hid g0;have HB_X:=hid B_X;have ac:=HB_X.o.a5;have hr0:Ext W0 W0:=Below.refl _ _;clear g0 B_X 
 go_enter Tryz.func85,Tryz.ntmps85
 go_upto_region 1 with (fail)
 rw [←hW0];clear hW0
 by_cases h4:k=4
 ·subst h4;go_wp2_with fail;go_ret
  exact ⟨rfl,HE.o⟩
 ·have hb4:((k:Int)==4)=false:=beq_eq_false_iff_ne.2 (by omega)
  by_cases h5:k=5
  ·subst h5;go_wp2_with fail;go_ret
   exact ⟨rfl,HE.o⟩
  ·have hb5:((k:Int)==5)=false:=beq_eq_false_iff_ne.2 (by omega);have HD:Hid (decide (4≤k∧k≤5)=false):=hid (decide_eq_false (by omega));clear h4 h5;go_wp2_with fail;rw [HD.o];go_ret
   exact ⟨rfl,HE.o⟩
theorem rnans_c (E P:Nat) (v:Value) (ks:List Nat) (w:World) (hF:Fmt E P) (hv:ROSl w v ks) :
  Calls Tryz.prog 80 #[.agg #[.int .i64 (E:Nat),.int .i64 (P:Nat)],v] w fun e w'=>SpecPost E P ks w e w':=by
 obtain ⟨a,bb,off,cap,rfl,hc1,hc2,ha,hw,hc⟩:=hv;obtain ⟨r0,r1,er⟩:=Word.shape (nanw E P);have c1:∀ w,_:=fun w=>rNaN_c E P w hF;rw [er] at c1;have C1:=hid c1;have Er:=hid er;have HA:=hid ha;have HW:=hid hw;have HC:=hid hc;clear ha hw hc c1 er hF;obtain ⟨W0,hW0,g0,hz0,B_F,B_Z⟩:=pro2s w #[.int .i64 (E:Nat),.int .i64 (P:Nat)] #[.int .u64 0,.int .u64 0] 23 29;have HE:=hid g0;have HB_F:=hid B_F;have HB_Z:=hid B_Z;have ac:=cland HB_F.o.a2 (HB_Z.o.a2);have hr0:Ext W0 W0:=Below.refl _ _;clear g0 B_F B_Z 
 go_enter Tryz.func80,Tryz.ntmps80
 go_upto_block 0 with (fail)
 rw [←hW0];clear hW0;go_wp2_with fail
 go_loopw [7,8,9] (fun u s v wr=>∃ k:Nat,v=.int .i64 k∧k≤ks.length∧u=.int .i64 (flagOf (ks.take k))∧s=.bool (anyNan (ks.take k))∧Hid (Ext W0 wr)) (fun _ _ v _=>ks.length-(intOf v).toNat)
 case atStart=>exact ⟨0,rfl,Nat.zero_le _,rfl,rfl,hid (Below.refl _ _)⟩
 case round =>
  obtain ⟨k,rfl,hk,rfl,rfl,HG⟩:=hrel;have hz_wr:=HG.o.size;replace HE:=hid (HE.o.trans HG.o);replace HB_F:=hid (HB_F.o.ext HG.o);replace HB_Z:=hid (HB_Z.o.ext HG.o);have ac:=cland HB_F.o.a2 (HB_Z.o.a2);have hr1:Ext wr wr:=Below.refl _ _
  by_cases hlt:k<ks.length
  ·obtain ⟨kd,hkd⟩:∃ kd,kd=ks.getD k 0:=⟨_,rfl⟩;have hk5:kd≤5:=by rw [hkd,List.getD_eq_getElem?_getD,List.getElem?_eq_getElem hlt];exact HW.o _ (List.getElem_mem hlt)
   obtain ⟨neg,sg,a1,n1,c1,a2,n2,c2,e0,e1,e2,e3,e4⟩:=HC.o k hlt;rw [←hkd] at e0;have ht:ks.take (k+1)=ks.take k++[kd]:=by rw [List.take_succ_eq_append_getElem hlt,hkd,List.getD_eq_getElem?_getD,List.getElem?_eq_getElem hlt];rfl
   obtain rfl:=HA.o (by omega);have e5:Ext w wr:=HE.o;replace e0:=e5.cell e0;replace e1:=e5.cell e1;replace e2:=e5.cell e2;replace e3:=e5.cell e3;replace e4:=e5.cell e4;have HN:Hid (anyNan (ks.take (k+1))=(anyNan (ks.take k)||decide (4≤kd))):=hid (by rw [ht];exact any_snoc _ _ _);have HFl:Hid (flagOf (ks.take (k+1))=if kd=5 then 1 else flagOf (ks.take k)):=hid (by
    unfold flagOf;have h:anySig (ks.take (k+1))=(anySig (ks.take k)||decide (kd=5)):=by rw [ht];exact any_snoc _ _ _
    rw [h]
    by_cases h5:kd=5
    ·simp [h5]
    ·simp [h5])
   have CN:Hid (∀ w,Calls Tryz.prog 85 #[.agg #[.int .i64 (kd:Nat),.bool neg,.int .i64 sg,.slice a1 n1 c1,.slice a2 n2 c2]] w fun e w'=>e=.returned (.bool (decide (4≤kd)))∧Ext w w'):=hid fun w=>by
    have h:=rnan_c kd neg sg a1 n1 c1 a2 n2 c2 w
    rwa [show decide (4≤kd∧kd≤5)=decide (4≤kd) from by rw [decide_eq_decide];omega] at h
   have HCE:Hid (wr.cell? ⟨bb,off+k*5,none⟩=some (.int .i64 (kd:Nat))):=hid e0;clear ht hkd e5;generalize flagOf (ks.take k)=F at *
   generalize anyNan (ks.take k)=S at *
   obtain ⟨t4,ht4⟩:∃ t,t=decide (4≤kd):=⟨_,rfl⟩;rw [←ht4] at CN HN;have HT4:=hid ht4;clear ht4
   rcases (show kd=5∨¬ kd=5 by omega) with h5 | h5<;>cases S
   ·have g5:((kd:Int)==5)=true:=by rw [h5];rfl
    have H5:Hid (kd=5):=hid h5;clear h5;go_wp2_with fail;refine (CN.o _).mono ?_;rintro e w2 ⟨rfl,hb2⟩;have HB2:=hid (HG.o.trans hb2);replace e0:=hb2.cell HCE.o;clear e1 e2 e3 e4 hb2;go_wp2_with fail
    go_roundw
    case rel=>exact ⟨k+1,by go_num,by omega,by rw [HFl.o,if_pos H5.o],by rw [HN.o];rfl,HB2⟩
    case measure=>simp [intOf];omega
   ·have g5:((kd:Int)==5)=true:=by rw [h5];rfl
    have H5:Hid (kd=5):=hid h5;clear h5;go_wp2_with fail
    go_roundw
    case rel=>exact ⟨k+1,by go_num,by omega,by rw [HFl.o,if_pos H5.o],by rw [HN.o];rfl,HG⟩
    case measure=>simp [intOf];omega
   ·have g5:((kd:Int)==5)=false:=beq_eq_false_iff_ne.2 (by omega);have H5:Hid (¬ kd=5):=hid h5;clear h5;go_wp2_with fail;refine (CN.o _).mono ?_;rintro e w2 ⟨rfl,hb2⟩;have HB2:=hid (HG.o.trans hb2);replace e0:=hb2.cell HCE.o;clear e1 e2 e3 e4 hb2;go_wp2_with fail
    go_roundw
    case rel=>exact ⟨k+1,by go_num,by omega,by rw [HFl.o,if_neg H5.o],by rw [HN.o];rfl,HB2⟩
    case measure=>simp [intOf];omega
   ·have g5:((kd:Int)==5)=false:=beq_eq_false_iff_ne.2 (by omega);have H5:Hid (¬ kd=5):=hid h5;clear h5;go_wp2_with fail
    go_roundw
    case rel=>exact ⟨k+1,by go_num,by omega,by rw [HFl.o,if_neg H5.o],by rw [HN.o];rfl,HG⟩
    case measure=>simp [intOf];omega
  ·obtain rfl:k=ks.length:=by omega
   have hd:decide ((ks.length:Int)<(ks.length:Int))=false:=by simp
   clear hlt hk;rw [List.take_length];obtain ⟨F,hF⟩:∃ F,F=flagOf ks:=⟨_,rfl⟩;obtain ⟨S,hS⟩:∃ S,S=anyNan ks:=⟨_,rfl⟩;have HFF:=hid hF;have HSS:=hid hS;rw [←HFF.o,←HSS.o];clear hF hS;go_wp2_with fail;refine (C1.o _).mono ?_;rintro e w1 ⟨rfl,g1⟩;obtain ⟨U2,U3⟩:=(HB_Z.o.ext g1).f2;go_wp2_with fail;clear U2 U3;obtain ⟨W2,hW2,g2,q2,B2,hy2,ho2⟩:=rsto2 (HE.o.trans g1) (by omega) (HB_Z.o.ext g1) (by decide) (.int .u64 (r0:Nat)) (.int .u64 (r1:Nat));rw [←hW2];clear hW2;replace HB_Z:=hid B2;unfold SpecPost;rw [show (if anySig ks=true then (1:Int) else 0)=flagOf ks from rfl,←HFF.o,←HSS.o,Er.o];obtain ⟨J4,J5⟩:=HB_Z.o.c2;refine bodyPost_ret (v:=.tuple #[.agg #[.int .u64 (r0:Nat),.int .u64 (r1:Nat)],.int .i64 F,.bool S]) (by simp [results,Tryz.results80,go_sem,J4,J5]) rfl ⟨rfl,g2⟩
def wordsR (B:Nat) (ws:List Nat):Int:=if ws.all (fun n=>decide (n<B))=true then 0 else 6
theorem wordsR_snoc (B:Nat) (l:List Nat) (n:Nat):wordsR B (l++[n])=if wordsR B l=0 then (if decide (n<B)=true then 0 else 6) else 6:=by
 unfold wordsR;rw [List.all_append]
 cases h:l.all (fun n=>decide (n<B))
 ·simp
 ·simp
theorem wordsR_six {B:Nat} (l m:List Nat) (h:wordsR B l≠0):wordsR B (l++m)=6:=by
 unfold wordsR at *
 rw [List.all_append]
 cases h1:l.all (fun n=>decide (n<B))
 ·simp
 ·rw [h1] at h;simp at h
theorem askZ_two {E P m:Int} (h:askZ E P m≠0):askZ E P m=2:=by
 unfold askZ fmtZ at *
 split<;>(try split)<;>simp_all
theorem rwords_bad (E P m:Int) (a:Option Addr) (n cap:Nat) (w:World) (hn:n≤cap) (_hcap:cap≤1000) (h:askZ E P m≠0) :
  Calls Tryz.prog 78 #[.agg #[.int .i64 E,.int .i64 P],.int .i64 m,.slice a n cap] w fun e w'=>e=.returned (.int .i64 2)∧Ext w w':=by
 have h2:=askZ_two h;have CA:Hid (∀ w,Calls Tryz.prog 144 #[.agg #[.int .i64 E,.int .i64 P],.int .i64 m] w fun e w'=>e=.returned (.int .i64 2)∧Ext w w'):=hid fun w=>by
  have h3:=rasked_c E P m w
  rwa [h2] at h3
 clear h h2;obtain ⟨W0,hW0,g0,hz0,B_F⟩:=pro1 w #[.int .i64 E,.int .i64 P] 23;have HE:=hid g0;have HB_F:=hid B_F;have ac:=HB_F.o.a2;have hr0:Ext W0 W0:=Below.refl _ _;clear g0 B_F 
 go_enter Tryz.func78,Tryz.ntmps78
 go_upto_region 1 with (fail)
 rw [←hW0];clear hW0;go_wp2_with fail;refine (CA.o _).mono ?_;rintro e w1 ⟨rfl,g1⟩;go_wp2_with fail
 go_loopg [7,8] 0 (fun g e i wx=>e=.int .i64 2∧i=.int .i64 0∧Hid (Ext w1 wx))
 case atStart=>exact ⟨rfl,rfl,hid (Below.refl _ _)⟩
 case round =>
  obtain ⟨rfl,rfl,HG⟩:=hrel
  rcases Nat.eq_zero_or_pos n with h0 | h0
  ·subst h0;go_wp2_with fail;go_ret
   exact ⟨rfl,(HE.o.trans g1).trans HG.o⟩
  ·have hd:decide ((0:Int)<(n:Int))=true:=decide_eq_true (by omega);go_wp2_with fail;go_ret
   exact ⟨rfl,(HE.o.trans g1).trans HG.o⟩
theorem rwords_good (E P m:Nat) (v:Value) (ws:List Nat) (w:World) (hF:Fmt E P) (hm:m≤4) (hv:WSl w v ws) :
  Calls Tryz.prog 78 #[.agg #[.int .i64 (E:Nat),.int .i64 (P:Nat)],.int .i64 (m:Nat),v] w fun e w'=>e=.returned (.int .i64 (wordsR (2^(E+P)) ws))∧Ext w w':=by
 obtain ⟨a,bb,off,cap,rfl,hc1,hc2,ha,hw,hc⟩:=hv;have HA:=hid ha;have HW:=hid hw;have HC:=hid hc;have HF:=hid hF;have CA:Hid (∀ w,Calls Tryz.prog 144 #[.agg #[.int .i64 (E:Nat),.int .i64 (P:Nat)],.int .i64 (m:Nat)] w fun e w'=>e=.returned (.int .i64 0)∧Ext w w'):=hid fun w=>by
  have h3:=rasked_c E P m w;have e:askZ E P m=0:=by unfold askZ fmtZ;rw [if_pos (by omega),if_pos hF]
  rwa [e] at h3
 obtain ⟨B,hB⟩:∃ B,B=2^(E+P):=⟨_,rfl⟩;obtain ⟨L,hL⟩:∃ L,L=ws.length:=⟨_,rfl⟩;have HL:=hid hL;have HB:=hid hB;have hL1:L≤1000:=by omega
 rw [←hL] at hc1 ⊢;rw [←hB];obtain ⟨R,hR⟩:∃ R:Int,R=wordsR B ws:=⟨_,rfl⟩;have HRR:=hid hR;rw [←HRR.o];clear hF ha hw hc hB hL hc2 hR;obtain ⟨W0,hW0,g0,hz0,B_F⟩:=pro1 w #[.int .i64 (E:Nat),.int .i64 (P:Nat)] 23;have HE:=hid g0;have HB_F:=hid B_F;have ac:=HB_F.o.a2;have hr0:Ext W0 W0:=Below.refl _ _;clear g0 B_F 
 go_enter Tryz.func78,Tryz.ntmps78
 go_upto_region 1 with (fail)
 rw [←hW0];clear hW0;go_wp2_with fail;refine (CA.o _).mono ?_;rintro e w1 ⟨rfl,g1⟩;have HE:=hid (HE.o.trans g1);replace HB_F:=hid (HB_F.o.ext g1);replace ac:=g1.cl ac;have hr1:Ext w1 w1:=Below.refl _ _;go_wp2_with fail
 go_loopg [7,8] L (fun g e i wx=>∃ (k:Nat) (z:Int),e=.int .i64 z∧i=.int .i64 (k:Nat)∧g+k=L∧Hid (z=wordsR B (ws.take k))∧Hid (Ext w1 wx))
 case atStart=>exact ⟨0,0,rfl,rfl,by omega,hid rfl,hid (Below.refl _ _)⟩
 case round =>
  obtain ⟨k,z,rfl,rfl,hk,HZ,HG⟩:=hrel;have HEr:=hid (HE.o.trans HG.o);have HFr:=hid (HB_F.o.ext HG.o);have hz_wr:=HG.o.size
  by_cases hz:z=0
  ·subst hz
   rcases Nat.eq_zero_or_pos gk with h0 | h0
   ·obtain rfl:k=L:=by omega
    have hd:decide ((k:Int)<(k:Int))=false:=by simp
    have HR:Hid (R=0):=hid (by
     rw [HRR.o];have h:=HZ.o;rw [HL.o,List.take_length] at h;exact h.symm)
    clear hk h0;go_wp2_with fail;go_ret
    exact ⟨by rw [HR.o];rfl,HEr.o⟩
   ·have hkL:k<L:=by omega
    have hd:decide ((k:Int)<(L:Int))=true:=decide_eq_true (by omega);have hlt:k<ws.length:=by rw [←HL.o];exact hkL
    obtain ⟨n,hn⟩:∃ n,n=ws.getD k 0:=⟨_,rfl⟩;obtain ⟨e0,e1⟩:=HC.o k hlt;rw [←hn] at e0 e1;obtain ⟨h,hh⟩:∃ h,h=n/18446744073709551616:=⟨_,rfl⟩;obtain ⟨l,hl⟩:∃ l,l=n%18446744073709551616:=⟨_,rfl⟩;rw [←hh] at e0;rw [←hl] at e1;have hwn:Word n=.agg #[.int .u64 (h:Nat),.int .u64 (l:Nat)]:=by unfold Word;rw [hh,hl]
    have hn128:n<340282366920938463463374607431768211456:=by
     have h6:n∈ws:=by rw [hn,List.getD_eq_getElem?_getD,List.getElem?_eq_getElem hlt];exact List.getElem_mem hlt
     exact HW.o _ h6
    obtain ⟨t,ht⟩:∃ t,t=decide (n<B):=⟨_,rfl⟩;have CI:Hid (∀ w,Calls Tryz.prog 145 #[.agg #[.int .i64 (E:Nat),.int .i64 (P:Nat)],.agg #[.int .u64 (h:Nat),.int .u64 (l:Nat)]] w fun e w'=>e=.returned (.bool t)∧Ext w w'):=hid fun w=>by
     rw [←hwn,ht,HB.o];exact ris_c E P n w HF.o hn128
    have hts:ws.take (k+1)=ws.take k++[n]:=by rw [List.take_succ_eq_append_getElem hlt,hn,List.getD_eq_getElem?_getD,List.getElem?_eq_getElem hlt];rfl
    have HZ2:Hid ((if t=true then 0 else 6:Int)=wordsR B (ws.take (k+1))):=hid (by
     rw [hts,wordsR_snoc,if_pos HZ.o.symm,ht])
    obtain rfl:=HA.o (by omega);replace e0:=HEr.o.cell e0;replace e1:=HEr.o.cell e1;have i1:(0:Int)≤(k:Int):=by omega
    have i2:(k:Int)<(L:Int):=by omega
    have i3:k<L:=hkL;clear hn hh hl hwn hn128 ht hts hlt HZ;obtain ⟨wq,rfl⟩:∃ x,x=wr:=⟨_,rfl⟩
    go_upto_region 5 with (fail)
    have HB_F:=HFr;have HE:=HEr;have ac:=HB_F.o.a2;have hr2:Ext wq wq:=Below.refl _ _;have mc0:∀ w',Ext wq w'→w'.cell? ⟨bb,off+k*2,none⟩=some (.int .u64 (h:Nat)):=fun w' h=>h.cell e0;have mc1:∀ w',Ext wq w'→w'.cell? ⟨bb,off+k*2+1,none⟩=some (.int .u64 (l:Nat)):=fun w' h=>h.cell e1;have g2:Ext wq wq.drew:=Below.drew (Below.refl _ _);refine wp_region_held_drew (S:=Ext wq) (by kernel_rfl) (g2) (fun hHeld => ?_);generalize wq.drew=wD2 at *
    apply wts 0 22 rfl rfl (by kernel_rfl) (fun _ _ _ h=>h) hHeld
    ·intro w' hSw;go_simp<;>with_reducible rfl
    apply wts 1 23 rfl rfl (by kernel_rfl) (fun _ _ _ h=>h) hHeld
    ·intro w' hSw;go_simp<;>with_reducible rfl
    apply wts 2 24 rfl rfl (by kernel_rfl) (fun _ _ _ h=>h) hHeld
    ·intro w' hSw;go_simp<;>with_reducible rfl
    apply wts 3 25 rfl rfl (by kernel_rfl) (fun _ _ _ h=>h) hHeld
    ·intro w' hSw;go_simp<;>with_reducible rfl
    apply wts 4 26 rfl rfl (by kernel_rfl) (fun _ _ _ h=>h) hHeld
    ·intro w' hSw;go_simp<;>with_reducible rfl
    try simp only [Act.put,pA,pB,pC]
    refine wonc 5 27 145 #[.tmp 22,.tmp 26] #[23,29] 4 (by kernel_rfl) rfl rfl (fun KK hKK => ?_);go_simp;refine (CI.o _).mono ?_;rintro e w3 ⟨rfl,g3⟩;have hb3:=g2.trans g3
    try dsimp only
    refine hKK.out _ _ (hb3) (fun hHeld => ?_);apply wts 6 28 rfl rfl (by kernel_rfl) (fun _ _ _ h=>h) hHeld
    ·intro w' hSw;go_simp<;>with_reducible rfl
    refine wpAnyH_done (by kernel_rfl) ?_ _
    cases t
    ·go_wp2_with fail
     go_roundg (gk-1)
     case measure=>omega
     case rel=>exact ⟨k+1,6,rfl,by go_num,by omega,HZ2,hid (HG.o.trans hb3)⟩
    ·go_wp2_with fail
     go_roundg (gk-1)
     case measure=>omega
     case rel=>exact ⟨k+1,0,rfl,by go_num,by omega,HZ2,hid (HG.o.trans hb3)⟩
  ·have HZ6:Hid (z=6∧R=6):=hid (by
    have h7:wordsR B (ws.take k)≠0:=by rw [←HZ.o];exact hz
    have h8:=wordsR_six (ws.take k) [] h7;rw [List.append_nil] at h8;have h9:=wordsR_six (ws.take k) (ws.drop k) h7;rw [List.take_append_drop] at h9
    exact ⟨by rw [HZ.o,h8],by rw [HRR.o,h9]⟩)
   obtain rfl:=HZ6.o.1;have HR:Hid (R=6):=hid HZ6.o.2;clear hz
   rcases Nat.lt_or_ge k L with h0 | h0
   ·have hd:decide ((k:Int)<(L:Int))=true:=decide_eq_true (by omega);have hk2:k<L:=h0;go_wp2_with fail;go_ret
    exact ⟨by rw [HR.o];rfl,HEr.o⟩
   ·have hd:decide ((k:Int)<(L:Int))=false:=decide_eq_false (by omega);have hk2:¬ k<L:=by omega
    go_wp2_with fail;go_ret
    exact ⟨by rw [HR.o];rfl,HEr.o⟩
def ROpV (w:World) (v:Value) (k:Int) (neg:Bool) (q:Rat):Prop:=∃ (s:Int) (a:Option Addr) (n c:Nat) (a':Option Addr) (n' c':Nat),v=.agg #[.int .i64 k,.bool neg,.int .i64 s,.slice a n c,.slice a' n' c']∧RNumV w (.agg #[.int .i64 s,.slice a n c,.slice a' n' c']) q
def RLookPost (k:Int) (neg:Bool) (q:Rat) (w:World) (e:Ending) (w':World):Prop:=∃ v,e=.returned v∧ROpV w' v k neg q∧Ext w w'
structure LookC (E P n f r T:Nat) (neg:Bool):Prop where
 cw:∀ h l:Nat,Word n=.agg #[.int .u64 (h:Nat),.int .u64 (l:Nat)]→∀ w,Calls Tryz.prog 90 #[.agg #[.int .u64 (h:Nat),.int .u64 (l:Nat)]] w fun e w'=>∃ v,e=.returned v∧RNumV w' v ((n:Nat):Rat)∧Ext w w'
 p1:∀ w x,RNumV w x ((n:Nat):Rat)→Calls Tryz.prog 146 #[x,.int .i64 0,.int .i64 ((P:Int)-1)] w fun e w'=>∃ v,e=.returned v∧RNumV w' v ((r:Nat):Rat)∧Ext w w'
 p2:∀ w x,RNumV w x ((n:Nat):Rat)→Calls Tryz.prog 146 #[x,.int .i64 ((P:Int)-1),.int .i64 (E:Nat)] w fun e w'=>∃ v,e=.returned v∧RNumV w' v ((f:Nat):Rat)∧Ext w w'
 p3:∀ w x,RNumV w x ((n:Nat):Rat)→Calls Tryz.prog 146 #[x,.int .i64 ((E:Int)+(P:Int)-1),.int .i64 1] w fun e w'=>∃ v,e=.returned v∧RNumV w' v (((if neg then 1 else 0:Nat):Nat):Rat)∧Ext w w'
 f1:f<4294967296
 tw:∀ w,Calls Tryz.prog 60 #[.int .i64 ((P:Int)-2)] w fun e w'=>∃ v,e=.returned v∧RNumV w' v ((2^(P-2):Nat):Rat)∧Ext w w'
 tp:∀ w,Calls Tryz.prog 63 #[.agg #[.int .i64 (E:Nat),.int .i64 (P:Nat)]] w fun e w'=>e=.returned (.int .i64 (T:Nat))∧Ext w w'
 hT:T=2^E-1
 hr:r<2^(P-1)
 hf:f≤T
theorem LookC.of {E P n:Nat} (hF:Fmt E P) (hn:n<2^(E+P)):LookC E P n (n/2^(P-1)%2^E) (n%2^(P-1)) (2^E-1) (wn E P n):=by
 obtain ⟨hE,hP,hb,hEP,hb1⟩:=fmt_bounds hF;have h124:=fmt_pow hF;have hn200:n<2^200:=by omega
 have hE0:0<2^E:=Nat.pow_pos (by decide);refine ⟨fun h l e w => ?_,fun w x h => ?_,fun w x h => ?_,fun w x h => ?_,?_,fun w => ?_,fun w=>rtop_c E P w hF,rfl,Nat.mod_lt _ (Nat.pow_pos (by decide)),?_⟩
 ·rw [←e];exact rbits_c n w (by omega)
 ·have h2:=rpart_c x n 0 (P-1) 0 ((P:Int)-1) w h hn200 rfl (by omega) (by omega) (by omega);rw [Nat.pow_zero,Nat.div_one] at h2;exact h2
 ·exact rpart_c x n (P-1) E ((P:Int)-1) (E:Int) w h hn200 (by omega) rfl (by omega) (by omega)
 ·have h2:=rpart_c x n (E+P-1) 1 ((E:Int)+(P:Int)-1) 1 w h hn200 (by omega) rfl (by omega) (by omega);have h3:n/2^(E+P-1)<2:=by
   apply Nat.div_lt_of_lt_mul
   rw [Nat.mul_comm,←Nat.pow_succ']
   rwa [show (E+P-1).succ=E+P by omega]
  have e:n/2^(E+P-1)%2^1=if wn E P n then 1 else 0:=by
   unfold wn;generalize n/2^(E+P-1)=d at *
   by_cases h4:d=0
   ·rw [h4];simp
   ·rw [show d=1 by omega];simp
  rw [e] at h2;exact h2
 ·have:n/2^(P-1)%2^E<2^E:=Nat.mod_lt _ hE0
  have:2^E≤2^11:=Nat.pow_le_pow_right (by decide) hE.2
  omega
 ·have h2:=rtwo_c ((P-2:Nat):Int) w (by omega) (by omega);rw [p2_nat] at h2;rw [show (P:Int)-2=((P-2:Nat):Int) by omega];exact h2
 ·have:n/2^(P-1)%2^E<2^E:=Nat.mod_lt _ hE0
  omega
theorem sign_nat (k:Nat):((k:Nat):Rat).num.sign=if k=0 then 0 else 1:=by
 rw [show ((k:Nat):Rat).num=(k:Int) from Rat.num_natCast k]
 by_cases h:k=0
 ·subst h;rfl
 ·rw [if_neg h];exact Int.sign_eq_one_of_pos (by omega)
theorem rlook_3 (E P n f r T h l:Nat) (neg:Bool) (w:World) (hF:Fmt E P) (HC:Hid (LookC E P n f r T neg)) (hw:Word n=.agg #[.int .u64 (h:Nat),.int .u64 (l:Nat)]) (hfT:f=T) (hr0:r=0) :
  Calls Tryz.prog 79 #[.agg #[.int .i64 (E:Nat),.int .i64 (P:Nat)],.agg #[.int .u64 (h:Nat),.int .u64 (l:Nat)]] w fun e w'=>RLookPost 3 neg (0) w e w':=by
 obtain ⟨hE,hP,hb,hEP,hb1⟩:=fmt_bounds hF;have HF:=hid hF;have CW:=hid (HC.o.cw h l hw);have C1:=hid HC.o.p1;have C2:=hid HC.o.p2;have C3:=hid HC.o.p3;have CT:=hid HC.o.tw;have CTP:=hid HC.o.tp;have hf1:=HC.o.f1;have hE1:E≤11:=hE.2;have hP1:2≤P:=hP.1;have hP2:P≤113:=hP.2;have CSG:Hid (∀ w u,RNumV w u (((if neg then 1 else 0:Nat):Nat):Rat)→Calls Tryz.prog 58 #[u] w fun e w'=>e=.returned (.int .i64 (if neg then 1 else 0))∧Ext w w'):=hid fun w u h=>by
  have h2:=rsign_c u _ w h;rw [sign_nat] at h2
  cases neg
  ·exact h2
  ·exact h2
 obtain ⟨zs,hzs⟩:∃ z:Int,z=if neg then 1 else 0:=⟨_,rfl⟩;obtain ⟨zn,hzn⟩:∃ z:Nat,z=if neg then 1 else 0:=⟨_,rfl⟩;rw [←hzs,←hzn] at CSG;rw [←hzn] at C3;have hneg:decide ((0:Int)<zs)=neg:=by rw [hzs];cases neg<;>rfl
 obtain ⟨zr,hzr⟩:∃ z:Int,z=if r=0 then 0 else 1:=⟨_,rfl⟩;have CSR:Hid (∀ w u,RNumV w u ((r:Nat):Rat)→Calls Tryz.prog 58 #[u] w fun e w'=>e=.returned (.int .i64 zr)∧Ext w w'):=hid fun w u h=>by
  have h2:=rsign_c u _ w h;rw [sign_nat,←hzr] at h2;exact h2
 have hr1:r<2^112:=Nat.lt_of_lt_of_le HC.o.hr (Nat.pow_le_pow_right (by decide) (by omega));have SR:Hid (SmQ 201 ((r:Nat):Rat)):=hid (nat_sm (by omega));have hq1:2^(P-2)≤2^111:=Nat.pow_le_pow_right (by decide) (by omega);obtain ⟨Q,hQ⟩:∃ Q,Q=2^(P-2):=⟨_,rfl⟩;rw [←hQ] at CT hq1;have SQ:Hid (SmQ 201 ((Q:Nat):Rat)):=hid (nat_sm (by omega));obtain ⟨cq,hcq⟩:∃ z:Int,z=cmpQ ((r:Nat):Rat) ((Q:Nat):Rat):=⟨_,rfl⟩;have CCQ:Hid (∀ w u v,RNumV w u ((r:Nat):Rat)→RNumV w v ((Q:Nat):Rat)→Calls Tryz.prog 59 #[u,v] w fun e w'=>e=.returned (.int .i64 cq)∧Ext w w'):=hid fun w u v h k=>by
  rw [hcq];exact rcmpq_c u v _ _ 201 w h k SR.o SQ.o (by decide)
 have HTT:=hid HC.o.hT;have HFT:=hid HC.o.hf;subst hfT;have hz:(zr==0)=true:=by rw [hzr,if_pos hr0];rfl
 clear hr0;clear hE hP hb hEP hb1 hF hzs hzn hzr hr1 hq1 hQ hcq HC hw;obtain ⟨W0,hW0,g0,hz0,B_F,B_W,B_Z⟩:=pro3s w #[.int .i64 (E:Nat),.int .i64 (P:Nat)] #[.int .u64 (h:Nat),.int .u64 (l:Nat)] #[.int .i64 0,.bool false,.int .i64 0,.slice none 0 0,.slice none 0 0] 23 29 122;have HE:=hid g0;have HB_F:=hid B_F;have HB_W:=hid B_W;have HB_Z:=hid B_Z;have ac:=cland HB_F.o.a2 (cland HB_W.o.a2 (HB_Z.o.a5));have hr0:Ext W0 W0:=Below.refl _ _;clear g0 B_F B_W B_Z 
 go_enter Tryz.func79,Tryz.ntmps79
 go_upto_region 1 with (fail)
 rw [←hW0];clear hW0;go_wp2_with fail;refine (CW.o _).mono ?_;rintro e w1 ⟨v1,rfl,kn,g1⟩;obtain ⟨s31,a31,n31,c31,a31',n31',c31',rfl⟩:=kn.shape;have gA:=g1.trans (Ext.alloc w1 (.cells #[.int .i64 s31,.slice a31 n31 c31,.slice a31' n31' c31'] 43));go_wp2_with fail;clear gA;have hs1:=g1.size;obtain ⟨W2,hW2,g2,hy2,B_N⟩:=pro1 w1 #[.int .i64 s31,.slice a31 n31 c31,.slice a31' n31' c31'] 43;rw [←hW2];clear hW2;have hb2:=g1.trans g2;have HB_N:=hid B_N;clear B_N;have he3:=(HE.o.trans hb2);replace ac:=hb2.cl ac;have hr4:Ext W2 W2:=Below.refl _ _;replace ac:=cland ac HB_N.o.a3;refine (C1.o _ _ (kn.ext g2)).mono ?_;rintro e w3 ⟨v3,rfl,kr,g3⟩;obtain ⟨s32,a32,n32,c32,a32',n32',c32',rfl⟩:=kr.shape;have gA:=g3.trans (Ext.alloc w3 (.cells #[.int .i64 s32,.slice a32 n32 c32,.slice a32' n32' c32'] 43));go_wp2_with fail;clear gA;have hs5:=g3.size;obtain ⟨W4,hW4,g4,hy4,B_R⟩:=pro1 w3 #[.int .i64 s32,.slice a32 n32 c32,.slice a32' n32' c32'] 43;rw [←hW4];clear hW4;have hb6:=g3.trans g4;have HB_R:=hid B_R;clear B_R;have he7:=(he3.trans hb6);replace ac:=hb6.cl ac;have hr8:Ext W4 W4:=Below.refl _ _;replace ac:=cland ac HB_R.o.a3;refine (C2.o _ _ (kn.ext (g2.trans (g3.trans g4)))).mono ?_;rintro e w5 ⟨v5,rfl,kf,g5⟩;go_wp2_with fail;refine (rsmall_c _ f _ kf hf1).mono ?_;rintro e w6 ⟨rfl,g6⟩;have hb9:=g5.trans g6;clear kf;go_wp2_with fail;refine (C3.o _ _ ((kn.ext (g2.trans (g3.trans g4))).ext hb9)).mono ?_;rintro e w7 ⟨v7,rfl,ks,g7⟩;have hb10:=hb9.trans g7;go_wp2_with fail;refine (CSG.o _ _ ks).mono ?_;rintro e w8 ⟨rfl,g8⟩;have hb11:=hb10.trans g8;clear ks;have gA:=hb11.trans (Ext.alloc w8 (.cells #[.int .i64 2,.bool neg,.int .i64 0,.slice none 0 0,.slice none 0 0] 122));go_wp2_with fail;clear gA;have hs12:=(g5.trans (g6.trans (g7.trans g8))).size;obtain ⟨W9,hW9,g9,hy9,B_O⟩:=pro1 w8 #[.int .i64 2,.bool neg,.int .i64 0,.slice none 0 0,.slice none 0 0] 122;rw [←hW9];clear hW9;have hb13:=hb11.trans g9;have HB_O:=hid B_O;clear B_O;have he14:=(he7.trans hb13);replace ac:=hb13.cl ac;have hr15:Ext W9 W9:=Below.refl _ _;replace ac:=cland ac HB_O.o.a5;refine (CT.o _).mono ?_;rintro e w10 ⟨v10,rfl,kq,g10⟩;obtain ⟨s33,a33,n33,c33,a33',n33',c33',rfl⟩:=kq.shape;have gA:=g10.trans (Ext.alloc w10 (.cells #[.int .i64 s33,.slice a33 n33 c33,.slice a33' n33' c33'] 43));go_wp2_with fail;clear gA;have hs16:=g10.size;obtain ⟨W11,hW11,g11,hy11,B_Q⟩:=pro1 w10 #[.int .i64 s33,.slice a33 n33 c33,.slice a33' n33' c33'] 43;rw [←hW11];clear hW11;have hb17:=g10.trans g11;have HB_Q:=hid B_Q;clear B_Q;have he18:=(he14.trans hb17);replace ac:=hb17.cl ac;have hr19:Ext W11 W11:=Below.refl _ _;replace ac:=cland ac HB_Q.o.a3;refine (CTP.o _).mono ?_;rintro e w12 ⟨rfl,g12⟩;go_wp2_with fail;refine (CSR.o _ _ ((kr.ext (g4.trans (g5.trans (g6.trans (g7.trans (g8.trans (g9.trans (g10.trans g11)))))))).ext g12)).mono ?_;rintro e w13 ⟨rfl,g13⟩;have hb20:=g12.trans g13;obtain ⟨U21,U22,U23,U24,U25⟩:=((HB_O.o.ext (g10.trans g11)).ext hb20).f5;obtain ⟨U26,U27,U28,U29,U30⟩:=((HB_Z.o.ext (g1.trans (g2.trans (g3.trans (g4.trans (g5.trans (g6.trans (g7.trans (g8.trans (g9.trans (g10.trans g11))))))))))).ext hb20).f5;go_wp2_with fail;clear U21 U22 U23 U24 U25 U26 U27 U28 U29 U30;obtain ⟨W14,hW14⟩:∃ W,W=(w13.setCell ⟨w8.heap.size,0,none⟩ (.int .i64 3)):=⟨_,rfl⟩;rw [←hW14];obtain ⟨g14,q14,B14,hy14,ho14⟩:=rstoG 0 [.int .i64 3] (cs':=#[.int .i64 3,.bool neg,.int .i64 0,.slice none 0 0,.slice none 0 0]) hW14 (he18.trans hb20) (by omega) ((HB_O.o.ext (g10.trans g11)).ext hb20) (by decide) rfl;clear hW14;replace HB_O:=hid B14;obtain ⟨W15,hW15⟩:∃ W,W=(((((W14.setCell ⟨w.heap.size+1+1,0,none⟩ (.int .i64 3)).setCell ⟨w.heap.size+1+1,1,none⟩ (.bool neg)).setCell ⟨w.heap.size+1+1,2,none⟩ (.int .i64 0)).setCell ⟨w.heap.size+1+1,3,none⟩ (.slice none 0 0)).setCell ⟨w.heap.size+1+1,4,none⟩ (.slice none 0 0)):=⟨_,rfl⟩;rw [←hW15];obtain ⟨g15,q15,B15,hy15,ho15⟩:=rstoG 0 [.int .i64 3,.bool neg,.int .i64 0,.slice none 0 0,.slice none 0 0] (cs':=#[.int .i64 3,.bool neg,.int .i64 0,.slice none 0 0,.slice none 0 0]) hW15 g14 (by omega) (ho14 _ _ _ (by omega) (HB_Z.o.ext (g1.trans (g2.trans (g3.trans (g4.trans (g5.trans (g6.trans (g7.trans (g8.trans (g9.trans (g10.trans (g11.trans (g12.trans g13)))))))))))))) (by decide) rfl;clear hW15;replace HB_Z:=hid B15;unfold RLookPost;obtain ⟨J31,J32,J33,J34,J35⟩:=HB_Z.o.c5;refine bodyPost_ret (v:=.agg #[.int .i64 3,.bool neg,.int .i64 0,.slice none 0 0,.slice none 0 0]) (by simp [results,Tryz.results79,go_sem,J31,J32,J33,J34,J35]) rfl ⟨_,rfl,⟨_,_,_,_,_,_,_,rfl,RNumV.zero _⟩,g15⟩
theorem rlook_4 (E P n f r T h l:Nat) (neg:Bool) (w:World) (hF:Fmt E P) (HC:Hid (LookC E P n f r T neg)) (hw:Word n=.agg #[.int .u64 (h:Nat),.int .u64 (l:Nat)]) (hfT:f=T) (hr0:r≠0) (hrq:2^(P-2)≤r) :
  Calls Tryz.prog 79 #[.agg #[.int .i64 (E:Nat),.int .i64 (P:Nat)],.agg #[.int .u64 (h:Nat),.int .u64 (l:Nat)]] w fun e w'=>RLookPost 4 neg (((r-2^(P-2):Nat):Rat)) w e w':=by
 obtain ⟨hE,hP,hb,hEP,hb1⟩:=fmt_bounds hF;have HF:=hid hF;have CW:=hid (HC.o.cw h l hw);have C1:=hid HC.o.p1;have C2:=hid HC.o.p2;have C3:=hid HC.o.p3;have CT:=hid HC.o.tw;have CTP:=hid HC.o.tp;have hf1:=HC.o.f1;have hE1:E≤11:=hE.2;have hP1:2≤P:=hP.1;have hP2:P≤113:=hP.2;have CSG:Hid (∀ w u,RNumV w u (((if neg then 1 else 0:Nat):Nat):Rat)→Calls Tryz.prog 58 #[u] w fun e w'=>e=.returned (.int .i64 (if neg then 1 else 0))∧Ext w w'):=hid fun w u h=>by
  have h2:=rsign_c u _ w h;rw [sign_nat] at h2
  cases neg
  ·exact h2
  ·exact h2
 obtain ⟨zs,hzs⟩:∃ z:Int,z=if neg then 1 else 0:=⟨_,rfl⟩;obtain ⟨zn,hzn⟩:∃ z:Nat,z=if neg then 1 else 0:=⟨_,rfl⟩;rw [←hzs,←hzn] at CSG;rw [←hzn] at C3;have hneg:decide ((0:Int)<zs)=neg:=by rw [hzs];cases neg<;>rfl
 obtain ⟨zr,hzr⟩:∃ z:Int,z=if r=0 then 0 else 1:=⟨_,rfl⟩;have CSR:Hid (∀ w u,RNumV w u ((r:Nat):Rat)→Calls Tryz.prog 58 #[u] w fun e w'=>e=.returned (.int .i64 zr)∧Ext w w'):=hid fun w u h=>by
  have h2:=rsign_c u _ w h;rw [sign_nat,←hzr] at h2;exact h2
 have hr1:r<2^112:=Nat.lt_of_lt_of_le HC.o.hr (Nat.pow_le_pow_right (by decide) (by omega));have SR:Hid (SmQ 201 ((r:Nat):Rat)):=hid (nat_sm (by omega));have hq1:2^(P-2)≤2^111:=Nat.pow_le_pow_right (by decide) (by omega);obtain ⟨Q,hQ⟩:∃ Q,Q=2^(P-2):=⟨_,rfl⟩;rw [←hQ] at CT hq1;have SQ:Hid (SmQ 201 ((Q:Nat):Rat)):=hid (nat_sm (by omega));obtain ⟨cq,hcq⟩:∃ z:Int,z=cmpQ ((r:Nat):Rat) ((Q:Nat):Rat):=⟨_,rfl⟩;have CCQ:Hid (∀ w u v,RNumV w u ((r:Nat):Rat)→RNumV w v ((Q:Nat):Rat)→Calls Tryz.prog 59 #[u,v] w fun e w'=>e=.returned (.int .i64 cq)∧Ext w w'):=hid fun w u v h k=>by
  rw [hcq];exact rcmpq_c u v _ _ 201 w h k SR.o SQ.o (by decide)
 have HTT:=hid HC.o.hT;have HFT:=hid HC.o.hf;subst hfT;have hz:(zr==0)=false:=by rw [hzr,if_neg hr0];rfl
 have hc:decide ((0:Int)≤cq)=true:=decide_eq_true (by rw [hcq,cmpQ_nat,if_neg (by omega)];split<;>omega);rw [←hQ];have CSU:Hid (∀ w u v,RNumV w u ((r:Nat):Rat)→RNumV w v ((Q:Nat):Rat)→Calls Tryz.prog 89 #[u,v] w fun e w'=>∃ z,e=.returned z∧RNumV w' z ((r-Q:Nat):Rat)∧Ext w w'):=hid fun w u v h2 h3=>by
  have h4:=rsubq_c u v _ _ 201 w h2 h3 SR.o SQ.o (by decide);rw [nat_sub (by omega)] at h4;exact h4
 clear hr0 hrq;clear hE hP hb hEP hb1 hF hzs hzn hzr hr1 hq1 hQ hcq HC hw;obtain ⟨W0,hW0,g0,hz0,B_F,B_W,B_Z⟩:=pro3s w #[.int .i64 (E:Nat),.int .i64 (P:Nat)] #[.int .u64 (h:Nat),.int .u64 (l:Nat)] #[.int .i64 0,.bool false,.int .i64 0,.slice none 0 0,.slice none 0 0] 23 29 122;have HE:=hid g0;have HB_F:=hid B_F;have HB_W:=hid B_W;have HB_Z:=hid B_Z;have ac:=cland HB_F.o.a2 (cland HB_W.o.a2 (HB_Z.o.a5));have hr0:Ext W0 W0:=Below.refl _ _;clear g0 B_F B_W B_Z 
 go_enter Tryz.func79,Tryz.ntmps79
 go_upto_region 1 with (fail)
 rw [←hW0];clear hW0;go_wp2_with fail;refine (CW.o _).mono ?_;rintro e w1 ⟨v1,rfl,kn,g1⟩;obtain ⟨s31,a31,n31,c31,a31',n31',c31',rfl⟩:=kn.shape;have gA:=g1.trans (Ext.alloc w1 (.cells #[.int .i64 s31,.slice a31 n31 c31,.slice a31' n31' c31'] 43));go_wp2_with fail;clear gA;have hs1:=g1.size;obtain ⟨W2,hW2,g2,hy2,B_N⟩:=pro1 w1 #[.int .i64 s31,.slice a31 n31 c31,.slice a31' n31' c31'] 43;rw [←hW2];clear hW2;have hb2:=g1.trans g2;have HB_N:=hid B_N;clear B_N;have he3:=(HE.o.trans hb2);replace ac:=hb2.cl ac;have hr4:Ext W2 W2:=Below.refl _ _;replace ac:=cland ac HB_N.o.a3;refine (C1.o _ _ (kn.ext g2)).mono ?_;rintro e w3 ⟨v3,rfl,kr,g3⟩;obtain ⟨s32,a32,n32,c32,a32',n32',c32',rfl⟩:=kr.shape;have gA:=g3.trans (Ext.alloc w3 (.cells #[.int .i64 s32,.slice a32 n32 c32,.slice a32' n32' c32'] 43));go_wp2_with fail;clear gA;have hs5:=g3.size;obtain ⟨W4,hW4,g4,hy4,B_R⟩:=pro1 w3 #[.int .i64 s32,.slice a32 n32 c32,.slice a32' n32' c32'] 43;rw [←hW4];clear hW4;have hb6:=g3.trans g4;have HB_R:=hid B_R;clear B_R;have he7:=(he3.trans hb6);replace ac:=hb6.cl ac;have hr8:Ext W4 W4:=Below.refl _ _;replace ac:=cland ac HB_R.o.a3;refine (C2.o _ _ (kn.ext (g2.trans (g3.trans g4)))).mono ?_;rintro e w5 ⟨v5,rfl,kf,g5⟩;go_wp2_with fail;refine (rsmall_c _ f _ kf hf1).mono ?_;rintro e w6 ⟨rfl,g6⟩;have hb9:=g5.trans g6;clear kf;go_wp2_with fail;refine (C3.o _ _ ((kn.ext (g2.trans (g3.trans g4))).ext hb9)).mono ?_;rintro e w7 ⟨v7,rfl,ks,g7⟩;have hb10:=hb9.trans g7;go_wp2_with fail;refine (CSG.o _ _ ks).mono ?_;rintro e w8 ⟨rfl,g8⟩;have hb11:=hb10.trans g8;clear ks;have gA:=hb11.trans (Ext.alloc w8 (.cells #[.int .i64 2,.bool neg,.int .i64 0,.slice none 0 0,.slice none 0 0] 122));go_wp2_with fail;clear gA;have hs12:=(g5.trans (g6.trans (g7.trans g8))).size;obtain ⟨W9,hW9,g9,hy9,B_O⟩:=pro1 w8 #[.int .i64 2,.bool neg,.int .i64 0,.slice none 0 0,.slice none 0 0] 122;rw [←hW9];clear hW9;have hb13:=hb11.trans g9;have HB_O:=hid B_O;clear B_O;have he14:=(he7.trans hb13);replace ac:=hb13.cl ac;have hr15:Ext W9 W9:=Below.refl _ _;replace ac:=cland ac HB_O.o.a5;refine (CT.o _).mono ?_;rintro e w10 ⟨v10,rfl,kq,g10⟩;obtain ⟨s33,a33,n33,c33,a33',n33',c33',rfl⟩:=kq.shape;have gA:=g10.trans (Ext.alloc w10 (.cells #[.int .i64 s33,.slice a33 n33 c33,.slice a33' n33' c33'] 43));go_wp2_with fail;clear gA;have hs16:=g10.size;obtain ⟨W11,hW11,g11,hy11,B_Q⟩:=pro1 w10 #[.int .i64 s33,.slice a33 n33 c33,.slice a33' n33' c33'] 43;rw [←hW11];clear hW11;have hb17:=g10.trans g11;have HB_Q:=hid B_Q;clear B_Q;have he18:=(he14.trans hb17);replace ac:=hb17.cl ac;have hr19:Ext W11 W11:=Below.refl _ _;replace ac:=cland ac HB_Q.o.a3;refine (CTP.o _).mono ?_;rintro e w12 ⟨rfl,g12⟩;go_wp2_with fail;refine (CSR.o _ _ ((kr.ext (g4.trans (g5.trans (g6.trans (g7.trans (g8.trans (g9.trans (g10.trans g11)))))))).ext g12)).mono ?_;rintro e w13 ⟨rfl,g13⟩;have hb20:=g12.trans g13;go_wp2_with fail;refine (CTP.o _).mono ?_;rintro e w14 ⟨rfl,g14⟩;have hb21:=hb20.trans g14;go_wp2_with fail;refine (CCQ.o _ _ _ ((kr.ext (g4.trans (g5.trans (g6.trans (g7.trans (g8.trans (g9.trans (g10.trans g11)))))))).ext hb21) ((kq.ext g11).ext hb21)).mono ?_;rintro e w15 ⟨rfl,g15⟩;have hb22:=hb21.trans g15;go_wp2_with fail;refine (CSU.o _ _ _ ((kr.ext (g4.trans (g5.trans (g6.trans (g7.trans (g8.trans (g9.trans (g10.trans g11)))))))).ext hb22) ((kq.ext g11).ext hb22)).mono ?_;rintro e w16 ⟨v16,rfl,kv,g16⟩;have hb23:=hb22.trans g16;obtain ⟨s34,a34,n34,c34,a34',n34',c34',rfl⟩:=kv.shape;obtain ⟨U24,U25,U26,U27,U28⟩:=((HB_O.o.ext (g10.trans g11)).ext hb23).f5;obtain ⟨U29,U30,U31,U32,U33⟩:=((HB_Z.o.ext (g1.trans (g2.trans (g3.trans (g4.trans (g5.trans (g6.trans (g7.trans (g8.trans (g9.trans (g10.trans g11))))))))))).ext hb23).f5;go_wp2_with fail;clear U24 U25 U26 U27 U28 U29 U30 U31 U32 U33;obtain ⟨W17,hW17⟩:∃ W,W=(w16.setCell ⟨w8.heap.size,0,none⟩ (.int .i64 4)):=⟨_,rfl⟩;rw [←hW17];obtain ⟨g17,q17,B17,hy17,ho17⟩:=rstoG 0 [.int .i64 4] (cs':=#[.int .i64 4,.bool neg,.int .i64 0,.slice none 0 0,.slice none 0 0]) hW17 (he18.trans hb23) (by omega) ((HB_O.o.ext (g10.trans g11)).ext hb23) (by decide) rfl;clear hW17;replace HB_O:=hid B17;obtain ⟨W18,hW18⟩:∃ W,W=(((W17.setCell ⟨w8.heap.size,2,none⟩ (.int .i64 s34)).setCell ⟨w8.heap.size,3,none⟩ (.slice a34 n34 c34)).setCell ⟨w8.heap.size,4,none⟩ (.slice a34' n34' c34')):=⟨_,rfl⟩;rw [←hW18];obtain ⟨g18,q18,B18,hy18,ho18⟩:=rstoG 2 [.int .i64 s34,.slice a34 n34 c34,.slice a34' n34' c34'] (cs':=#[.int .i64 4,.bool neg,.int .i64 s34,.slice a34 n34 c34,.slice a34' n34' c34']) hW18 g17 (by omega) HB_O.o (by decide) rfl;clear hW18;replace HB_O:=hid B18;obtain ⟨W19,hW19⟩:∃ W,W=(((((W18.setCell ⟨w.heap.size+1+1,0,none⟩ (.int .i64 4)).setCell ⟨w.heap.size+1+1,1,none⟩ (.bool neg)).setCell ⟨w.heap.size+1+1,2,none⟩ (.int .i64 s34)).setCell ⟨w.heap.size+1+1,3,none⟩ (.slice a34 n34 c34)).setCell ⟨w.heap.size+1+1,4,none⟩ (.slice a34' n34' c34')):=⟨_,rfl⟩;rw [←hW19];obtain ⟨g19,q19,B19,hy19,ho19⟩:=rstoG 0 [.int .i64 4,.bool neg,.int .i64 s34,.slice a34 n34 c34,.slice a34' n34' c34'] (cs':=#[.int .i64 4,.bool neg,.int .i64 s34,.slice a34 n34 c34,.slice a34' n34' c34']) hW19 g18 (by omega) (ho18 _ _ _ (by omega) (ho17 _ _ _ (by omega) (HB_Z.o.ext (g1.trans (g2.trans (g3.trans (g4.trans (g5.trans (g6.trans (g7.trans (g8.trans (g9.trans (g10.trans (g11.trans (g12.trans (g13.trans (g14.trans (g15.trans g16)))))))))))))))))) (by decide) rfl;clear hW19;replace HB_Z:=hid B19;unfold RLookPost;obtain ⟨J34,J35,J36,J37,J38⟩:=HB_Z.o.c5;refine bodyPost_ret (v:=.agg #[.int .i64 4,.bool neg,.int .i64 s34,.slice a34 n34 c34,.slice a34' n34' c34']) (by simp [results,Tryz.results79,go_sem,J34,J35,J36,J37,J38]) rfl ⟨_,rfl,⟨_,_,_,_,_,_,_,rfl,(((kv.keepR q17).keepR q18).keepR q19)⟩,g19⟩
theorem rlook_5 (E P n f r T h l:Nat) (neg:Bool) (w:World) (hF:Fmt E P) (HC:Hid (LookC E P n f r T neg)) (hw:Word n=.agg #[.int .u64 (h:Nat),.int .u64 (l:Nat)]) (hfT:f=T) (hr0:r≠0) (hrq:r<2^(P-2)) :
  Calls Tryz.prog 79 #[.agg #[.int .i64 (E:Nat),.int .i64 (P:Nat)],.agg #[.int .u64 (h:Nat),.int .u64 (l:Nat)]] w fun e w'=>RLookPost 5 neg (((r:Nat):Rat)) w e w':=by
 obtain ⟨hE,hP,hb,hEP,hb1⟩:=fmt_bounds hF;have HF:=hid hF;have CW:=hid (HC.o.cw h l hw);have C1:=hid HC.o.p1;have C2:=hid HC.o.p2;have C3:=hid HC.o.p3;have CT:=hid HC.o.tw;have CTP:=hid HC.o.tp;have hf1:=HC.o.f1;have hE1:E≤11:=hE.2;have hP1:2≤P:=hP.1;have hP2:P≤113:=hP.2;have CSG:Hid (∀ w u,RNumV w u (((if neg then 1 else 0:Nat):Nat):Rat)→Calls Tryz.prog 58 #[u] w fun e w'=>e=.returned (.int .i64 (if neg then 1 else 0))∧Ext w w'):=hid fun w u h=>by
  have h2:=rsign_c u _ w h;rw [sign_nat] at h2
  cases neg
  ·exact h2
  ·exact h2
 obtain ⟨zs,hzs⟩:∃ z:Int,z=if neg then 1 else 0:=⟨_,rfl⟩;obtain ⟨zn,hzn⟩:∃ z:Nat,z=if neg then 1 else 0:=⟨_,rfl⟩;rw [←hzs,←hzn] at CSG;rw [←hzn] at C3;have hneg:decide ((0:Int)<zs)=neg:=by rw [hzs];cases neg<;>rfl
 obtain ⟨zr,hzr⟩:∃ z:Int,z=if r=0 then 0 else 1:=⟨_,rfl⟩;have CSR:Hid (∀ w u,RNumV w u ((r:Nat):Rat)→Calls Tryz.prog 58 #[u] w fun e w'=>e=.returned (.int .i64 zr)∧Ext w w'):=hid fun w u h=>by
  have h2:=rsign_c u _ w h;rw [sign_nat,←hzr] at h2;exact h2
 have hr1:r<2^112:=Nat.lt_of_lt_of_le HC.o.hr (Nat.pow_le_pow_right (by decide) (by omega));have SR:Hid (SmQ 201 ((r:Nat):Rat)):=hid (nat_sm (by omega));have hq1:2^(P-2)≤2^111:=Nat.pow_le_pow_right (by decide) (by omega);obtain ⟨Q,hQ⟩:∃ Q,Q=2^(P-2):=⟨_,rfl⟩;rw [←hQ] at CT hq1;have SQ:Hid (SmQ 201 ((Q:Nat):Rat)):=hid (nat_sm (by omega));obtain ⟨cq,hcq⟩:∃ z:Int,z=cmpQ ((r:Nat):Rat) ((Q:Nat):Rat):=⟨_,rfl⟩;have CCQ:Hid (∀ w u v,RNumV w u ((r:Nat):Rat)→RNumV w v ((Q:Nat):Rat)→Calls Tryz.prog 59 #[u,v] w fun e w'=>e=.returned (.int .i64 cq)∧Ext w w'):=hid fun w u v h k=>by
  rw [hcq];exact rcmpq_c u v _ _ 201 w h k SR.o SQ.o (by decide)
 have HTT:=hid HC.o.hT;have HFT:=hid HC.o.hf;subst hfT;have hz:(zr==0)=false:=by rw [hzr,if_neg hr0];rfl
 have hc:decide ((0:Int)≤cq)=false:=decide_eq_false (by rw [hcq,cmpQ_nat,if_pos (by omega)];omega);clear hr0 hrq;clear hE hP hb hEP hb1 hF hzs hzn hzr hr1 hq1 hQ hcq HC hw;obtain ⟨W0,hW0,g0,hz0,B_F,B_W,B_Z⟩:=pro3s w #[.int .i64 (E:Nat),.int .i64 (P:Nat)] #[.int .u64 (h:Nat),.int .u64 (l:Nat)] #[.int .i64 0,.bool false,.int .i64 0,.slice none 0 0,.slice none 0 0] 23 29 122;have HE:=hid g0;have HB_F:=hid B_F;have HB_W:=hid B_W;have HB_Z:=hid B_Z;have ac:=cland HB_F.o.a2 (cland HB_W.o.a2 (HB_Z.o.a5));have hr0:Ext W0 W0:=Below.refl _ _;clear g0 B_F B_W B_Z 
 go_enter Tryz.func79,Tryz.ntmps79
 go_upto_region 1 with (fail)
 rw [←hW0];clear hW0;go_wp2_with fail;refine (CW.o _).mono ?_;rintro e w1 ⟨v1,rfl,kn,g1⟩;obtain ⟨s31,a31,n31,c31,a31',n31',c31',rfl⟩:=kn.shape;have gA:=g1.trans (Ext.alloc w1 (.cells #[.int .i64 s31,.slice a31 n31 c31,.slice a31' n31' c31'] 43));go_wp2_with fail;clear gA;have hs1:=g1.size;obtain ⟨W2,hW2,g2,hy2,B_N⟩:=pro1 w1 #[.int .i64 s31,.slice a31 n31 c31,.slice a31' n31' c31'] 43;rw [←hW2];clear hW2;have hb2:=g1.trans g2;have HB_N:=hid B_N;clear B_N;have he3:=(HE.o.trans hb2);replace ac:=hb2.cl ac;have hr4:Ext W2 W2:=Below.refl _ _;replace ac:=cland ac HB_N.o.a3;refine (C1.o _ _ (kn.ext g2)).mono ?_;rintro e w3 ⟨v3,rfl,kr,g3⟩;obtain ⟨s32,a32,n32,c32,a32',n32',c32',rfl⟩:=kr.shape;have gA:=g3.trans (Ext.alloc w3 (.cells #[.int .i64 s32,.slice a32 n32 c32,.slice a32' n32' c32'] 43));go_wp2_with fail;clear gA;have hs5:=g3.size;obtain ⟨W4,hW4,g4,hy4,B_R⟩:=pro1 w3 #[.int .i64 s32,.slice a32 n32 c32,.slice a32' n32' c32'] 43;rw [←hW4];clear hW4;have hb6:=g3.trans g4;have HB_R:=hid B_R;clear B_R;have he7:=(he3.trans hb6);replace ac:=hb6.cl ac;have hr8:Ext W4 W4:=Below.refl _ _;replace ac:=cland ac HB_R.o.a3;refine (C2.o _ _ (kn.ext (g2.trans (g3.trans g4)))).mono ?_;rintro e w5 ⟨v5,rfl,kf,g5⟩;go_wp2_with fail;refine (rsmall_c _ f _ kf hf1).mono ?_;rintro e w6 ⟨rfl,g6⟩;have hb9:=g5.trans g6;clear kf;go_wp2_with fail;refine (C3.o _ _ ((kn.ext (g2.trans (g3.trans g4))).ext hb9)).mono ?_;rintro e w7 ⟨v7,rfl,ks,g7⟩;have hb10:=hb9.trans g7;go_wp2_with fail;refine (CSG.o _ _ ks).mono ?_;rintro e w8 ⟨rfl,g8⟩;have hb11:=hb10.trans g8;clear ks;have gA:=hb11.trans (Ext.alloc w8 (.cells #[.int .i64 2,.bool neg,.int .i64 0,.slice none 0 0,.slice none 0 0] 122));go_wp2_with fail;clear gA;have hs12:=(g5.trans (g6.trans (g7.trans g8))).size;obtain ⟨W9,hW9,g9,hy9,B_O⟩:=pro1 w8 #[.int .i64 2,.bool neg,.int .i64 0,.slice none 0 0,.slice none 0 0] 122;rw [←hW9];clear hW9;have hb13:=hb11.trans g9;have HB_O:=hid B_O;clear B_O;have he14:=(he7.trans hb13);replace ac:=hb13.cl ac;have hr15:Ext W9 W9:=Below.refl _ _;replace ac:=cland ac HB_O.o.a5;refine (CT.o _).mono ?_;rintro e w10 ⟨v10,rfl,kq,g10⟩;obtain ⟨s33,a33,n33,c33,a33',n33',c33',rfl⟩:=kq.shape;have gA:=g10.trans (Ext.alloc w10 (.cells #[.int .i64 s33,.slice a33 n33 c33,.slice a33' n33' c33'] 43));go_wp2_with fail;clear gA;have hs16:=g10.size;obtain ⟨W11,hW11,g11,hy11,B_Q⟩:=pro1 w10 #[.int .i64 s33,.slice a33 n33 c33,.slice a33' n33' c33'] 43;rw [←hW11];clear hW11;have hb17:=g10.trans g11;have HB_Q:=hid B_Q;clear B_Q;have he18:=(he14.trans hb17);replace ac:=hb17.cl ac;have hr19:Ext W11 W11:=Below.refl _ _;replace ac:=cland ac HB_Q.o.a3;refine (CTP.o _).mono ?_;rintro e w12 ⟨rfl,g12⟩;go_wp2_with fail;refine (CSR.o _ _ ((kr.ext (g4.trans (g5.trans (g6.trans (g7.trans (g8.trans (g9.trans (g10.trans g11)))))))).ext g12)).mono ?_;rintro e w13 ⟨rfl,g13⟩;have hb20:=g12.trans g13;go_wp2_with fail;refine (CTP.o _).mono ?_;rintro e w14 ⟨rfl,g14⟩;have hb21:=hb20.trans g14;go_wp2_with fail;refine (CCQ.o _ _ _ ((kr.ext (g4.trans (g5.trans (g6.trans (g7.trans (g8.trans (g9.trans (g10.trans g11)))))))).ext hb21) ((kq.ext g11).ext hb21)).mono ?_;rintro e w15 ⟨rfl,g15⟩;have hb22:=hb21.trans g15;go_wp2_with fail;refine (CTP.o _).mono ?_;rintro e w16 ⟨rfl,g16⟩;have hb23:=hb22.trans g16
 go_upto_region 15 with (fail)
 have kc:=(Box.bt (z:=w8.heap.size) (HB_R.o.ext (g5.trans (g6.trans (g7.trans (g8.trans (g9.trans (g10.trans g11))))))) (by omega) Box.n3);have g17:Ext w16 w16.drew:=Below.drew (Below.refl _ _);have hb24:=hb23.trans g17;refine wp_region_held_drew (S:=But W11 (w8.heap.size)) (by kernel_rfl) (hb24.but) (fun hHeld => ?_);generalize w16.drew=wD17 at *
 apply wts 0 93 rfl rfl (by kernel_rfl) (fun _ _ _ h=>h) hHeld
 ·intro w' hSw;go_simp<;>with_reducible rfl
 apply wts 1 94 rfl rfl (by kernel_rfl) (fun _ _ _ h=>h) hHeld
 ·intro w' hSw;go_simp<;>with_reducible rfl
 try simp only [Act.put,pA,pB,pC]
 refine won 2 { dst:=none,op:=Op.store 3 (Operand.tmp 94) (Operand.const (Value.int IntKind.i64 5)),type:=0,pos := "",after:=#[],guard:=none } (by kernel_rfl) rfl rfl (fun KK hKK => ?_);obtain ⟨U25,U26,U27,U28,U29⟩:=((HB_O.o.ext (g10.trans g11)).ext hb24).f5;go_simp;clear U25 U26 U27 U28 U29;obtain ⟨W18,hW18⟩:∃ W,W=(wD17.setCell ⟨w8.heap.size,0,none⟩ (.int .i64 5)):=⟨_,rfl⟩;rw [←hW18];obtain ⟨g18,q18,B18,hy18,ho18⟩:=rstoG 0 [.int .i64 5] (cs':=#[.int .i64 5,.bool neg,.int .i64 0,.slice none 0 0,.slice none 0 0]) hW18 (he18.trans hb24) (by omega) ((HB_O.o.ext (g10.trans g11)).ext hb24) (by decide) rfl;clear hW18;replace HB_O:=hid B18;have hq18:But W11 (w8.heap.size) W18:=But.sto (hb24.but) ho18
 try dsimp only
 refine hKK.out _ _ (hq18) (fun hHeld => ?_);apply wts 3 95 rfl rfl (by kernel_rfl) (fun _ _ _ h=>h) hHeld
 ·intro w' hSw;go_simp<;>with_reducible rfl
 try simp only [Act.put,pA,pB,pC]
 refine wons 4 43 95 93 (by kernel_rfl) rfl rfl (fun KK hKK => ?_);obtain ⟨J35,J36,J37,J38,J39⟩:=HB_O.o.c5;obtain ⟨U30,U31,U32,U33,U34⟩:=HB_O.o.f5;go_simp;clear U30 U31 U32 U33 U34 J35 J36 J37 J38 J39;obtain ⟨W19,hW19⟩:∃ W,W=(((W18.setCell ⟨w8.heap.size,2,none⟩ (.int .i64 s32)).setCell ⟨w8.heap.size,3,none⟩ (.slice a32 n32 c32)).setCell ⟨w8.heap.size,4,none⟩ (.slice a32' n32' c32')):=⟨_,rfl⟩;rw [←hW19];obtain ⟨g19,q19,B19,hy19,ho19⟩:=rstoG 2 [.int .i64 s32,.slice a32 n32 c32,.slice a32' n32' c32'] (cs':=#[.int .i64 5,.bool neg,.int .i64 s32,.slice a32 n32 c32,.slice a32' n32' c32']) hW19 g18 (by omega) HB_O.o (by decide) rfl;clear hW19;replace HB_O:=hid B19;have hq19:But W11 (w8.heap.size) W19:=But.sto (hq18) ho19
 try dsimp only
 refine hKK.out _ _ (hq19) (fun hHeld => ?_);refine wpAnyH_done (by kernel_rfl) ?_ _;have ac:=cland (ho19 _ _ _ (by omega) (ho18 _ _ _ (by omega) (HB_F.o.ext (g1.trans (g2.trans (g3.trans (g4.trans (g5.trans (g6.trans (g7.trans (g8.trans (g9.trans (g10.trans (g11.trans (g12.trans (g13.trans (g14.trans (g15.trans (g16.trans g17))))))))))))))))))).a2 (cland (ho19 _ _ _ (by omega) (ho18 _ _ _ (by omega) (HB_W.o.ext (g1.trans (g2.trans (g3.trans (g4.trans (g5.trans (g6.trans (g7.trans (g8.trans (g9.trans (g10.trans (g11.trans (g12.trans (g13.trans (g14.trans (g15.trans (g16.trans g17))))))))))))))))))).a2 (cland (ho19 _ _ _ (by omega) (ho18 _ _ _ (by omega) (HB_Z.o.ext (g1.trans (g2.trans (g3.trans (g4.trans (g5.trans (g6.trans (g7.trans (g8.trans (g9.trans (g10.trans (g11.trans (g12.trans (g13.trans (g14.trans (g15.trans (g16.trans g17))))))))))))))))))).a5 (cland (ho19 _ _ _ (by omega) (ho18 _ _ _ (by omega) (HB_N.o.ext (g3.trans (g4.trans (g5.trans (g6.trans (g7.trans (g8.trans (g9.trans (g10.trans (g11.trans (g12.trans (g13.trans (g14.trans (g15.trans (g16.trans g17))))))))))))))))).a3 (cland (ho19 _ _ _ (by omega) (ho18 _ _ _ (by omega) (HB_R.o.ext (g5.trans (g6.trans (g7.trans (g8.trans (g9.trans (g10.trans (g11.trans (g12.trans (g13.trans (g14.trans (g15.trans (g16.trans g17))))))))))))))).a3 (cland HB_O.o.a5 ((ho19 _ _ _ (by omega) (ho18 _ _ _ (by omega) (HB_Q.o.ext (g12.trans (g13.trans (g14.trans (g15.trans (g16.trans g17)))))))).a3))))));have hr40:Ext W19 W19:=Below.refl _ _;obtain ⟨U41,U42,U43,U44,U45⟩:=(ho19 _ _ _ (by omega) (ho18 _ _ _ (by omega) (HB_Z.o.ext (g1.trans (g2.trans (g3.trans (g4.trans (g5.trans (g6.trans (g7.trans (g8.trans (g9.trans (g10.trans (g11.trans (g12.trans (g13.trans (g14.trans (g15.trans (g16.trans g17))))))))))))))))))).f5;go_wp2_with fail;clear U41 U42 U43 U44 U45;obtain ⟨W20,hW20⟩:∃ W,W=(((((W19.setCell ⟨w.heap.size+1+1,0,none⟩ (.int .i64 5)).setCell ⟨w.heap.size+1+1,1,none⟩ (.bool neg)).setCell ⟨w.heap.size+1+1,2,none⟩ (.int .i64 s32)).setCell ⟨w.heap.size+1+1,3,none⟩ (.slice a32 n32 c32)).setCell ⟨w.heap.size+1+1,4,none⟩ (.slice a32' n32' c32')):=⟨_,rfl⟩;rw [←hW20];obtain ⟨g20,q20,B20,hy20,ho20⟩:=rstoG 0 [.int .i64 5,.bool neg,.int .i64 s32,.slice a32 n32 c32,.slice a32' n32' c32'] (cs':=#[.int .i64 5,.bool neg,.int .i64 s32,.slice a32 n32 c32,.slice a32' n32' c32']) hW20 g19 (by omega) (ho19 _ _ _ (by omega) (ho18 _ _ _ (by omega) (HB_Z.o.ext (g1.trans (g2.trans (g3.trans (g4.trans (g5.trans (g6.trans (g7.trans (g8.trans (g9.trans (g10.trans (g11.trans (g12.trans (g13.trans (g14.trans (g15.trans (g16.trans g17))))))))))))))))))) (by decide) rfl;clear hW20;replace HB_Z:=hid B20;unfold RLookPost;obtain ⟨J46,J47,J48,J49,J50⟩:=HB_Z.o.c5;refine bodyPost_ret (v:=.agg #[.int .i64 5,.bool neg,.int .i64 s32,.slice a32 n32 c32,.slice a32' n32' c32']) (by simp [results,Tryz.results79,go_sem,J46,J47,J48,J49,J50]) rfl ⟨_,rfl,⟨_,_,_,_,_,_,_,rfl,((((kr.ext (g4.trans (g5.trans (g6.trans (g7.trans (g8.trans (g9.trans (g10.trans (g11.trans (g12.trans (g13.trans (g14.trans (g15.trans (g16.trans g17)))))))))))))).keepR q18).keepR q19).keepR q20)⟩,g20⟩
theorem rlook_1 (E P n f r T h l:Nat) (neg:Bool) (w:World) (hF:Fmt E P) (HC:Hid (LookC E P n f r T neg)) (hw:Word n=.agg #[.int .u64 (h:Nat),.int .u64 (l:Nat)]) (hfT:f≠T) (hf0:f=0) (hr0:r=0) :
  Calls Tryz.prog 79 #[.agg #[.int .i64 (E:Nat),.int .i64 (P:Nat)],.agg #[.int .u64 (h:Nat),.int .u64 (l:Nat)]] w fun e w'=>RLookPost 1 neg (0) w e w':=by
 obtain ⟨hE,hP,hb,hEP,hb1⟩:=fmt_bounds hF;have HF:=hid hF;have CW:=hid (HC.o.cw h l hw);have C1:=hid HC.o.p1;have C2:=hid HC.o.p2;have C3:=hid HC.o.p3;have CT:=hid HC.o.tw;have CTP:=hid HC.o.tp;have hf1:=HC.o.f1;have hE1:E≤11:=hE.2;have hP1:2≤P:=hP.1;have hP2:P≤113:=hP.2;have CSG:Hid (∀ w u,RNumV w u (((if neg then 1 else 0:Nat):Nat):Rat)→Calls Tryz.prog 58 #[u] w fun e w'=>e=.returned (.int .i64 (if neg then 1 else 0))∧Ext w w'):=hid fun w u h=>by
  have h2:=rsign_c u _ w h;rw [sign_nat] at h2
  cases neg
  ·exact h2
  ·exact h2
 obtain ⟨zs,hzs⟩:∃ z:Int,z=if neg then 1 else 0:=⟨_,rfl⟩;obtain ⟨zn,hzn⟩:∃ z:Nat,z=if neg then 1 else 0:=⟨_,rfl⟩;rw [←hzs,←hzn] at CSG;rw [←hzn] at C3;have hneg:decide ((0:Int)<zs)=neg:=by rw [hzs];cases neg<;>rfl
 obtain ⟨zr,hzr⟩:∃ z:Int,z=if r=0 then 0 else 1:=⟨_,rfl⟩;have CSR:Hid (∀ w u,RNumV w u ((r:Nat):Rat)→Calls Tryz.prog 58 #[u] w fun e w'=>e=.returned (.int .i64 zr)∧Ext w w'):=hid fun w u h=>by
  have h2:=rsign_c u _ w h;rw [sign_nat,←hzr] at h2;exact h2
 have hr1:r<2^112:=Nat.lt_of_lt_of_le HC.o.hr (Nat.pow_le_pow_right (by decide) (by omega));have SR:Hid (SmQ 201 ((r:Nat):Rat)):=hid (nat_sm (by omega));have hq1:2^(P-2)≤2^111:=Nat.pow_le_pow_right (by decide) (by omega);obtain ⟨Q,hQ⟩:∃ Q,Q=2^(P-2):=⟨_,rfl⟩;rw [←hQ] at CT hq1;have SQ:Hid (SmQ 201 ((Q:Nat):Rat)):=hid (nat_sm (by omega));obtain ⟨cq,hcq⟩:∃ z:Int,z=cmpQ ((r:Nat):Rat) ((Q:Nat):Rat):=⟨_,rfl⟩;have CCQ:Hid (∀ w u v,RNumV w u ((r:Nat):Rat)→RNumV w v ((Q:Nat):Rat)→Calls Tryz.prog 59 #[u,v] w fun e w'=>e=.returned (.int .i64 cq)∧Ext w w'):=hid fun w u v h k=>by
  rw [hcq];exact rcmpq_c u v _ _ 201 w h k SR.o SQ.o (by decide)
 have HTT:=hid HC.o.hT;have HFT:=hid HC.o.hf;subst hf0;have hz:(zr==0)=true:=by rw [hzr,if_pos hr0];rfl
 have hT:(((0:Nat):Int)==(T:Int))=false:=beq_eq_false_iff_ne.2 (by omega);have hT':((0:Int)==(T:Int))=false:=beq_eq_false_iff_ne.2 (by omega);clear hr0 hfT;clear hE hP hb hEP hb1 hF hzs hzn hzr hr1 hq1 hQ hcq HC hw;obtain ⟨W0,hW0,g0,hz0,B_F,B_W,B_Z⟩:=pro3s w #[.int .i64 (E:Nat),.int .i64 (P:Nat)] #[.int .u64 (h:Nat),.int .u64 (l:Nat)] #[.int .i64 0,.bool false,.int .i64 0,.slice none 0 0,.slice none 0 0] 23 29 122;have HE:=hid g0;have HB_F:=hid B_F;have HB_W:=hid B_W;have HB_Z:=hid B_Z;have ac:=cland HB_F.o.a2 (cland HB_W.o.a2 (HB_Z.o.a5));have hr0:Ext W0 W0:=Below.refl _ _;clear g0 B_F B_W B_Z 
 go_enter Tryz.func79,Tryz.ntmps79
 go_upto_region 1 with (fail)
 rw [←hW0];clear hW0;go_wp2_with fail;refine (CW.o _).mono ?_;rintro e w1 ⟨v1,rfl,kn,g1⟩;obtain ⟨s31,a31,n31,c31,a31',n31',c31',rfl⟩:=kn.shape;have gA:=g1.trans (Ext.alloc w1 (.cells #[.int .i64 s31,.slice a31 n31 c31,.slice a31' n31' c31'] 43));go_wp2_with fail;clear gA;have hs1:=g1.size;obtain ⟨W2,hW2,g2,hy2,B_N⟩:=pro1 w1 #[.int .i64 s31,.slice a31 n31 c31,.slice a31' n31' c31'] 43;rw [←hW2];clear hW2;have hb2:=g1.trans g2;have HB_N:=hid B_N;clear B_N;have he3:=(HE.o.trans hb2);replace ac:=hb2.cl ac;have hr4:Ext W2 W2:=Below.refl _ _;replace ac:=cland ac HB_N.o.a3;refine (C1.o _ _ (kn.ext g2)).mono ?_;rintro e w3 ⟨v3,rfl,kr,g3⟩;obtain ⟨s32,a32,n32,c32,a32',n32',c32',rfl⟩:=kr.shape;have gA:=g3.trans (Ext.alloc w3 (.cells #[.int .i64 s32,.slice a32 n32 c32,.slice a32' n32' c32'] 43));go_wp2_with fail;clear gA;have hs5:=g3.size;obtain ⟨W4,hW4,g4,hy4,B_R⟩:=pro1 w3 #[.int .i64 s32,.slice a32 n32 c32,.slice a32' n32' c32'] 43;rw [←hW4];clear hW4;have hb6:=g3.trans g4;have HB_R:=hid B_R;clear B_R;have he7:=(he3.trans hb6);replace ac:=hb6.cl ac;have hr8:Ext W4 W4:=Below.refl _ _;replace ac:=cland ac HB_R.o.a3;refine (C2.o _ _ (kn.ext (g2.trans (g3.trans g4)))).mono ?_;rintro e w5 ⟨v5,rfl,kf,g5⟩;go_wp2_with fail;refine (rsmall_c _ 0 _ kf hf1).mono ?_;rintro e w6 ⟨rfl,g6⟩;have hb9:=g5.trans g6;clear kf;go_wp2_with fail;refine (C3.o _ _ ((kn.ext (g2.trans (g3.trans g4))).ext hb9)).mono ?_;rintro e w7 ⟨v7,rfl,ks,g7⟩;have hb10:=hb9.trans g7;go_wp2_with fail;refine (CSG.o _ _ ks).mono ?_;rintro e w8 ⟨rfl,g8⟩;have hb11:=hb10.trans g8;clear ks;have gA:=hb11.trans (Ext.alloc w8 (.cells #[.int .i64 2,.bool neg,.int .i64 0,.slice none 0 0,.slice none 0 0] 122));go_wp2_with fail;clear gA;have hs12:=(g5.trans (g6.trans (g7.trans g8))).size;obtain ⟨W9,hW9,g9,hy9,B_O⟩:=pro1 w8 #[.int .i64 2,.bool neg,.int .i64 0,.slice none 0 0,.slice none 0 0] 122;rw [←hW9];clear hW9;have hb13:=hb11.trans g9;have HB_O:=hid B_O;clear B_O;have he14:=(he7.trans hb13);replace ac:=hb13.cl ac;have hr15:Ext W9 W9:=Below.refl _ _;replace ac:=cland ac HB_O.o.a5;refine (CT.o _).mono ?_;rintro e w10 ⟨v10,rfl,kq,g10⟩;obtain ⟨s33,a33,n33,c33,a33',n33',c33',rfl⟩:=kq.shape;have gA:=g10.trans (Ext.alloc w10 (.cells #[.int .i64 s33,.slice a33 n33 c33,.slice a33' n33' c33'] 43));go_wp2_with fail;clear gA;have hs16:=g10.size;obtain ⟨W11,hW11,g11,hy11,B_Q⟩:=pro1 w10 #[.int .i64 s33,.slice a33 n33 c33,.slice a33' n33' c33'] 43;rw [←hW11];clear hW11;have hb17:=g10.trans g11;have HB_Q:=hid B_Q;clear B_Q;have he18:=(he14.trans hb17);replace ac:=hb17.cl ac;have hr19:Ext W11 W11:=Below.refl _ _;replace ac:=cland ac HB_Q.o.a3;refine (CTP.o _).mono ?_;rintro e w12 ⟨rfl,g12⟩;go_wp2_with fail;refine (CTP.o _).mono ?_;rintro e w13 ⟨rfl,g13⟩;have hb20:=g12.trans g13;go_wp2_with fail;refine (CTP.o _).mono ?_;rintro e w14 ⟨rfl,g14⟩;have hb21:=hb20.trans g14;go_wp2_with fail;refine (CSR.o _ _ ((kr.ext (g4.trans (g5.trans (g6.trans (g7.trans (g8.trans (g9.trans (g10.trans g11)))))))).ext hb21)).mono ?_;rintro e w15 ⟨rfl,g15⟩;have hb22:=hb21.trans g15;obtain ⟨U23,U24,U25,U26,U27⟩:=((HB_O.o.ext (g10.trans g11)).ext hb22).f5;obtain ⟨U28,U29,U30,U31,U32⟩:=((HB_Z.o.ext (g1.trans (g2.trans (g3.trans (g4.trans (g5.trans (g6.trans (g7.trans (g8.trans (g9.trans (g10.trans g11))))))))))).ext hb22).f5;go_wp2_with fail;clear U23 U24 U25 U26 U27 U28 U29 U30 U31 U32;obtain ⟨W16,hW16⟩:∃ W,W=(w15.setCell ⟨w8.heap.size,0,none⟩ (.int .i64 1)):=⟨_,rfl⟩;rw [←hW16];obtain ⟨g16,q16,B16,hy16,ho16⟩:=rstoG 0 [.int .i64 1] (cs':=#[.int .i64 1,.bool neg,.int .i64 0,.slice none 0 0,.slice none 0 0]) hW16 (he18.trans hb22) (by omega) ((HB_O.o.ext (g10.trans g11)).ext hb22) (by decide) rfl;clear hW16;replace HB_O:=hid B16;obtain ⟨W17,hW17⟩:∃ W,W=(((((W16.setCell ⟨w.heap.size+1+1,0,none⟩ (.int .i64 1)).setCell ⟨w.heap.size+1+1,1,none⟩ (.bool neg)).setCell ⟨w.heap.size+1+1,2,none⟩ (.int .i64 0)).setCell ⟨w.heap.size+1+1,3,none⟩ (.slice none 0 0)).setCell ⟨w.heap.size+1+1,4,none⟩ (.slice none 0 0)):=⟨_,rfl⟩;rw [←hW17];obtain ⟨g17,q17,B17,hy17,ho17⟩:=rstoG 0 [.int .i64 1,.bool neg,.int .i64 0,.slice none 0 0,.slice none 0 0] (cs':=#[.int .i64 1,.bool neg,.int .i64 0,.slice none 0 0,.slice none 0 0]) hW17 g16 (by omega) (ho16 _ _ _ (by omega) (HB_Z.o.ext (g1.trans (g2.trans (g3.trans (g4.trans (g5.trans (g6.trans (g7.trans (g8.trans (g9.trans (g10.trans (g11.trans (g12.trans (g13.trans (g14.trans g15)))))))))))))))) (by decide) rfl;clear hW17;replace HB_Z:=hid B17;unfold RLookPost;obtain ⟨J33,J34,J35,J36,J37⟩:=HB_Z.o.c5;refine bodyPost_ret (v:=.agg #[.int .i64 1,.bool neg,.int .i64 0,.slice none 0 0,.slice none 0 0]) (by simp [results,Tryz.results79,go_sem,J33,J34,J35,J36,J37]) rfl ⟨_,rfl,⟨_,_,_,_,_,_,_,rfl,RNumV.zero _⟩,g17⟩
theorem rlook_2a (E P n f r T h l:Nat) (neg:Bool) (w:World) (hF:Fmt E P) (HC:Hid (LookC E P n f r T neg)) (hw:Word n=.agg #[.int .u64 (h:Nat),.int .u64 (l:Nat)]) (hfT:f≠T) (hf0:f=0) (hr0:r≠0) :
  Calls Tryz.prog 79 #[.agg #[.int .i64 (E:Nat),.int .i64 (P:Nat)],.agg #[.int .u64 (h:Nat),.int .u64 (l:Nat)]] w fun e w'=>RLookPost 2 neg (if neg=true then -(((r:Nat):Rat)*(2:Rat)^(2-(bias E:Int)-P)) else ((r:Nat):Rat)*(2:Rat)^(2-(bias E:Int)-P)) w e w':=by
 obtain ⟨hE,hP,hb,hEP,hb1⟩:=fmt_bounds hF;have HF:=hid hF;have CW:=hid (HC.o.cw h l hw);have C1:=hid HC.o.p1;have C2:=hid HC.o.p2;have C3:=hid HC.o.p3;have CT:=hid HC.o.tw;have CTP:=hid HC.o.tp;have hf1:=HC.o.f1;have hE1:E≤11:=hE.2;have hP1:2≤P:=hP.1;have hP2:P≤113:=hP.2;have CSG:Hid (∀ w u,RNumV w u (((if neg then 1 else 0:Nat):Nat):Rat)→Calls Tryz.prog 58 #[u] w fun e w'=>e=.returned (.int .i64 (if neg then 1 else 0))∧Ext w w'):=hid fun w u h=>by
  have h2:=rsign_c u _ w h;rw [sign_nat] at h2
  cases neg
  ·exact h2
  ·exact h2
 obtain ⟨zs,hzs⟩:∃ z:Int,z=if neg then 1 else 0:=⟨_,rfl⟩;obtain ⟨zn,hzn⟩:∃ z:Nat,z=if neg then 1 else 0:=⟨_,rfl⟩;rw [←hzs,←hzn] at CSG;rw [←hzn] at C3;have hneg:decide ((0:Int)<zs)=neg:=by rw [hzs];cases neg<;>rfl
 obtain ⟨zr,hzr⟩:∃ z:Int,z=if r=0 then 0 else 1:=⟨_,rfl⟩;have CSR:Hid (∀ w u,RNumV w u ((r:Nat):Rat)→Calls Tryz.prog 58 #[u] w fun e w'=>e=.returned (.int .i64 zr)∧Ext w w'):=hid fun w u h=>by
  have h2:=rsign_c u _ w h;rw [sign_nat,←hzr] at h2;exact h2
 have hr1:r<2^112:=Nat.lt_of_lt_of_le HC.o.hr (Nat.pow_le_pow_right (by decide) (by omega));have SR:Hid (SmQ 201 ((r:Nat):Rat)):=hid (nat_sm (by omega));have hq1:2^(P-2)≤2^111:=Nat.pow_le_pow_right (by decide) (by omega);obtain ⟨Q,hQ⟩:∃ Q,Q=2^(P-2):=⟨_,rfl⟩;rw [←hQ] at CT hq1;have SQ:Hid (SmQ 201 ((Q:Nat):Rat)):=hid (nat_sm (by omega));obtain ⟨cq,hcq⟩:∃ z:Int,z=cmpQ ((r:Nat):Rat) ((Q:Nat):Rat):=⟨_,rfl⟩;have CCQ:Hid (∀ w u v,RNumV w u ((r:Nat):Rat)→RNumV w v ((Q:Nat):Rat)→Calls Tryz.prog 59 #[u,v] w fun e w'=>e=.returned (.int .i64 cq)∧Ext w w'):=hid fun w u v h k=>by
  rw [hcq];exact rcmpq_c u v _ _ 201 w h k SR.o SQ.o (by decide)
 have HTT:=hid HC.o.hT;have HFT:=hid HC.o.hf;subst hf0;obtain ⟨V,hV⟩:∃ V,V=((r:Nat):Rat)*(2:Rat)^(2-(bias E:Int)-P):=⟨_,rfl⟩;rw [←hV];have hz:(zr==0)=false:=by rw [hzr,if_neg hr0];rfl
 have hT:(((0:Nat):Int)==(T:Int))=false:=beq_eq_false_iff_ne.2 (by omega);have hT':((0:Int)==(T:Int))=false:=beq_eq_false_iff_ne.2 (by omega);have CL:Hid (∀ w,Calls Tryz.prog 87 #[.agg #[.int .i64 (E:Nat),.int .i64 (P:Nat)]] w fun e w'=>∃ v,e=.returned v∧RNumV w' v ((2:Rat)^(2-(bias E:Int)-P))∧Ext w w'):=hid fun w=>rleast_c E P w hF;have CM:Hid (∀ w u v,RNumV w u ((r:Nat):Rat)→RNumV w v ((2:Rat)^(2-(bias E:Int)-P))→Calls Tryz.prog 148 #[u,v] w fun e w'=>∃ z,e=.returned z∧RNumV w' z V∧Ext w w'):=hid fun w u v h k=>by
  rw [hV];exact rtimes_c u v _ _ 6000 w h k (SR.o.mono (by decide)) ((p2_sm (L:=1200) (by omega)).mono (by decide)) (by decide)
 clear hr0 hfT hV;clear hE hP hb hEP hb1 hF hzs hzn hzr hr1 hq1 hQ hcq HC hw;obtain ⟨W0,hW0,g0,hz0,B_F,B_W,B_Z⟩:=pro3s w #[.int .i64 (E:Nat),.int .i64 (P:Nat)] #[.int .u64 (h:Nat),.int .u64 (l:Nat)] #[.int .i64 0,.bool false,.int .i64 0,.slice none 0 0,.slice none 0 0] 23 29 122;have HE:=hid g0;have HB_F:=hid B_F;have HB_W:=hid B_W;have HB_Z:=hid B_Z;have ac:=cland HB_F.o.a2 (cland HB_W.o.a2 (HB_Z.o.a5));have hr0:Ext W0 W0:=Below.refl _ _;clear g0 B_F B_W B_Z 
 go_enter Tryz.func79,Tryz.ntmps79
 go_upto_region 1 with (fail)
 rw [←hW0];clear hW0;go_wp2_with fail;refine (CW.o _).mono ?_;rintro e w1 ⟨v1,rfl,kn,g1⟩;obtain ⟨s31,a31,n31,c31,a31',n31',c31',rfl⟩:=kn.shape;have gA:=g1.trans (Ext.alloc w1 (.cells #[.int .i64 s31,.slice a31 n31 c31,.slice a31' n31' c31'] 43));go_wp2_with fail;clear gA;have hs1:=g1.size;obtain ⟨W2,hW2,g2,hy2,B_N⟩:=pro1 w1 #[.int .i64 s31,.slice a31 n31 c31,.slice a31' n31' c31'] 43;rw [←hW2];clear hW2;have hb2:=g1.trans g2;have HB_N:=hid B_N;clear B_N;have he3:=(HE.o.trans hb2);replace ac:=hb2.cl ac;have hr4:Ext W2 W2:=Below.refl _ _;replace ac:=cland ac HB_N.o.a3;refine (C1.o _ _ (kn.ext g2)).mono ?_;rintro e w3 ⟨v3,rfl,kr,g3⟩;obtain ⟨s32,a32,n32,c32,a32',n32',c32',rfl⟩:=kr.shape;have gA:=g3.trans (Ext.alloc w3 (.cells #[.int .i64 s32,.slice a32 n32 c32,.slice a32' n32' c32'] 43));go_wp2_with fail;clear gA;have hs5:=g3.size;obtain ⟨W4,hW4,g4,hy4,B_R⟩:=pro1 w3 #[.int .i64 s32,.slice a32 n32 c32,.slice a32' n32' c32'] 43;rw [←hW4];clear hW4;have hb6:=g3.trans g4;have HB_R:=hid B_R;clear B_R;have he7:=(he3.trans hb6);replace ac:=hb6.cl ac;have hr8:Ext W4 W4:=Below.refl _ _;replace ac:=cland ac HB_R.o.a3;refine (C2.o _ _ (kn.ext (g2.trans (g3.trans g4)))).mono ?_;rintro e w5 ⟨v5,rfl,kf,g5⟩;go_wp2_with fail;refine (rsmall_c _ 0 _ kf hf1).mono ?_;rintro e w6 ⟨rfl,g6⟩;have hb9:=g5.trans g6;clear kf;go_wp2_with fail;refine (C3.o _ _ ((kn.ext (g2.trans (g3.trans g4))).ext hb9)).mono ?_;rintro e w7 ⟨v7,rfl,ks,g7⟩;have hb10:=hb9.trans g7;go_wp2_with fail;refine (CSG.o _ _ ks).mono ?_;rintro e w8 ⟨rfl,g8⟩;have hb11:=hb10.trans g8;clear ks;have gA:=hb11.trans (Ext.alloc w8 (.cells #[.int .i64 2,.bool neg,.int .i64 0,.slice none 0 0,.slice none 0 0] 122));go_wp2_with fail;clear gA;have hs12:=(g5.trans (g6.trans (g7.trans g8))).size;obtain ⟨W9,hW9,g9,hy9,B_O⟩:=pro1 w8 #[.int .i64 2,.bool neg,.int .i64 0,.slice none 0 0,.slice none 0 0] 122;rw [←hW9];clear hW9;have hb13:=hb11.trans g9;have HB_O:=hid B_O;clear B_O;have he14:=(he7.trans hb13);replace ac:=hb13.cl ac;have hr15:Ext W9 W9:=Below.refl _ _;replace ac:=cland ac HB_O.o.a5;refine (CT.o _).mono ?_;rintro e w10 ⟨v10,rfl,kq,g10⟩;obtain ⟨s33,a33,n33,c33,a33',n33',c33',rfl⟩:=kq.shape;have gA:=g10.trans (Ext.alloc w10 (.cells #[.int .i64 s33,.slice a33 n33 c33,.slice a33' n33' c33'] 43));go_wp2_with fail;clear gA;have hs16:=g10.size;obtain ⟨W11,hW11,g11,hy11,B_Q⟩:=pro1 w10 #[.int .i64 s33,.slice a33 n33 c33,.slice a33' n33' c33'] 43;rw [←hW11];clear hW11;have hb17:=g10.trans g11;have HB_Q:=hid B_Q;clear B_Q;have he18:=(he14.trans hb17);replace ac:=hb17.cl ac;have hr19:Ext W11 W11:=Below.refl _ _;replace ac:=cland ac HB_Q.o.a3;refine (CTP.o _).mono ?_;rintro e w12 ⟨rfl,g12⟩;go_wp2_with fail;refine (CTP.o _).mono ?_;rintro e w13 ⟨rfl,g13⟩;have hb20:=g12.trans g13;go_wp2_with fail;refine (CTP.o _).mono ?_;rintro e w14 ⟨rfl,g14⟩;have hb21:=hb20.trans g14;go_wp2_with fail;refine (CSR.o _ _ ((kr.ext (g4.trans (g5.trans (g6.trans (g7.trans (g8.trans (g9.trans (g10.trans g11)))))))).ext hb21)).mono ?_;rintro e w15 ⟨rfl,g15⟩;have hb22:=hb21.trans g15
 go_upto_region 21 with (fail)
 have kc:=cland (Box.bt (z:=w8.heap.size) (HB_R.o.ext (g5.trans (g6.trans (g7.trans (g8.trans (g9.trans (g10.trans g11))))))) (by omega) Box.n3) ((Box.bt (z:=w8.heap.size) (HB_F.o.ext (g1.trans (g2.trans (g3.trans (g4.trans (g5.trans (g6.trans (g7.trans (g8.trans (g9.trans (g10.trans g11))))))))))) (by omega) Box.n2));have g16:Ext w15 w15.drew:=Below.drew (Below.refl _ _);have hb23:=hb22.trans g16;refine wp_region_held_drew (S:=But W11 (w8.heap.size)) (by kernel_rfl) (hb23.but) (fun hHeld => ?_);generalize w15.drew=wD16 at *
 apply wts 0 110 rfl rfl (by kernel_rfl) (fun _ _ _ h=>h) hHeld
 ·intro w' hSw;go_simp<;>with_reducible rfl
 apply wts 1 111 rfl rfl (by kernel_rfl) (fun _ _ _ h=>h) hHeld
 ·intro w' hSw;go_simp<;>with_reducible rfl
 try simp only [Act.put,pA,pB,pC]
 refine wonc 2 112 87 #[.tmp 111] #[23] 43 (by kernel_rfl) rfl rfl (fun KK hKK => ?_);go_simp;refine (CL.o _).mono ?_;rintro e w17 ⟨v17,rfl,kl,g17⟩;have hb24:=hb23.trans g17
 try dsimp only
 refine hKK.out _ _ (hb24.but) (fun hHeld => ?_)
 try simp only [Act.put,pA,pB,pC]
 refine wonc 3 113 148 #[.tmp 110,.tmp 112] #[43,43] 43 (by kernel_rfl) rfl rfl (fun KK hKK => ?_);go_simp;refine (CM.o _ _ _ ((kr.ext (g4.trans (g5.trans (g6.trans (g7.trans (g8.trans (g9.trans (g10.trans g11)))))))).ext hb24) kl).mono ?_;rintro e w18 ⟨v18,rfl,kv,g18⟩;have hb25:=hb24.trans g18;obtain ⟨s35,a35,n35,c35,a35',n35',c35',rfl⟩:=kv.shape
 try dsimp only
 refine hKK.out _ _ (hb25.but) (fun hHeld => ?_);apply wts 4 114 rfl rfl (by kernel_rfl) (fun _ _ _ h=>h) hHeld
 ·intro w' hSw;go_simp<;>with_reducible rfl
 try simp only [Act.put,pA,pB,pC]
 refine wons 5 43 114 113 (by kernel_rfl) rfl rfl (fun KK hKK => ?_);obtain ⟨U26,U27,U28,U29,U30⟩:=((HB_O.o.ext (g10.trans g11)).ext hb25).f5;go_simp;clear U26 U27 U28 U29 U30;obtain ⟨W19,hW19⟩:∃ W,W=(((w18.setCell ⟨w8.heap.size,2,none⟩ (.int .i64 s35)).setCell ⟨w8.heap.size,3,none⟩ (.slice a35 n35 c35)).setCell ⟨w8.heap.size,4,none⟩ (.slice a35' n35' c35')):=⟨_,rfl⟩;rw [←hW19];obtain ⟨g19,q19,B19,hy19,ho19⟩:=rstoG 2 [.int .i64 s35,.slice a35 n35 c35,.slice a35' n35' c35'] (cs':=#[.int .i64 2,.bool neg,.int .i64 s35,.slice a35 n35 c35,.slice a35' n35' c35']) hW19 (he18.trans hb25) (by omega) ((HB_O.o.ext (g10.trans g11)).ext hb25) (by decide) rfl;clear hW19;replace HB_O:=hid B19;have hq19:But W11 (w8.heap.size) W19:=But.sto (hb25.but) ho19
 try dsimp only
 refine hKK.out _ _ (hq19) (fun hHeld => ?_);refine wpAnyH_done (by kernel_rfl) ?_ _
 cases neg
 ·have ac:=cland (ho19 _ _ _ (by omega) (HB_F.o.ext (g1.trans (g2.trans (g3.trans (g4.trans (g5.trans (g6.trans (g7.trans (g8.trans (g9.trans (g10.trans (g11.trans (g12.trans (g13.trans (g14.trans (g15.trans (g16.trans (g17.trans g18))))))))))))))))))).a2 (cland (ho19 _ _ _ (by omega) (HB_W.o.ext (g1.trans (g2.trans (g3.trans (g4.trans (g5.trans (g6.trans (g7.trans (g8.trans (g9.trans (g10.trans (g11.trans (g12.trans (g13.trans (g14.trans (g15.trans (g16.trans (g17.trans g18))))))))))))))))))).a2 (cland (ho19 _ _ _ (by omega) (HB_Z.o.ext (g1.trans (g2.trans (g3.trans (g4.trans (g5.trans (g6.trans (g7.trans (g8.trans (g9.trans (g10.trans (g11.trans (g12.trans (g13.trans (g14.trans (g15.trans (g16.trans (g17.trans g18))))))))))))))))))).a5 (cland (ho19 _ _ _ (by omega) (HB_N.o.ext (g3.trans (g4.trans (g5.trans (g6.trans (g7.trans (g8.trans (g9.trans (g10.trans (g11.trans (g12.trans (g13.trans (g14.trans (g15.trans (g16.trans (g17.trans g18))))))))))))))))).a3 (cland (ho19 _ _ _ (by omega) (HB_R.o.ext (g5.trans (g6.trans (g7.trans (g8.trans (g9.trans (g10.trans (g11.trans (g12.trans (g13.trans (g14.trans (g15.trans (g16.trans (g17.trans g18))))))))))))))).a3 (cland HB_O.o.a5 ((ho19 _ _ _ (by omega) (HB_Q.o.ext (g12.trans (g13.trans (g14.trans (g15.trans (g16.trans (g17.trans g18)))))))).a3))))));have hr31:Ext W19 W19:=Below.refl _ _;obtain ⟨U32,U33,U34,U35,U36⟩:=HB_O.o.f5;obtain ⟨U37,U38,U39,U40,U41⟩:=(ho19 _ _ _ (by omega) (HB_Z.o.ext (g1.trans (g2.trans (g3.trans (g4.trans (g5.trans (g6.trans (g7.trans (g8.trans (g9.trans (g10.trans (g11.trans (g12.trans (g13.trans (g14.trans (g15.trans (g16.trans (g17.trans g18))))))))))))))))))).f5;go_wp2_with fail;clear U32 U33 U34 U35 U36 U37 U38 U39 U40 U41;obtain ⟨W20,hW20⟩:∃ W,W=(((((W19.setCell ⟨w.heap.size+1+1,0,none⟩ (.int .i64 2)).setCell ⟨w.heap.size+1+1,1,none⟩ (.bool false)).setCell ⟨w.heap.size+1+1,2,none⟩ (.int .i64 s35)).setCell ⟨w.heap.size+1+1,3,none⟩ (.slice a35 n35 c35)).setCell ⟨w.heap.size+1+1,4,none⟩ (.slice a35' n35' c35')):=⟨_,rfl⟩;rw [←hW20];obtain ⟨g20,q20,B20,hy20,ho20⟩:=rstoG 0 [.int .i64 2,.bool false,.int .i64 s35,.slice a35 n35 c35,.slice a35' n35' c35'] (cs':=#[.int .i64 2,.bool false,.int .i64 s35,.slice a35 n35 c35,.slice a35' n35' c35']) hW20 g19 (by omega) (ho19 _ _ _ (by omega) (HB_Z.o.ext (g1.trans (g2.trans (g3.trans (g4.trans (g5.trans (g6.trans (g7.trans (g8.trans (g9.trans (g10.trans (g11.trans (g12.trans (g13.trans (g14.trans (g15.trans (g16.trans (g17.trans g18))))))))))))))))))) (by decide) rfl;clear hW20;replace HB_Z:=hid B20;unfold RLookPost;obtain ⟨J42,J43,J44,J45,J46⟩:=HB_Z.o.c5;refine bodyPost_ret (v:=.agg #[.int .i64 2,.bool false,.int .i64 s35,.slice a35 n35 c35,.slice a35' n35' c35']) (by simp [results,Tryz.results79,go_sem,J42,J43,J44,J45,J46]) rfl ⟨_,rfl,⟨_,_,_,_,_,_,_,rfl,((kv.keepR q19).keepR q20)⟩,g20⟩
 ·have ac:=cland (ho19 _ _ _ (by omega) (HB_F.o.ext (g1.trans (g2.trans (g3.trans (g4.trans (g5.trans (g6.trans (g7.trans (g8.trans (g9.trans (g10.trans (g11.trans (g12.trans (g13.trans (g14.trans (g15.trans (g16.trans (g17.trans g18))))))))))))))))))).a2 (cland (ho19 _ _ _ (by omega) (HB_W.o.ext (g1.trans (g2.trans (g3.trans (g4.trans (g5.trans (g6.trans (g7.trans (g8.trans (g9.trans (g10.trans (g11.trans (g12.trans (g13.trans (g14.trans (g15.trans (g16.trans (g17.trans g18))))))))))))))))))).a2 (cland (ho19 _ _ _ (by omega) (HB_Z.o.ext (g1.trans (g2.trans (g3.trans (g4.trans (g5.trans (g6.trans (g7.trans (g8.trans (g9.trans (g10.trans (g11.trans (g12.trans (g13.trans (g14.trans (g15.trans (g16.trans (g17.trans g18))))))))))))))))))).a5 (cland (ho19 _ _ _ (by omega) (HB_N.o.ext (g3.trans (g4.trans (g5.trans (g6.trans (g7.trans (g8.trans (g9.trans (g10.trans (g11.trans (g12.trans (g13.trans (g14.trans (g15.trans (g16.trans (g17.trans g18))))))))))))))))).a3 (cland (ho19 _ _ _ (by omega) (HB_R.o.ext (g5.trans (g6.trans (g7.trans (g8.trans (g9.trans (g10.trans (g11.trans (g12.trans (g13.trans (g14.trans (g15.trans (g16.trans (g17.trans g18))))))))))))))).a3 (cland HB_O.o.a5 ((ho19 _ _ _ (by omega) (HB_Q.o.ext (g12.trans (g13.trans (g14.trans (g15.trans (g16.trans (g17.trans g18)))))))).a3))))));have hr31:Ext W19 W19:=Below.refl _ _;go_wp2_with fail;refine (rneg_c _ _ _ (kv.keepR q19)).mono ?_;rintro e w20 ⟨v20,rfl,kng,g20⟩;obtain ⟨s36,a36,n36,c36,a36',n36',c36',rfl⟩:=kng.shape;obtain ⟨U32,U33,U34,U35,U36⟩:=(HB_O.o.ext g20).f5;obtain ⟨U37,U38,U39,U40,U41⟩:=((ho19 _ _ _ (by omega) (HB_Z.o.ext (g1.trans (g2.trans (g3.trans (g4.trans (g5.trans (g6.trans (g7.trans (g8.trans (g9.trans (g10.trans (g11.trans (g12.trans (g13.trans (g14.trans (g15.trans (g16.trans (g17.trans g18))))))))))))))))))).ext g20).f5;go_wp2_with fail;clear U32 U33 U34 U35 U36 U37 U38 U39 U40 U41;obtain ⟨W21,hW21⟩:∃ W,W=(((w20.setCell ⟨w8.heap.size,2,none⟩ (.int .i64 s36)).setCell ⟨w8.heap.size,3,none⟩ (.slice a36 n36 c36)).setCell ⟨w8.heap.size,4,none⟩ (.slice a36' n36' c36')):=⟨_,rfl⟩;rw [←hW21];obtain ⟨g21,q21,B21,hy21,ho21⟩:=rstoG 2 [.int .i64 s36,.slice a36 n36 c36,.slice a36' n36' c36'] (cs':=#[.int .i64 2,.bool true,.int .i64 s36,.slice a36 n36 c36,.slice a36' n36' c36']) hW21 (g19.trans g20) (by omega) (HB_O.o.ext g20) (by decide) rfl;clear hW21;replace HB_O:=hid B21;obtain ⟨W22,hW22⟩:∃ W,W=(((((W21.setCell ⟨w.heap.size+1+1,0,none⟩ (.int .i64 2)).setCell ⟨w.heap.size+1+1,1,none⟩ (.bool true)).setCell ⟨w.heap.size+1+1,2,none⟩ (.int .i64 s36)).setCell ⟨w.heap.size+1+1,3,none⟩ (.slice a36 n36 c36)).setCell ⟨w.heap.size+1+1,4,none⟩ (.slice a36' n36' c36')):=⟨_,rfl⟩;rw [←hW22];obtain ⟨g22,q22,B22,hy22,ho22⟩:=rstoG 0 [.int .i64 2,.bool true,.int .i64 s36,.slice a36 n36 c36,.slice a36' n36' c36'] (cs':=#[.int .i64 2,.bool true,.int .i64 s36,.slice a36 n36 c36,.slice a36' n36' c36']) hW22 g21 (by omega) (ho21 _ _ _ (by omega) ((ho19 _ _ _ (by omega) (HB_Z.o.ext (g1.trans (g2.trans (g3.trans (g4.trans (g5.trans (g6.trans (g7.trans (g8.trans (g9.trans (g10.trans (g11.trans (g12.trans (g13.trans (g14.trans (g15.trans (g16.trans (g17.trans g18))))))))))))))))))).ext g20)) (by decide) rfl;clear hW22;replace HB_Z:=hid B22;unfold RLookPost;obtain ⟨J42,J43,J44,J45,J46⟩:=HB_Z.o.c5;refine bodyPost_ret (v:=.agg #[.int .i64 2,.bool true,.int .i64 s36,.slice a36 n36 c36,.slice a36' n36' c36']) (by simp [results,Tryz.results79,go_sem,J42,J43,J44,J45,J46]) rfl ⟨_,rfl,⟨_,_,_,_,_,_,_,rfl,((kng.keepR q21).keepR q22)⟩,g22⟩
theorem rlook_2b (E P n f r T h l:Nat) (neg:Bool) (w:World) (hF:Fmt E P) (HC:Hid (LookC E P n f r T neg)) (hw:Word n=.agg #[.int .u64 (h:Nat),.int .u64 (l:Nat)]) (hfT:f≠T) (hf0:f≠0) :
  Calls Tryz.prog 79 #[.agg #[.int .i64 (E:Nat),.int .i64 (P:Nat)],.agg #[.int .u64 (h:Nat),.int .u64 (l:Nat)]] w fun e w'=>RLookPost 2 neg (if neg=true then -(((2^(P-1)+r:Nat):Rat)*(2:Rat)^((f:Int)-(bias E:Int)-P+1)) else ((2^(P-1)+r:Nat):Rat)*(2:Rat)^((f:Int)-(bias E:Int)-P+1)) w e w':=by
 obtain ⟨hE,hP,hb,hEP,hb1⟩:=fmt_bounds hF;have HF:=hid hF;have CW:=hid (HC.o.cw h l hw);have C1:=hid HC.o.p1;have C2:=hid HC.o.p2;have C3:=hid HC.o.p3;have CT:=hid HC.o.tw;have CTP:=hid HC.o.tp;have hf1:=HC.o.f1;have hE1:E≤11:=hE.2;have hP1:2≤P:=hP.1;have hP2:P≤113:=hP.2;have CSG:Hid (∀ w u,RNumV w u (((if neg then 1 else 0:Nat):Nat):Rat)→Calls Tryz.prog 58 #[u] w fun e w'=>e=.returned (.int .i64 (if neg then 1 else 0))∧Ext w w'):=hid fun w u h=>by
  have h2:=rsign_c u _ w h;rw [sign_nat] at h2
  cases neg
  ·exact h2
  ·exact h2
 obtain ⟨zs,hzs⟩:∃ z:Int,z=if neg then 1 else 0:=⟨_,rfl⟩;obtain ⟨zn,hzn⟩:∃ z:Nat,z=if neg then 1 else 0:=⟨_,rfl⟩;rw [←hzs,←hzn] at CSG;rw [←hzn] at C3;have hneg:decide ((0:Int)<zs)=neg:=by rw [hzs];cases neg<;>rfl
 obtain ⟨zr,hzr⟩:∃ z:Int,z=if r=0 then 0 else 1:=⟨_,rfl⟩;have CSR:Hid (∀ w u,RNumV w u ((r:Nat):Rat)→Calls Tryz.prog 58 #[u] w fun e w'=>e=.returned (.int .i64 zr)∧Ext w w'):=hid fun w u h=>by
  have h2:=rsign_c u _ w h;rw [sign_nat,←hzr] at h2;exact h2
 have hr1:r<2^112:=Nat.lt_of_lt_of_le HC.o.hr (Nat.pow_le_pow_right (by decide) (by omega));have SR:Hid (SmQ 201 ((r:Nat):Rat)):=hid (nat_sm (by omega));have hq1:2^(P-2)≤2^111:=Nat.pow_le_pow_right (by decide) (by omega);obtain ⟨Q,hQ⟩:∃ Q,Q=2^(P-2):=⟨_,rfl⟩;rw [←hQ] at CT hq1;have SQ:Hid (SmQ 201 ((Q:Nat):Rat)):=hid (nat_sm (by omega));obtain ⟨cq,hcq⟩:∃ z:Int,z=cmpQ ((r:Nat):Rat) ((Q:Nat):Rat):=⟨_,rfl⟩;have CCQ:Hid (∀ w u v,RNumV w u ((r:Nat):Rat)→RNumV w v ((Q:Nat):Rat)→Calls Tryz.prog 59 #[u,v] w fun e w'=>e=.returned (.int .i64 cq)∧Ext w w'):=hid fun w u v h k=>by
  rw [hcq];exact rcmpq_c u v _ _ 201 w h k SR.o SQ.o (by decide)
 have HTT:=hid HC.o.hT;have HFT:=hid HC.o.hf;obtain ⟨V,hV⟩:∃ V,V=((2^(P-1)+r:Nat):Rat)*(2:Rat)^((f:Int)-(bias E:Int)-P+1):=⟨_,rfl⟩;rw [←hV];have hT:((f:Int)==(T:Int))=false:=beq_eq_false_iff_ne.2 (by omega);have hf2:((f:Int)==0)=false:=beq_eq_false_iff_ne.2 (by omega);have hp1:2^(P-1)≤2^112:=Nat.pow_le_pow_right (by decide) (by omega);obtain ⟨H,hH⟩:∃ H,H=2^(P-1):=⟨_,rfl⟩;obtain ⟨b,hbb⟩:∃ b,b=bias E:=⟨_,rfl⟩;rw [←hH] at hp1 hV;rw [←hbb] at hV hb;have hf9:f≤4096:=by have:=HFT.o;have:=HTT.o;have:=top_le hF;omega
 have CBI:Hid (∀ w,Calls Tryz.prog 126 #[.agg #[.int .i64 (E:Nat),.int .i64 (P:Nat)]] w fun e w'=>e=.returned (.int .i64 (b:Nat))∧Ext w w'):=hid fun w=>by rw [hbb];exact rbias_c E P w hF
 have CTH:Hid (∀ w,Calls Tryz.prog 60 #[.int .i64 ((P:Int)-1)] w fun e w'=>∃ v,e=.returned v∧RNumV w' v ((H:Nat):Rat)∧Ext w w'):=hid fun w=>by
  have h2:=rtwo_c ((P-1:Nat):Int) w (by omega) (by omega);rw [p2_nat,←hH] at h2;rw [show (P:Int)-1=((P-1:Nat):Int) by omega];exact h2
 have CA:Hid (∀ w u v,RNumV w u ((H:Nat):Rat)→RNumV w v ((r:Nat):Rat)→Calls Tryz.prog 61 #[u,v] w fun e w'=>∃ z,e=.returned z∧RNumV w' z ((H+r:Nat):Rat)∧Ext w w'):=hid fun w u v h k=>by
  have h2:=raddq_c u v _ _ 201 w h k (nat_sm (by omega)) SR.o (by decide);rw [nat_add] at h2;exact h2
 have CS:Hid (∀ w u,RNumV w u ((H+r:Nat):Rat)→Calls Tryz.prog 125 #[u,.int .i64 ((f:Int)-(b:Int)-(P:Int)+1)] w fun e w'=>∃ z,e=.returned z∧RNumV w' z V∧Ext w w'):=hid fun w u h=>by
  rw [hV];exact rshiftq_c u _ 201 _ w h (nat_sm (by omega)) (by omega) (by omega) (by decide)
 have hb9:b≤1023:=hb;have hw1:IntKind.i64.wrap ((P:Int)-1)=(P:Int)-1:=IntWalk.i64_in _ (by omega);have hw2:IntKind.i64.wrap ((f:Int)-(b:Int))=(f:Int)-(b:Int):=IntWalk.i64_in _ (by omega);have hw3:IntKind.i64.wrap ((f:Int)-(b:Int)-(P:Int))=(f:Int)-(b:Int)-(P:Int):=IntWalk.i64_in _ (by omega);have hw4:IntKind.i64.wrap ((f:Int)-(b:Int)-(P:Int)+1)=(f:Int)-(b:Int)-(P:Int)+1:=IntWalk.i64_in _ (by omega);clear hfT hf0 hV hp1 hH hbb hf9;clear hE hP hb hEP hb1 hF hzs hzn hzr hr1 hq1 hQ hcq HC hw;obtain ⟨W0,hW0,g0,hz0,B_F,B_W,B_Z⟩:=pro3s w #[.int .i64 (E:Nat),.int .i64 (P:Nat)] #[.int .u64 (h:Nat),.int .u64 (l:Nat)] #[.int .i64 0,.bool false,.int .i64 0,.slice none 0 0,.slice none 0 0] 23 29 122;have HE:=hid g0;have HB_F:=hid B_F;have HB_W:=hid B_W;have HB_Z:=hid B_Z;have ac:=cland HB_F.o.a2 (cland HB_W.o.a2 (HB_Z.o.a5));have hr0:Ext W0 W0:=Below.refl _ _;clear g0 B_F B_W B_Z 
 go_enter Tryz.func79,Tryz.ntmps79
 go_upto_region 1 with (fail)
 rw [←hW0];clear hW0;go_wp2_with fail;refine (CW.o _).mono ?_;rintro e w1 ⟨v1,rfl,kn,g1⟩;obtain ⟨s31,a31,n31,c31,a31',n31',c31',rfl⟩:=kn.shape;have gA:=g1.trans (Ext.alloc w1 (.cells #[.int .i64 s31,.slice a31 n31 c31,.slice a31' n31' c31'] 43));go_wp2_with fail;clear gA;have hs1:=g1.size;obtain ⟨W2,hW2,g2,hy2,B_N⟩:=pro1 w1 #[.int .i64 s31,.slice a31 n31 c31,.slice a31' n31' c31'] 43;rw [←hW2];clear hW2;have hb2:=g1.trans g2;have HB_N:=hid B_N;clear B_N;have he3:=(HE.o.trans hb2);replace ac:=hb2.cl ac;have hr4:Ext W2 W2:=Below.refl _ _;replace ac:=cland ac HB_N.o.a3;refine (C1.o _ _ (kn.ext g2)).mono ?_;rintro e w3 ⟨v3,rfl,kr,g3⟩;obtain ⟨s32,a32,n32,c32,a32',n32',c32',rfl⟩:=kr.shape;have gA:=g3.trans (Ext.alloc w3 (.cells #[.int .i64 s32,.slice a32 n32 c32,.slice a32' n32' c32'] 43));go_wp2_with fail;clear gA;have hs5:=g3.size;obtain ⟨W4,hW4,g4,hy4,B_R⟩:=pro1 w3 #[.int .i64 s32,.slice a32 n32 c32,.slice a32' n32' c32'] 43;rw [←hW4];clear hW4;have hb6:=g3.trans g4;have HB_R:=hid B_R;clear B_R;have he7:=(he3.trans hb6);replace ac:=hb6.cl ac;have hr8:Ext W4 W4:=Below.refl _ _;replace ac:=cland ac HB_R.o.a3;refine (C2.o _ _ (kn.ext (g2.trans (g3.trans g4)))).mono ?_;rintro e w5 ⟨v5,rfl,kf,g5⟩;go_wp2_with fail;refine (rsmall_c _ f _ kf hf1).mono ?_;rintro e w6 ⟨rfl,g6⟩;have hb9:=g5.trans g6;clear kf;go_wp2_with fail;refine (C3.o _ _ ((kn.ext (g2.trans (g3.trans g4))).ext hb9)).mono ?_;rintro e w7 ⟨v7,rfl,ks,g7⟩;have hb10:=hb9.trans g7;go_wp2_with fail;refine (CSG.o _ _ ks).mono ?_;rintro e w8 ⟨rfl,g8⟩;have hb11:=hb10.trans g8;clear ks;have gA:=hb11.trans (Ext.alloc w8 (.cells #[.int .i64 2,.bool neg,.int .i64 0,.slice none 0 0,.slice none 0 0] 122));go_wp2_with fail;clear gA;have hs12:=(g5.trans (g6.trans (g7.trans g8))).size;obtain ⟨W9,hW9,g9,hy9,B_O⟩:=pro1 w8 #[.int .i64 2,.bool neg,.int .i64 0,.slice none 0 0,.slice none 0 0] 122;rw [←hW9];clear hW9;have hb13:=hb11.trans g9;have HB_O:=hid B_O;clear B_O;have he14:=(he7.trans hb13);replace ac:=hb13.cl ac;have hr15:Ext W9 W9:=Below.refl _ _;replace ac:=cland ac HB_O.o.a5;refine (CT.o _).mono ?_;rintro e w10 ⟨v10,rfl,kq,g10⟩;obtain ⟨s33,a33,n33,c33,a33',n33',c33',rfl⟩:=kq.shape;have gA:=g10.trans (Ext.alloc w10 (.cells #[.int .i64 s33,.slice a33 n33 c33,.slice a33' n33' c33'] 43));go_wp2_with fail;clear gA;have hs16:=g10.size;obtain ⟨W11,hW11,g11,hy11,B_Q⟩:=pro1 w10 #[.int .i64 s33,.slice a33 n33 c33,.slice a33' n33' c33'] 43;rw [←hW11];clear hW11;have hb17:=g10.trans g11;have HB_Q:=hid B_Q;clear B_Q;have he18:=(he14.trans hb17);replace ac:=hb17.cl ac;have hr19:Ext W11 W11:=Below.refl _ _;replace ac:=cland ac HB_Q.o.a3;refine (CTP.o _).mono ?_;rintro e w12 ⟨rfl,g12⟩;go_wp2_with fail;refine (CTP.o _).mono ?_;rintro e w13 ⟨rfl,g13⟩;have hb20:=g12.trans g13;go_wp2_with fail;refine (CTP.o _).mono ?_;rintro e w14 ⟨rfl,g14⟩;have hb21:=hb20.trans g14
 go_upto_region 6 with (fail)
 have he22:=(he18.trans hb21);replace ac:=hb21.cl ac;have hr23:Ext w14 w14:=Below.refl _ _
 go_cut [10] (fun sv wx=>∃ g:Nat,sv=.pointer (some ⟨g,0,none⟩)∧Hid (Ext w14 wx)∧w14.heap.size≤g∧RNumBox wx g (((H+r:Nat):Rat)))
 case first =>
  have g15:Ext w14 w14.drew:=Below.drew (Below.refl _ _);refine wp_region_held_drew (S:=Ext w14) (by kernel_rfl) (g15) (fun hHeld => ?_);generalize w14.drew=wD15 at *
  apply wts 0 42 rfl rfl (by kernel_rfl) (fun _ _ _ h=>h) hHeld
  ·intro w' hSw;go_simp<;>with_reducible rfl
  apply wts 1 43 rfl rfl (by kernel_rfl) (fun _ _ _ h=>h) hHeld
  ·intro w' hSw;go_simp<;>with_reducible rfl
  apply wts 2 44 rfl rfl (by kernel_rfl) (fun _ _ _ h=>h) hHeld
  ·intro w' hSw;go_simp<;>with_reducible rfl
  apply wts 4 46 rfl rfl (by kernel_rfl) (fun _ _ _ h=>h) hHeld
  ·intro w' hSw;go_simp<;>with_reducible rfl
  try simp only [Act.put,pA,pB,pC]
  refine wpAnyH_ready (rs:=[3,6]) (by kernel_rfl) (by simp) ?_;refine consb 3 { dst:=some 45,op:=Op.call { callee:=Callee.value (Operand.func 60),args:=#[Operand.tmp 44],argTypes:=#[3] },type:=43,pos := "",after:=#[],guard:=none } rfl rfl (fun KK hKK => ?_) (consb 6 { dst:=some 10,op:=Op.alloc 43,type:=0,pos := "",after:=#[],guard:=none } rfl rfl (fun KK hKK => ?_) (AllReadyH.nil))
  ·go_simp;refine (CTH.o _).mono ?_;rintro e w16 ⟨v16,rfl,kh,g16⟩;have hb24:=g15.trans g16
   try dsimp only
   refine hKK.out _ _ (hb24) (fun hHeld => ?_)
   try simp only [Act.put,pA,pB,pC]
   refine wpAnyH_ready (rs:=[5,6]) (by kernel_rfl) (by simp) ?_;refine consb 5 { dst:=some 47,op:=Op.call { callee:=Callee.value (Operand.func 61),args:=#[Operand.tmp 45,Operand.tmp 46],argTypes:=#[43,43] },type:=43,pos := "",after:=#[],guard:=none } rfl rfl (fun KK hKK => ?_) (consb 6 { dst:=some 10,op:=Op.alloc 43,type:=0,pos := "",after:=#[],guard:=none } rfl rfl (fun KK hKK => ?_) (AllReadyH.nil))
   ·go_simp;refine (CA.o _ _ _ kh ((kr.ext (g4.trans (g5.trans (g6.trans (g7.trans (g8.trans (g9.trans (g10.trans (g11.trans (g12.trans (g13.trans g14))))))))))).ext hb24)).mono ?_;rintro e w17 ⟨v17,rfl,k37,g17⟩;have hb25:=hb24.trans g17;obtain ⟨s37,a37,n37,c37,a37',n37',c37',rfl⟩:=k37.shape
    try dsimp only
    refine hKK.out _ _ (hb25) (fun hHeld => ?_)
    try simp only [Act.put,pA,pB,pC]
    refine won 6 { dst:=some 10,op:=Op.alloc 43,type:=0,pos := "",after:=#[],guard:=none } (by kernel_rfl) rfl rfl (fun KK hKK => ?_);go_simp;have hs26:=(g12.trans (g13.trans (g14.trans (g15.trans (g16.trans g17))))).size;obtain ⟨W18,hW18,g18,hy18,B_M⟩:=pro1 w17 #[.int .i64 0,.slice none 0 0,.slice none 0 0] 43;rw [←hW18];clear hW18;have hleM:=hb25.size;have hb27:=hb25.trans g18;have HB_M:=hid B_M;clear B_M;have hzM:=hb27.size
    try dsimp only
    refine hKK.out _ _ (hb27) (fun hHeld => ?_)
    try simp only [Act.put,pA,pB,pC]
    refine wons 7 43 10 47 (by kernel_rfl) rfl rfl (fun KK hKK => ?_);obtain ⟨J31,J32,J33⟩:=HB_M.o.c3;obtain ⟨U28,U29,U30⟩:=HB_M.o.f3;go_simp;clear U28 U29 U30 J31 J32 J33;obtain ⟨W19,hW19,g19,q19,B19,hy19,ho19⟩:=rsto3 hb27 (by omega) HB_M.o (by decide) (.int .i64 s37) (.slice a37 n37 c37) (.slice a37' n37' c37');rw [←hW19];clear hW19;replace HB_M:=hid B19
    try dsimp only
    refine hKK.out _ _ (g19) (fun hHeld => ?_);refine wpAnyH_done (by kernel_rfl) ?_ _;go_wp2_with fail;go_meet
    exact ⟨_,rfl,hid g19,hleM,_,_,_,_,_,_,_,HB_M.o,((k37.ext g18).keepR q19)⟩
   ·go_simp;have hs25:=(g12.trans (g13.trans (g14.trans (g15.trans g16)))).size;obtain ⟨W17,hW17,g17,hy17,B_M⟩:=pro1 w16 #[.int .i64 0,.slice none 0 0,.slice none 0 0] 43;rw [←hW17];clear hW17;have hleM:=hb24.size;have hb26:=hb24.trans g17;have HB_M:=hid B_M;clear B_M;have hzM:=hb26.size
    try dsimp only
    refine hKK.out _ _ (hb26) (fun hHeld => ?_)
    try simp only [Act.put,pA,pB,pC]
    refine wonc 5 47 61 #[.tmp 45,.tmp 46] #[43,43] 43 (by kernel_rfl) rfl rfl (fun KK hKK => ?_);go_simp;refine (CA.o _ _ _ (kh.ext g17) ((kr.ext (g4.trans (g5.trans (g6.trans (g7.trans (g8.trans (g9.trans (g10.trans (g11.trans (g12.trans (g13.trans g14))))))))))).ext hb26)).mono ?_;rintro e w18 ⟨v18,rfl,k37,g18⟩;have hb27:=hb26.trans g18;obtain ⟨s37,a37,n37,c37,a37',n37',c37',rfl⟩:=k37.shape
    try dsimp only
    refine hKK.out _ _ (hb27) (fun hHeld => ?_)
    try simp only [Act.put,pA,pB,pC]
    refine wons 7 43 10 47 (by kernel_rfl) rfl rfl (fun KK hKK => ?_);obtain ⟨J31,J32,J33⟩:=(HB_M.o.ext g18).c3;obtain ⟨U28,U29,U30⟩:=(HB_M.o.ext g18).f3;go_simp;clear U28 U29 U30 J31 J32 J33;obtain ⟨W19,hW19,g19,q19,B19,hy19,ho19⟩:=rsto3 hb27 (by omega) (HB_M.o.ext g18) (by decide) (.int .i64 s37) (.slice a37 n37 c37) (.slice a37' n37' c37');rw [←hW19];clear hW19;replace HB_M:=hid B19
    try dsimp only
    refine hKK.out _ _ (g19) (fun hHeld => ?_);refine wpAnyH_done (by kernel_rfl) ?_ _;go_wp2_with fail;go_meet
    exact ⟨_,rfl,hid g19,hleM,_,_,_,_,_,_,_,HB_M.o,(k37.keepR q19)⟩
  ·go_simp;have hs24:=(g12.trans (g13.trans (g14.trans g15))).size;obtain ⟨W16,hW16,g16,hy16,B_M⟩:=pro1 wD15 #[.int .i64 0,.slice none 0 0,.slice none 0 0] 43;rw [←hW16];clear hW16;have hleM:=g15.size;have hb25:=g15.trans g16;have HB_M:=hid B_M;clear B_M;have hzM:=hb25.size
   try dsimp only
   refine hKK.out _ _ (hb25) (fun hHeld => ?_)
   try simp only [Act.put,pA,pB,pC]
   refine wonc 3 45 60 #[.tmp 44] #[3] 43 (by kernel_rfl) rfl rfl (fun KK hKK => ?_);go_simp;refine (CTH.o _).mono ?_;rintro e w17 ⟨v17,rfl,kh,g17⟩;have hb26:=hb25.trans g17
   try dsimp only
   refine hKK.out _ _ (hb26) (fun hHeld => ?_)
   try simp only [Act.put,pA,pB,pC]
   refine wonc 5 47 61 #[.tmp 45,.tmp 46] #[43,43] 43 (by kernel_rfl) rfl rfl (fun KK hKK => ?_);go_simp;refine (CA.o _ _ _ kh ((kr.ext (g4.trans (g5.trans (g6.trans (g7.trans (g8.trans (g9.trans (g10.trans (g11.trans (g12.trans (g13.trans g14))))))))))).ext hb26)).mono ?_;rintro e w18 ⟨v18,rfl,k37,g18⟩;have hb27:=hb26.trans g18;obtain ⟨s37,a37,n37,c37,a37',n37',c37',rfl⟩:=k37.shape
   try dsimp only
   refine hKK.out _ _ (hb27) (fun hHeld => ?_)
   try simp only [Act.put,pA,pB,pC]
   refine wons 7 43 10 47 (by kernel_rfl) rfl rfl (fun KK hKK => ?_);obtain ⟨J31,J32,J33⟩:=(HB_M.o.ext (g17.trans g18)).c3;obtain ⟨U28,U29,U30⟩:=(HB_M.o.ext (g17.trans g18)).f3;go_simp;clear U28 U29 U30 J31 J32 J33;obtain ⟨W19,hW19,g19,q19,B19,hy19,ho19⟩:=rsto3 hb27 (by omega) (HB_M.o.ext (g17.trans g18)) (by decide) (.int .i64 s37) (.slice a37 n37 c37) (.slice a37' n37' c37');rw [←hW19];clear hW19;replace HB_M:=hid B19
   try dsimp only
   refine hKK.out _ _ (g19) (fun hHeld => ?_);refine wpAnyH_done (by kernel_rfl) ?_ _;go_wp2_with fail;go_meet
   exact ⟨_,rfl,hid g19,hleM,_,_,_,_,_,_,_,HB_M.o,(k37.keepR q19)⟩
 case rest =>
  obtain ⟨gM,rfl,gx20,hg20,s20,a20,n20,c20,a20',n20',c20',B20,kv20⟩:=hcut;obtain ⟨wc20,rfl⟩:∃ x,x=wc:=⟨_,rfl⟩;have hs35:=(g12.trans (g13.trans g14)).size;have HB_M:=hid B20;clear B20;have he36:=(he22.trans gx20.o);replace ac:=gx20.o.cl ac;have hr37:Ext wc20 wc20:=Below.refl _ _;replace ac:=cland ac HB_M.o.a3
  go_upto_region 7 with (fail)
  have kc:=cland (Box.bt (z:=w8.heap.size) (HB_F.o.ext (g1.trans (g2.trans (g3.trans (g4.trans (g5.trans (g6.trans (g7.trans (g8.trans (g9.trans (g10.trans (g11.trans (g12.trans (g13.trans (g14.trans gx20.o))))))))))))))) (by omega) Box.n2) ((Box.bt (z:=w8.heap.size) HB_M.o (by omega) Box.n3));have g21:Ext wc20 wc20.drew:=Below.drew (Below.refl _ _);refine wp_region_held_drew (S:=But wc20 (w8.heap.size)) (by kernel_rfl) (g21.but) (fun hHeld => ?_);generalize wc20.drew=wD21 at *
  apply wts 0 48 rfl rfl (by kernel_rfl) (fun _ _ _ h=>h) hHeld
  ·intro w' hSw;go_simp<;>with_reducible rfl
  apply wts 1 49 rfl rfl (by kernel_rfl) (fun _ _ _ h=>h) hHeld
  ·intro w' hSw;go_simp<;>with_reducible rfl
  apply wts 2 50 rfl rfl (by kernel_rfl) (fun _ _ _ h=>h) hHeld
  ·intro w' hSw;go_simp<;>with_reducible rfl
  apply wts 5 53 rfl rfl (by kernel_rfl) (fun _ _ _ h=>h) hHeld
  ·intro w' hSw;go_simp<;>with_reducible rfl
  apply wts 6 54 rfl rfl (by kernel_rfl) (fun _ _ _ h=>h) hHeld
  ·intro w' hSw;go_simp<;>with_reducible rfl
  try simp only [Act.put,pA,pB,pC]
  refine wonc 3 51 126 #[.tmp 50] #[23] 3 (by kernel_rfl) rfl rfl (fun KK hKK => ?_);go_simp;refine (CBI.o _).mono ?_;rintro e w22 ⟨rfl,g22⟩;have hb38:=g21.trans g22
  try dsimp only
  refine hKK.out _ _ (hb38.but) (fun hHeld => ?_);apply wts 4 52 rfl rfl (by kernel_rfl) (fun _ _ _ h=>h) hHeld
  ·intro w' hSw;go_simp<;>with_reducible rfl
  apply wts 7 55 rfl rfl (by kernel_rfl) (fun _ _ _ h=>h) hHeld
  ·intro w' hSw;go_simp<;>with_reducible rfl
  apply wts 8 56 rfl rfl (by kernel_rfl) (fun _ _ _ h=>h) hHeld
  ·intro w' hSw;go_simp<;>with_reducible rfl
  try simp only [Act.put,pA,pB,pC]
  refine wonc 9 57 125 #[.tmp 48,.tmp 56] #[43,3] 43 (by kernel_rfl) rfl rfl (fun KK hKK => ?_);go_simp;refine (CS.o _ _ (kv20.ext hb38)).mono ?_;rintro e w23 ⟨v23,rfl,kv,g23⟩;have hb39:=hb38.trans g23;obtain ⟨s35,a35,n35,c35,a35',n35',c35',rfl⟩:=kv.shape
  try dsimp only
  refine hKK.out _ _ (hb39.but) (fun hHeld => ?_);apply wts 10 58 rfl rfl (by kernel_rfl) (fun _ _ _ h=>h) hHeld
  ·intro w' hSw;go_simp<;>with_reducible rfl
  try simp only [Act.put,pA,pB,pC]
  refine wons 11 43 58 57 (by kernel_rfl) rfl rfl (fun KK hKK => ?_);obtain ⟨U40,U41,U42,U43,U44⟩:=((HB_O.o.ext (g10.trans (g11.trans (g12.trans (g13.trans (g14.trans gx20.o)))))).ext hb39).f5;go_simp;clear U40 U41 U42 U43 U44;obtain ⟨W24,hW24⟩:∃ W,W=(((w23.setCell ⟨w8.heap.size,2,none⟩ (.int .i64 s35)).setCell ⟨w8.heap.size,3,none⟩ (.slice a35 n35 c35)).setCell ⟨w8.heap.size,4,none⟩ (.slice a35' n35' c35')):=⟨_,rfl⟩;rw [←hW24];obtain ⟨g24,q24,B24,hy24,ho24⟩:=rstoG 2 [.int .i64 s35,.slice a35 n35 c35,.slice a35' n35' c35'] (cs':=#[.int .i64 2,.bool neg,.int .i64 s35,.slice a35 n35 c35,.slice a35' n35' c35']) hW24 (he36.trans hb39) (by omega) ((HB_O.o.ext (g10.trans (g11.trans (g12.trans (g13.trans (g14.trans gx20.o)))))).ext hb39) (by decide) rfl;clear hW24;replace HB_O:=hid B24;have hq24:But wc20 (w8.heap.size) W24:=But.sto (hb39.but) ho24
  try dsimp only
  refine hKK.out _ _ (hq24) (fun hHeld => ?_);refine wpAnyH_done (by kernel_rfl) ?_ _
  cases neg
  ·have ac:=cland (ho24 _ _ _ (by omega) (HB_F.o.ext (g1.trans (g2.trans (g3.trans (g4.trans (g5.trans (g6.trans (g7.trans (g8.trans (g9.trans (g10.trans (g11.trans (g12.trans (g13.trans (g14.trans (gx20.o.trans (g21.trans (g22.trans g23))))))))))))))))))).a2 (cland (ho24 _ _ _ (by omega) (HB_W.o.ext (g1.trans (g2.trans (g3.trans (g4.trans (g5.trans (g6.trans (g7.trans (g8.trans (g9.trans (g10.trans (g11.trans (g12.trans (g13.trans (g14.trans (gx20.o.trans (g21.trans (g22.trans g23))))))))))))))))))).a2 (cland (ho24 _ _ _ (by omega) (HB_Z.o.ext (g1.trans (g2.trans (g3.trans (g4.trans (g5.trans (g6.trans (g7.trans (g8.trans (g9.trans (g10.trans (g11.trans (g12.trans (g13.trans (g14.trans (gx20.o.trans (g21.trans (g22.trans g23))))))))))))))))))).a5 (cland (ho24 _ _ _ (by omega) (HB_N.o.ext (g3.trans (g4.trans (g5.trans (g6.trans (g7.trans (g8.trans (g9.trans (g10.trans (g11.trans (g12.trans (g13.trans (g14.trans (gx20.o.trans (g21.trans (g22.trans g23))))))))))))))))).a3 (cland (ho24 _ _ _ (by omega) (HB_R.o.ext (g5.trans (g6.trans (g7.trans (g8.trans (g9.trans (g10.trans (g11.trans (g12.trans (g13.trans (g14.trans (gx20.o.trans (g21.trans (g22.trans g23))))))))))))))).a3 (cland HB_O.o.a5 (cland (ho24 _ _ _ (by omega) (HB_Q.o.ext (g12.trans (g13.trans (g14.trans (gx20.o.trans (g21.trans (g22.trans g23)))))))).a3 ((ho24 _ _ _ (by omega) (HB_M.o.ext (g21.trans (g22.trans g23)))).a3)))))));have hr45:Ext W24 W24:=Below.refl _ _;obtain ⟨U46,U47,U48,U49,U50⟩:=HB_O.o.f5;obtain ⟨U51,U52,U53,U54,U55⟩:=(ho24 _ _ _ (by omega) (HB_Z.o.ext (g1.trans (g2.trans (g3.trans (g4.trans (g5.trans (g6.trans (g7.trans (g8.trans (g9.trans (g10.trans (g11.trans (g12.trans (g13.trans (g14.trans (gx20.o.trans (g21.trans (g22.trans g23))))))))))))))))))).f5;go_wp2_with fail;clear U46 U47 U48 U49 U50 U51 U52 U53 U54 U55;obtain ⟨W25,hW25⟩:∃ W,W=(((((W24.setCell ⟨w.heap.size+1+1,0,none⟩ (.int .i64 2)).setCell ⟨w.heap.size+1+1,1,none⟩ (.bool false)).setCell ⟨w.heap.size+1+1,2,none⟩ (.int .i64 s35)).setCell ⟨w.heap.size+1+1,3,none⟩ (.slice a35 n35 c35)).setCell ⟨w.heap.size+1+1,4,none⟩ (.slice a35' n35' c35')):=⟨_,rfl⟩;rw [←hW25];obtain ⟨g25,q25,B25,hy25,ho25⟩:=rstoG 0 [.int .i64 2,.bool false,.int .i64 s35,.slice a35 n35 c35,.slice a35' n35' c35'] (cs':=#[.int .i64 2,.bool false,.int .i64 s35,.slice a35 n35 c35,.slice a35' n35' c35']) hW25 g24 (by omega) (ho24 _ _ _ (by omega) (HB_Z.o.ext (g1.trans (g2.trans (g3.trans (g4.trans (g5.trans (g6.trans (g7.trans (g8.trans (g9.trans (g10.trans (g11.trans (g12.trans (g13.trans (g14.trans (gx20.o.trans (g21.trans (g22.trans g23))))))))))))))))))) (by decide) rfl;clear hW25;replace HB_Z:=hid B25;unfold RLookPost;obtain ⟨J56,J57,J58,J59,J60⟩:=HB_Z.o.c5;refine bodyPost_ret (v:=.agg #[.int .i64 2,.bool false,.int .i64 s35,.slice a35 n35 c35,.slice a35' n35' c35']) (by simp [results,Tryz.results79,go_sem,J56,J57,J58,J59,J60]) rfl ⟨_,rfl,⟨_,_,_,_,_,_,_,rfl,((kv.keepR q24).keepR q25)⟩,g25⟩
  ·have ac:=cland (ho24 _ _ _ (by omega) (HB_F.o.ext (g1.trans (g2.trans (g3.trans (g4.trans (g5.trans (g6.trans (g7.trans (g8.trans (g9.trans (g10.trans (g11.trans (g12.trans (g13.trans (g14.trans (gx20.o.trans (g21.trans (g22.trans g23))))))))))))))))))).a2 (cland (ho24 _ _ _ (by omega) (HB_W.o.ext (g1.trans (g2.trans (g3.trans (g4.trans (g5.trans (g6.trans (g7.trans (g8.trans (g9.trans (g10.trans (g11.trans (g12.trans (g13.trans (g14.trans (gx20.o.trans (g21.trans (g22.trans g23))))))))))))))))))).a2 (cland (ho24 _ _ _ (by omega) (HB_Z.o.ext (g1.trans (g2.trans (g3.trans (g4.trans (g5.trans (g6.trans (g7.trans (g8.trans (g9.trans (g10.trans (g11.trans (g12.trans (g13.trans (g14.trans (gx20.o.trans (g21.trans (g22.trans g23))))))))))))))))))).a5 (cland (ho24 _ _ _ (by omega) (HB_N.o.ext (g3.trans (g4.trans (g5.trans (g6.trans (g7.trans (g8.trans (g9.trans (g10.trans (g11.trans (g12.trans (g13.trans (g14.trans (gx20.o.trans (g21.trans (g22.trans g23))))))))))))))))).a3 (cland (ho24 _ _ _ (by omega) (HB_R.o.ext (g5.trans (g6.trans (g7.trans (g8.trans (g9.trans (g10.trans (g11.trans (g12.trans (g13.trans (g14.trans (gx20.o.trans (g21.trans (g22.trans g23))))))))))))))).a3 (cland HB_O.o.a5 (cland (ho24 _ _ _ (by omega) (HB_Q.o.ext (g12.trans (g13.trans (g14.trans (gx20.o.trans (g21.trans (g22.trans g23)))))))).a3 ((ho24 _ _ _ (by omega) (HB_M.o.ext (g21.trans (g22.trans g23)))).a3)))))));have hr45:Ext W24 W24:=Below.refl _ _;go_wp2_with fail;refine (rneg_c _ _ _ (kv.keepR q24)).mono ?_;rintro e w25 ⟨v25,rfl,kng,g25⟩;obtain ⟨s36,a36,n36,c36,a36',n36',c36',rfl⟩:=kng.shape;obtain ⟨U46,U47,U48,U49,U50⟩:=(HB_O.o.ext g25).f5;obtain ⟨U51,U52,U53,U54,U55⟩:=((ho24 _ _ _ (by omega) (HB_Z.o.ext (g1.trans (g2.trans (g3.trans (g4.trans (g5.trans (g6.trans (g7.trans (g8.trans (g9.trans (g10.trans (g11.trans (g12.trans (g13.trans (g14.trans (gx20.o.trans (g21.trans (g22.trans g23))))))))))))))))))).ext g25).f5;go_wp2_with fail;clear U46 U47 U48 U49 U50 U51 U52 U53 U54 U55;obtain ⟨W26,hW26⟩:∃ W,W=(((w25.setCell ⟨w8.heap.size,2,none⟩ (.int .i64 s36)).setCell ⟨w8.heap.size,3,none⟩ (.slice a36 n36 c36)).setCell ⟨w8.heap.size,4,none⟩ (.slice a36' n36' c36')):=⟨_,rfl⟩;rw [←hW26];obtain ⟨g26,q26,B26,hy26,ho26⟩:=rstoG 2 [.int .i64 s36,.slice a36 n36 c36,.slice a36' n36' c36'] (cs':=#[.int .i64 2,.bool true,.int .i64 s36,.slice a36 n36 c36,.slice a36' n36' c36']) hW26 (g24.trans g25) (by omega) (HB_O.o.ext g25) (by decide) rfl;clear hW26;replace HB_O:=hid B26;obtain ⟨W27,hW27⟩:∃ W,W=(((((W26.setCell ⟨w.heap.size+1+1,0,none⟩ (.int .i64 2)).setCell ⟨w.heap.size+1+1,1,none⟩ (.bool true)).setCell ⟨w.heap.size+1+1,2,none⟩ (.int .i64 s36)).setCell ⟨w.heap.size+1+1,3,none⟩ (.slice a36 n36 c36)).setCell ⟨w.heap.size+1+1,4,none⟩ (.slice a36' n36' c36')):=⟨_,rfl⟩;rw [←hW27];obtain ⟨g27,q27,B27,hy27,ho27⟩:=rstoG 0 [.int .i64 2,.bool true,.int .i64 s36,.slice a36 n36 c36,.slice a36' n36' c36'] (cs':=#[.int .i64 2,.bool true,.int .i64 s36,.slice a36 n36 c36,.slice a36' n36' c36']) hW27 g26 (by omega) (ho26 _ _ _ (by omega) ((ho24 _ _ _ (by omega) (HB_Z.o.ext (g1.trans (g2.trans (g3.trans (g4.trans (g5.trans (g6.trans (g7.trans (g8.trans (g9.trans (g10.trans (g11.trans (g12.trans (g13.trans (g14.trans (gx20.o.trans (g21.trans (g22.trans g23))))))))))))))))))).ext g25)) (by decide) rfl;clear hW27;replace HB_Z:=hid B27;unfold RLookPost;obtain ⟨J56,J57,J58,J59,J60⟩:=HB_Z.o.c5;refine bodyPost_ret (v:=.agg #[.int .i64 2,.bool true,.int .i64 s36,.slice a36 n36 c36,.slice a36' n36' c36']) (by simp [results,Tryz.results79,go_sem,J56,J57,J58,J59,J60]) rfl ⟨_,rfl,⟨_,_,_,_,_,_,_,rfl,((kng.keepR q26).keepR q27)⟩,g27⟩
theorem bl_top {r P:Nat} (hP:2≤P) (h:r<2^(P-1)):bl r=P-1↔2^(P-2)≤r:=by
 have h1:=bl_lt r;have h2:=bl_le_of_lt h
 constructor
 ·intro h3
  have h4:0<r:=by
   rcases Nat.eq_zero_or_pos r with h5 | h5
   ·rw [h5,show bl 0=0 from rfl] at h3;omega
   ·exact h5
  have h6:=bl_le h4;rw [h3] at h6
  rwa [show P-1-1=P-2 by omega] at h6
 ·intro h3
  rcases Nat.lt_or_ge (bl r) (P-1) with h4 | h4
  ·have:2^bl r≤2^(P-2):=Nat.pow_le_pow_right (by decide) (by omega)
   omega
  ·omega
theorem wval_neg (E P b n:Nat) (V:Rat) (h:((wfr E P n:Nat):Rat)*(2:Rat)^(2-(b:Int)-P+((max (wf E P n) 1-1:Nat):Int))=V):wval E P b n=if wn E P n=true then -V else V:=by
 unfold wval;rw [h]
 split
 ·rw [Rat.neg_mul,Rat.one_mul]
 ·rw [Rat.one_mul]
theorem rlook_c (E P n:Nat) (w:World) (hF:Fmt E P) (hn:n<2^(E+P)) :
  Calls Tryz.prog 79 #[.agg #[.int .i64 (E:Nat),.int .i64 (P:Nat)],Word n] w (RLookPost (wkind E P n) (wn E P n) (wvalK E P (bias E) n) w):=by
 have HC:=hid (LookC.of hF hn);have hP:=(fmt_bounds hF).2.1.1;obtain ⟨f,hf⟩:∃ f,f=n/2^(P-1)%2^E:=⟨_,rfl⟩;obtain ⟨r,hr⟩:∃ r,r=n%2^(P-1):=⟨_,rfl⟩;obtain ⟨ng,hng⟩:∃ b,b=wn E P n:=⟨_,rfl⟩;have ef:wf E P n=f:=by rw [hf];rfl
 have er:wr P n=r:=by rw [hr];rfl
 rw [←hf,←hr,←hng] at HC;have hr1:r<2^(P-1):=HC.o.hr;rw [←hng]
 by_cases h1:f=2^E-1
 ·by_cases h2:r=0
  ·have e:wkind E P n=3:=by unfold wkind;rw [ef,er,if_pos h1,if_pos h2]
   have e2:wvalK E P (bias E) n=0:=by unfold wvalK;rw [e];rfl
   rw [e2,e]
   exact rlook_3 E P n f r _ _ _ ng w hF HC rfl h1 h2
  ·by_cases h3:2^(P-2)≤r
   ·have e:wkind E P n=4:=by unfold wkind;rw [ef,er,if_pos h1,if_neg h2,if_pos ((bl_top hP hr1).2 h3)]
    have e2:wvalK E P (bias E) n=((r-2^(P-2):Nat):Rat):=by
     unfold wvalK;rw [e,if_neg (by decide),if_pos rfl,er]
     congr 1
     have h5:2^(P-1)=2*2^(P-2):=by rw [←Nat.pow_succ'];congr 1;omega
     rw [Nat.mod_eq_sub_mod h3,Nat.mod_eq_of_lt (by omega)]
    rw [e2,e]
    exact rlook_4 E P n f r _ _ _ ng w hF HC rfl h1 h2 h3
   ·have e:wkind E P n=5:=by unfold wkind;rw [ef,er,if_pos h1,if_neg h2,if_neg (fun h=>h3 ((bl_top hP hr1).1 h))]
    have e2:wvalK E P (bias E) n=((r:Nat):Rat):=by unfold wvalK;rw [e,if_neg (by decide),if_neg (by decide),if_pos rfl,er]
    rw [e2,e]
    exact rlook_5 E P n f r _ _ _ ng w hF HC rfl h1 h2 (by omega)
 ·by_cases h2:f=0
  ·by_cases h3:r=0
   ·have e:wkind E P n=1:=by unfold wkind;rw [ef,er,if_neg h1,if_pos ⟨h2,h3⟩]
    have e2:wvalK E P (bias E) n=0:=by unfold wvalK;rw [e];rfl
    rw [e2,e]
    exact rlook_1 E P n f r _ _ _ ng w hF HC rfl h1 h2 h3
   ·have e:wkind E P n=2:=by unfold wkind;rw [ef,er,if_neg h1,if_neg (fun h=>h3 h.2)]
    have e2:wvalK E P (bias E) n=if ng=true then -(((r:Nat):Rat)*(2:Rat)^(2-(bias E:Int)-P)) else ((r:Nat):Rat)*(2:Rat)^(2-(bias E:Int)-P):=by
     unfold wvalK;rw [e,if_pos rfl,wval_neg E P (bias E) n _ rfl,←hng];unfold wfr;rw [ef,er,if_pos h2,h2];simp only [show ((max 0 1-1:Nat):Int)=0 from rfl,Int.add_zero]
    rw [e2,e]
    exact rlook_2a E P n f r _ _ _ ng w hF HC rfl h1 h2 h3
  ·have e:wkind E P n=2:=by unfold wkind;rw [ef,er,if_neg h1,if_neg (fun h=>h2 h.1)]
   have e2:wvalK E P (bias E) n=if ng=true then -(((2^(P-1)+r:Nat):Rat)*(2:Rat)^((f:Int)-(bias E:Int)-P+1)) else ((2^(P-1)+r:Nat):Rat)*(2:Rat)^((f:Int)-(bias E:Int)-P+1):=by
    unfold wvalK;rw [e,if_pos rfl,wval_neg E P (bias E) n _ rfl,←hng];unfold wfr;rw [ef,er,if_neg h2,Nat.add_comm r,show 2-(bias E:Int)-P+((max f 1-1:Nat):Int)=(f:Int)-(bias E:Int)-P+1 by omega]
   rw [e2,e]
   exact rlook_2b E P n f r _ _ _ ng w hF HC rfl h1 h2
theorem ROpV.ext {w w':World} {v:Value} {k:Int} {neg:Bool} {q:Rat} (h:ROpV w v k neg q) (e:Ext w w'):ROpV w' v k neg q:=by
 obtain ⟨s,a,n,c,a',n',c',h1,h2⟩:=h;exact ⟨s,a,n,c,a',n',c',h1,h2.ext e⟩
def placeQ (P b:Nat) (k:Int) (neg:Bool) (q:Rat):Rat:=if k=3 then (if neg=true then -(grQ P b+1) else grQ P b+1) else q
theorem rplace_c (E P:Nat) (x:Value) (k:Int) (neg:Bool) (q:Rat) (w:World) (hF:Fmt E P) (hx:ROpV w x k neg q) :
  Calls Tryz.prog 81 #[.agg #[.int .i64 (E:Nat),.int .i64 (P:Nat)],x] w fun e w'=>∃ v,e=.returned v∧RNumV w' v (placeQ P (bias E) k neg q)∧Ext w w':=by
 obtain ⟨s1,a1,n1,c1,a1',n1',c1',rfl,hvx⟩:=hx;have HF:=hid hF
 by_cases hk:k=3
 ·subst hk;obtain ⟨G,hG⟩:∃ G,G=grQ P (bias E):=⟨_,rfl⟩;have CG:Hid (∀ w,Calls Tryz.prog 151 #[.agg #[.int .i64 (E:Nat),.int .i64 (P:Nat)]] w fun e w'=>∃ v,e=.returned v∧RNumV w' v G∧Ext w w'):=hid fun w=>by rw [hG];exact rgreatest_c E P w hF
  have CA:Hid (∀ w u v,RNumV w u G→RNumV w v ((1:Nat):Rat)→Calls Tryz.prog 61 #[u,v] w fun e w'=>∃ z,e=.returned z∧RNumV w' z (G+1)∧Ext w w'):=hid fun w u v h k=>raddq_c u v _ _ 2001 w h k (by rw [hG];exact (grQ_smF hF).mono (by decide)) ((nat_sm (K:=200) (n:=1) (by decide)).mono (by decide)) (by decide);have HR:Hid (placeQ P (bias E) 3 neg q=if neg=true then -(G+1) else G+1):=hid (by unfold placeQ;rw [if_pos rfl,hG]);clear hF hG;obtain ⟨W0,hW0,g0,hz0,B_F,B_X,B_Z⟩:=pro3s w #[.int .i64 (E:Nat),.int .i64 (P:Nat)] #[.int .i64 3,.bool neg,.int .i64 s1,.slice a1 n1 c1,.slice a1' n1' c1'] #[.int .i64 0,.slice none 0 0,.slice none 0 0] 23 122 43;have HE:=hid g0;have HB_F:=hid B_F;have HB_X:=hid B_X;have HB_Z:=hid B_Z;have ac:=cland HB_F.o.a2 (cland HB_X.o.a5 (HB_Z.o.a3));have hr0:Ext W0 W0:=Below.refl _ _;clear g0 B_F B_X B_Z 
  go_enter Tryz.func81,Tryz.ntmps81
  go_upto_region 1 with (fail)
  rw [←hW0];clear hW0;replace hvx:=hvx.ext HE.o;go_wp2_with fail;refine (CG.o _).mono ?_;rintro e w1 ⟨v1,rfl,kg,g1⟩;go_wp2_with fail;refine (rint_i 1 1 _ rfl (by decide)).mono ?_;rintro e w2 ⟨v2,rfl,ko,g2⟩;have hb1:=g1.trans g2;go_wp2_with fail;refine (CA.o _ _ _ (kg.ext g2) ko).mono ?_;rintro e w3 ⟨v3,rfl,ks,g3⟩;have hb2:=hb1.trans g3;clear kg ko;obtain ⟨s5,a5,n5,c5,a5',n5',c5',rfl⟩:=ks.shape;have gA:=hb2.trans (Ext.alloc w3 (.cells #[.int .i64 s5,.slice a5 n5 c5,.slice a5' n5' c5'] 43))
  go_upto_region 4 with (fail)
  clear gA;have hs3:=(g1.trans (g2.trans g3)).size;obtain ⟨W4,hW4,g4,hy4,B_S⟩:=pro1 w3 #[.int .i64 s5,.slice a5 n5 c5,.slice a5' n5' c5'] 43;rw [←hW4];clear hW4;have hb4:=hb2.trans g4;have HB_S:=hid B_S;clear B_S;have he5:=(HE.o.trans hb4);replace ac:=hb4.cl ac;have hr6:Ext W4 W4:=Below.refl _ _;replace ac:=cland ac HB_S.o.a3
  cases neg
  ·obtain ⟨U7,U8,U9⟩:=(HB_Z.o.ext (g1.trans (g2.trans (g3.trans g4)))).f3;go_wp2_with fail;clear U7 U8 U9;obtain ⟨W5,hW5,g5,q5,B5,hy5,ho5⟩:=rsto3 he5 (by omega) (HB_Z.o.ext (g1.trans (g2.trans (g3.trans g4)))) (by decide) (.int .i64 s5) (.slice a5 n5 c5) (.slice a5' n5' c5');rw [←hW5];clear hW5;replace HB_Z:=hid B5;obtain ⟨J10,J11,J12⟩:=HB_Z.o.c3;refine bodyPost_ret (v:=.agg #[.int .i64 s5,.slice a5 n5 c5,.slice a5' n5' c5']) (by simp [results,Tryz.results81,go_sem,J10,J11,J12]) rfl ⟨_,rfl,by rw [HR.o];exact ((ks.ext g4).keepR q5),g5⟩
  ·go_wp2_with fail;refine (rneg_c _ _ _ (ks.ext g4)).mono ?_;rintro e w5 ⟨v5,rfl,k9,g5⟩;obtain ⟨s9,a9,n9,c9,a9',n9',c9',rfl⟩:=k9.shape;obtain ⟨U7,U8,U9⟩:=((HB_Z.o.ext (g1.trans (g2.trans (g3.trans g4)))).ext g5).f3;go_wp2_with fail;clear U7 U8 U9;obtain ⟨W6,hW6,g6,q6,B6,hy6,ho6⟩:=rsto3 (he5.trans g5) (by omega) ((HB_Z.o.ext (g1.trans (g2.trans (g3.trans g4)))).ext g5) (by decide) (.int .i64 s9) (.slice a9 n9 c9) (.slice a9' n9' c9');rw [←hW6];clear hW6;replace HB_Z:=hid B6;obtain ⟨J10,J11,J12⟩:=HB_Z.o.c3;refine bodyPost_ret (v:=.agg #[.int .i64 s9,.slice a9 n9 c9,.slice a9' n9' c9']) (by simp [results,Tryz.results81,go_sem,J10,J11,J12]) rfl ⟨_,rfl,by rw [HR.o];exact (k9.keepR q6),g6⟩
 ·have hk3:(k != 3)=true:=bne_iff_ne.2 hk;have HR:Hid (placeQ P (bias E) k neg q=q):=hid (by unfold placeQ;rw [if_neg hk]);clear hF hk;obtain ⟨W0,hW0,g0,hz0,B_F,B_X,B_Z⟩:=pro3s w #[.int .i64 (E:Nat),.int .i64 (P:Nat)] #[.int .i64 k,.bool neg,.int .i64 s1,.slice a1 n1 c1,.slice a1' n1' c1'] #[.int .i64 0,.slice none 0 0,.slice none 0 0] 23 122 43;have HE:=hid g0;have HB_F:=hid B_F;have HB_X:=hid B_X;have HB_Z:=hid B_Z;have ac:=cland HB_F.o.a2 (cland HB_X.o.a5 (HB_Z.o.a3));have hr0:Ext W0 W0:=Below.refl _ _;clear g0 B_F B_X B_Z 
  go_enter Tryz.func81,Tryz.ntmps81
  go_upto_region 1 with (fail)
  rw [←hW0];clear hW0;replace hvx:=hvx.ext HE.o;obtain ⟨U1,U2,U3⟩:=HB_Z.o.f3;go_wp2_with fail;clear U1 U2 U3;obtain ⟨W1,hW1,g1,q1,B1,hy1,ho1⟩:=rsto3 HE.o (by omega) HB_Z.o (by decide) (.int .i64 s1) (.slice a1 n1 c1) (.slice a1' n1' c1');rw [←hW1];clear hW1;replace HB_Z:=hid B1;obtain ⟨J4,J5,J6⟩:=HB_Z.o.c3;refine bodyPost_ret (v:=.agg #[.int .i64 s1,.slice a1 n1 c1,.slice a1' n1' c1']) (by simp [results,Tryz.results81,go_sem,J4,J5,J6]) rfl ⟨_,rfl,by rw [HR.o];exact (hvx.keepR q1),g1⟩
def OBox (w:World) (g:Nat) (k:Nat) (neg:Bool) (q:Rat):Prop:=∃ (s:Int) (a:Option Addr) (n c:Nat) (a':Option Addr) (n' c':Nat),Box w g #[.int .i64 (k:Nat),.bool neg,.int .i64 s,.slice a n c,.slice a' n' c'] 122∧RNumV w (.agg #[.int .i64 s,.slice a n c,.slice a' n' c']) q
theorem OBox.ext {w w':World} {g k:Nat} {neg:Bool} {q:Rat} (h:OBox w g k neg q) (e:Ext w w'):OBox w' g k neg q:=by
 obtain ⟨s,a,n,c,a',n',c',h1,h2⟩:=h;exact ⟨s,a,n,c,a',n',c',h1.ext e,h2.ext e⟩
theorem rlook_k (E P n k:Nat) (ng:Bool) (q:Rat) (w:World) (hF:Fmt E P) (hn:n<2^(E+P)) (hk:wkind E P n=(k:Int)) (hng:wn E P n=ng) (hq:wvalK E P (bias E) n=q) :
  Calls Tryz.prog 79 #[.agg #[.int .i64 (E:Nat),.int .i64 (P:Nat)],Word n] w fun e w'=>∃ v,e=.returned v∧ROpV w' v (k:Nat) ng q∧Ext w w':=by
 have h:=rlook_c E P n w hF hn;rw [hk,hng,hq] at h;exact h
theorem wkind_nat (E P n:Nat):∃ k:Nat,wkind E P n=(k:Int)∧1≤k∧k≤5:=by
 unfold wkind
 split
 ·split
  ·exact ⟨3,rfl,by decide,by decide⟩
  ·split
   ·exact ⟨4,rfl,by decide,by decide⟩
   ·exact ⟨5,rfl,by decide,by decide⟩
 ·split
  ·exact ⟨1,rfl,by decide,by decide⟩
  ·exact ⟨2,rfl,by decide,by decide⟩
theorem ROpV.shape {w:World} {v:Value} {k:Int} {neg:Bool} {q:Rat} (h:ROpV w v k neg q):∃ (s:Int) (a:Option Addr) (n c:Nat) (a':Option Addr) (n' c':Nat),v=.agg #[.int .i64 k,.bool neg,.int .i64 s,.slice a n c,.slice a' n' c']:=by
 obtain ⟨s,a,n,c,a',n',c',h1,_⟩:=h;exact ⟨s,a,n,c,a',n',c',h1⟩
theorem ROpV.keepR {w w':World} {v:Value} {k:Int} {neg:Bool} {q:Rat} (h:ROpV w v k neg q) (e:KeepR w w'):ROpV w' v k neg q:=by
 obtain ⟨s,a,n,c,a',n',c',h1,h2⟩:=h;exact ⟨s,a,n,c,a',n',c',h1,h2.keepR e⟩
theorem ROpV.num {w:World} {k:Int} {neg:Bool} {x y z:Value} {q:Rat} (h:ROpV w (.agg #[.int .i64 k,.bool neg,x,y,z]) k neg q):RNumV w (.agg #[x,y,z]) q:=by
 obtain ⟨s,a,n,c,a',n',c',h1,h2⟩:=h;have h3:x=.int .i64 s∧y=.slice a n c∧z=.slice a' n' c':=by simpa using h1
 rw [h3.1,h3.2.1,h3.2.2];exact h2
theorem rcmpw_bad (E P z:Int) (n1 n2:Nat) (w:World) (hz:z≠0) (b1:W128 n1) (b2:W128 n2) (CW:Hid (∀ w v,WSl w v [n1,n2]→Calls Tryz.prog 78 #[.agg #[.int .i64 E,.int .i64 P],.int .i64 0,v] w fun e w'=>e=.returned (.int .i64 z)∧Ext w w')) :
  Calls Tryz.prog 20 #[.agg #[.int .i64 E,.int .i64 P],Word n1,Word n2] w fun e w'=>e=.returned (.tuple #[.int .i64 0,.int .i64 0,.int .i64 z])∧Ext w w':=by
 have hzb:(z != 0)=true:=bne_iff_ne.2 hz;have HN1:=hid b1;have HN2:=hid b2;clear hz b1 b2;obtain ⟨h1,hh1⟩:∃ h,h=n1/18446744073709551616:=⟨_,rfl⟩;obtain ⟨l1,hl1⟩:∃ l,l=n1%18446744073709551616:=⟨_,rfl⟩;have ew1:Word n1=.agg #[.int .u64 (h1:Nat),.int .u64 (l1:Nat)]:=by unfold Word;rw [hh1,hl1]
 rw [ew1];have HH1:=hid hh1;have HL1:=hid hl1;have EW1:=hid ew1;clear hh1 hl1 ew1;obtain ⟨h2,hh2⟩:∃ h,h=n2/18446744073709551616:=⟨_,rfl⟩;obtain ⟨l2,hl2⟩:∃ l,l=n2%18446744073709551616:=⟨_,rfl⟩;have ew2:Word n2=.agg #[.int .u64 (h2:Nat),.int .u64 (l2:Nat)]:=by unfold Word;rw [hh2,hl2]
 rw [ew2];have HH2:=hid hh2;have HL2:=hid hl2;have EW2:=hid ew2;clear hh2 hl2 ew2;obtain ⟨W0,hW0,g0,hz0,B_F,B_A,B_B⟩:=pro3s w #[.int .i64 E,.int .i64 P] #[.int .u64 (h1:Nat),.int .u64 (l1:Nat)] #[.int .u64 (h2:Nat),.int .u64 (l2:Nat)] 23 29 29;have HE:=hid g0;have HB_F:=hid B_F;have HB_A:=hid B_A;have HB_B:=hid B_B;have ac:=cland HB_F.o.a2 (cland HB_A.o.a2 (HB_B.o.a2));have hr0:Ext W0 W0:=Below.refl _ _;clear g0 B_F B_A B_B 
 go_enter Tryz.func20,Tryz.ntmps20
 go_upto_region 1 with (fail)
 rw [←hW0];clear hW0;go_wp2_with fail;obtain ⟨W1,hW1,g1,hy1,B_R⟩:=pro1 W0 #[.int .u64 (h1:Nat),.int .u64 (l1:Nat),.int .u64 (h2:Nat),.int .u64 (l2:Nat)] 29;rw [←hW1];clear hW1;have HB_R:=hid B_R;clear B_R;have he1:=(HE.o.trans g1);replace ac:=g1.cl ac;have hr2:Ext W1 W1:=Below.refl _ _;replace ac:=cland ac HB_R.o.a4;have HWS:Hid (WSl W1 (.slice (some ⟨W0.heap.size,0,none⟩) 2 2) [n1,n2]):=hid ⟨some ⟨W0.heap.size,0,none⟩,W0.heap.size,0,2,rfl,Nat.le_refl _,by decide,fun _=>rfl,fun x hx=>by
   simp at hx;rcases hx with rfl | rfl;exact HN1.o;exact HN2.o,fun k hk=>by
   have hk2:k=0∨k=1:=by simp at hk;omega
   rcases hk2 with rfl | rfl
   ·refine ⟨?_,?_⟩
    ·have:=HB_R.o.cell 0;rw [HH1.o] at this;exact this
    ·have:=HB_R.o.cell 1;rw [HL1.o] at this;exact this
   ·refine ⟨?_,?_⟩
    ·have:=HB_R.o.cell 2;rw [HH2.o] at this;exact this
    ·have:=HB_R.o.cell 3;rw [HL2.o] at this;exact this⟩
 refine (CW.o _ _ HWS.o).mono ?_;rintro e w2 ⟨rfl,g2⟩;go_wp2_with fail;go_ret3
 exact ⟨rfl,(he1.trans g2)⟩
def rcmpR (P b:Nat) (k1:Nat) (ng1:Bool) (q1:Rat) (k2:Nat) (ng2:Bool) (q2:Rat):Int×Int:=if anyNan [k1,k2]=true then (2,flagOf [k1,k2]) else (cmpQ (placeQ P b k1 ng1 q1) (placeQ P b k2 ng2 q2),0)
theorem rcmpw_good (E P n1 n2 k1 k2:Nat) (ng1 ng2:Bool) (q1 q2:Rat) (K:Nat) (w:World) (hF:Fmt E P) (hn1:n1<2^(E+P)) (hn2:n2<2^(E+P)) (hk1:wkind E P n1=k1) (hk2:wkind E P n2=k2) (hng1:wn E P n1=ng1) (hng2:wn E P n2=ng2) (hq1:wvalK E P (bias E) n1=q1) (hq2:wvalK E P (bias E) n2=q2) (hk1b:k1≤5) (hk2b:k2≤5) (s1:SmQ K (placeQ P (bias E) k1 ng1 q1)) (s2:SmQ K (placeQ P (bias E) k2 ng2 q2)) (hK:K≤100000) :
  Calls Tryz.prog 20 #[.agg #[.int .i64 (E:Nat),.int .i64 (P:Nat)],Word n1,Word n2] w fun e w'=>e=.returned (.tuple #[.int .i64 (rcmpR P (bias E) k1 ng1 q1 k2 ng2 q2).1,.int .i64 (rcmpR P (bias E) k1 ng1 q1 k2 ng2 q2).2,.int .i64 0])∧Ext w w':=by
 have h124:=fmt_pow hF;have HN1:Hid (W128 n1):=hid (show n1<_ by omega);have HN2:Hid (W128 n2):=hid (show n2<_ by omega);clear h124;obtain ⟨h1,hh1⟩:∃ h,h=n1/18446744073709551616:=⟨_,rfl⟩;obtain ⟨l1,hl1⟩:∃ l,l=n1%18446744073709551616:=⟨_,rfl⟩;have ew1:Word n1=.agg #[.int .u64 (h1:Nat),.int .u64 (l1:Nat)]:=by unfold Word;rw [hh1,hl1]
 rw [ew1];have HH1:=hid hh1;have HL1:=hid hl1;have EW1:=hid ew1;clear hh1 hl1 ew1;obtain ⟨h2,hh2⟩:∃ h,h=n2/18446744073709551616:=⟨_,rfl⟩;obtain ⟨l2,hl2⟩:∃ l,l=n2%18446744073709551616:=⟨_,rfl⟩;have ew2:Word n2=.agg #[.int .u64 (h2:Nat),.int .u64 (l2:Nat)]:=by unfold Word;rw [hh2,hl2]
 rw [ew2];have HH2:=hid hh2;have HL2:=hid hl2;have EW2:=hid ew2;clear hh2 hl2 ew2;have CL1:Hid (∀ w,Calls Tryz.prog 79 #[.agg #[.int .i64 (E:Nat),.int .i64 (P:Nat)],.agg #[.int .u64 (h1:Nat),.int .u64 (l1:Nat)]] w fun e w'=>∃ v,e=.returned v∧ROpV w' v (k1:Nat) ng1 q1∧Ext w w'):=hid fun w=>by
  rw [←EW1.o];exact rlook_k E P n1 k1 ng1 q1 w hF hn1 hk1 hng1 hq1
 have CL2:Hid (∀ w,Calls Tryz.prog 79 #[.agg #[.int .i64 (E:Nat),.int .i64 (P:Nat)],.agg #[.int .u64 (h2:Nat),.int .u64 (l2:Nat)]] w fun e w'=>∃ v,e=.returned v∧ROpV w' v (k2:Nat) ng2 q2∧Ext w w'):=hid fun w=>by
  rw [←EW2.o];exact rlook_k E P n2 k2 ng2 q2 w hF hn2 hk2 hng2 hq2
 have HK1:=hid hk1b;have HK2:=hid hk2b;have HF:=hid hF;have CW:Hid (∀ w v,WSl w v [n1,n2]→Calls Tryz.prog 78 #[.agg #[.int .i64 (E:Nat),.int .i64 (P:Nat)],.int .i64 0,v] w fun e w'=>e=.returned (.int .i64 0)∧Ext w w'):=hid fun w v h=>by
  have h2:=rwords_good E P 0 v [n1,n2] w hF (by decide) h;have e:wordsR (2^(E+P)) [n1,n2]=0:=by unfold wordsR;rw [if_pos];simp [hn1,hn2]
  rwa [e] at h2
 obtain ⟨Q1,hQ1⟩:∃ Q,Q=placeQ P (bias E) k1 ng1 q1:=⟨_,rfl⟩;obtain ⟨Q2,hQ2⟩:∃ Q,Q=placeQ P (bias E) k2 ng2 q2:=⟨_,rfl⟩;have CP1:Hid (∀ w x,ROpV w x (k1:Nat) ng1 q1→Calls Tryz.prog 81 #[.agg #[.int .i64 (E:Nat),.int .i64 (P:Nat)],x] w fun e w'=>∃ v,e=.returned v∧RNumV w' v Q1∧Ext w w'):=hid fun w x h=>by rw [hQ1];exact rplace_c E P x _ ng1 q1 w hF h
 have CP2:Hid (∀ w x,ROpV w x (k2:Nat) ng2 q2→Calls Tryz.prog 81 #[.agg #[.int .i64 (E:Nat),.int .i64 (P:Nat)],x] w fun e w'=>∃ v,e=.returned v∧RNumV w' v Q2∧Ext w w'):=hid fun w x h=>by rw [hQ2];exact rplace_c E P x _ ng2 q2 w hF h
 obtain ⟨cc,hcc⟩:∃ c,c=cmpQ Q1 Q2:=⟨_,rfl⟩;have CC:Hid (∀ w u v,RNumV w u Q1→RNumV w v Q2→Calls Tryz.prog 59 #[u,v] w fun e w'=>e=.returned (.int .i64 cc)∧Ext w w'):=hid fun w u v h k=>by
  rw [hcc];exact rcmpq_c u v _ _ K w h k (by rw [hQ1];exact s1) (by rw [hQ2];exact s2) (by omega)
 obtain ⟨R,hR⟩:∃ R,R=rcmpR P (bias E) k1 ng1 q1 k2 ng2 q2:=⟨_,rfl⟩;have HR:Hid (R=if anyNan [k1,k2]=true then (2,flagOf [k1,k2]) else (cc,0)):=hid (by rw [hR,hcc,hQ1,hQ2];rfl);rw [←hR];clear hF hn1 hn2 hk1 hk2 hng1 hng2 hq1 hq2 hk1b hk2b s1 s2 hK hQ1 hQ2 hcc hR;obtain ⟨W0,hW0,g0,hz0,B_F,B_A,B_B⟩:=pro3s w #[.int .i64 (E:Nat),.int .i64 (P:Nat)] #[.int .u64 (h1:Nat),.int .u64 (l1:Nat)] #[.int .u64 (h2:Nat),.int .u64 (l2:Nat)] 23 29 29;have HE:=hid g0;have HB_F:=hid B_F;have HB_A:=hid B_A;have HB_B:=hid B_B;have ac:=cland HB_F.o.a2 (cland HB_A.o.a2 (HB_B.o.a2));have hr0:Ext W0 W0:=Below.refl _ _;clear g0 B_F B_A B_B 
 go_enter Tryz.func20,Tryz.ntmps20
 go_upto_region 1 with (fail)
 rw [←hW0];clear hW0;go_wp2_with fail;obtain ⟨W1,hW1,g1,hy1,B_R⟩:=pro1 W0 #[.int .u64 (h1:Nat),.int .u64 (l1:Nat),.int .u64 (h2:Nat),.int .u64 (l2:Nat)] 29;rw [←hW1];clear hW1;have HB_R:=hid B_R;clear B_R;have he1:=(HE.o.trans g1);replace ac:=g1.cl ac;have hr2:Ext W1 W1:=Below.refl _ _;replace ac:=cland ac HB_R.o.a4;have HWS:Hid (WSl W1 (.slice (some ⟨W0.heap.size,0,none⟩) 2 2) [n1,n2]):=hid ⟨some ⟨W0.heap.size,0,none⟩,W0.heap.size,0,2,rfl,Nat.le_refl _,by decide,fun _=>rfl,fun x hx=>by
   simp at hx;rcases hx with rfl | rfl;exact HN1.o;exact HN2.o,fun k hk=>by
   have hk2:k=0∨k=1:=by simp at hk;omega
   rcases hk2 with rfl | rfl
   ·refine ⟨?_,?_⟩
    ·have:=HB_R.o.cell 0;rw [HH1.o] at this;exact this
    ·have:=HB_R.o.cell 1;rw [HL1.o] at this;exact this
   ·refine ⟨?_,?_⟩
    ·have:=HB_R.o.cell 2;rw [HH2.o] at this;exact this
    ·have:=HB_R.o.cell 3;rw [HL2.o] at this;exact this⟩
 refine (CW.o _ _ HWS.o).mono ?_;rintro e w2 ⟨rfl,g2⟩;clear CW HWS HB_R
 go_upto_region 4 with (fail)
 have he3:=(he1.trans g2);replace ac:=g2.cl ac;have hr4:Ext w2 w2:=Below.refl _ _
 go_cut [10,11] (fun p q wx=>∃ g h:Nat,p=.pointer (some ⟨g,0,none⟩)∧q=.pointer (some ⟨h,0,none⟩)∧Hid (Ext w2 wx)∧Hid (OBox wx g k1 ng1 q1)∧Hid (OBox wx h k2 ng2 q2))
 case first =>
  have g3:Ext w2 w2.drew:=Below.drew (Below.refl _ _);refine wp_region_held_drew (S:=Ext w2) (by kernel_rfl) (g3) (fun hHeld => ?_);generalize w2.drew=wD3 at *
  apply wts 0 23 rfl rfl (by kernel_rfl) (fun _ _ _ h=>h) hHeld
  ·intro w' hSw;go_simp<;>with_reducible rfl
  apply wts 1 24 rfl rfl (by kernel_rfl) (fun _ _ _ h=>h) hHeld
  ·intro w' hSw;go_simp<;>with_reducible rfl
  apply wts 3 26 rfl rfl (by kernel_rfl) (fun _ _ _ h=>h) hHeld
  ·intro w' hSw;go_simp<;>with_reducible rfl
  apply wts 4 27 rfl rfl (by kernel_rfl) (fun _ _ _ h=>h) hHeld
  ·intro w' hSw;go_simp<;>with_reducible rfl
  try simp only [Act.put,pA,pB,pC]
  refine wpAnyH_ready (rs:=[2,6,7]) (by kernel_rfl) (by simp) ?_;refine consb 2 { dst:=some 25,op:=Op.call { callee:=Callee.value (Operand.func 79),args:=#[Operand.tmp 23,Operand.tmp 24],argTypes:=#[23,29] },type:=122,pos := "",after:=#[],guard:=none } rfl rfl (fun KK hKK => ?_) (consb 6 { dst:=some 10,op:=Op.alloc 122,type:=0,pos := "",after:=#[],guard:=none } rfl rfl (fun KK hKK => ?_) (consb 7 { dst:=some 11,op:=Op.alloc 122,type:=0,pos := "",after:=#[],guard:=none } rfl rfl (fun KK hKK => ?_) (AllReadyH.nil)))
  ·go_simp;refine (CL1.o _).mono ?_;rintro e w4 ⟨v4,rfl,o1,g4⟩;have hb5:=g3.trans g4;obtain ⟨s1,a1,m1,c1,a1',m1',c1',rfl⟩:=o1.shape
   try dsimp only
   refine hKK.out _ _ (hb5) (fun hHeld => ?_)
   try simp only [Act.put,pA,pB,pC]
   refine wpAnyH_ready (rs:=[5,6,7]) (by kernel_rfl) (by simp) ?_;refine consb 5 { dst:=some 28,op:=Op.call { callee:=Callee.value (Operand.func 79),args:=#[Operand.tmp 26,Operand.tmp 27],argTypes:=#[23,29] },type:=122,pos := "",after:=#[],guard:=none } rfl rfl (fun KK hKK => ?_) (consb 6 { dst:=some 10,op:=Op.alloc 122,type:=0,pos := "",after:=#[],guard:=none } rfl rfl (fun KK hKK => ?_) (consb 7 { dst:=some 11,op:=Op.alloc 122,type:=0,pos := "",after:=#[],guard:=none } rfl rfl (fun KK hKK => ?_) (AllReadyH.nil)))
   ·go_simp;refine (CL2.o _).mono ?_;rintro e w5 ⟨v5,rfl,o2,g5⟩;have hb6:=hb5.trans g5;obtain ⟨s2,a2,m2,c2,a2',m2',c2',rfl⟩:=o2.shape
    try dsimp only
    refine hKK.out _ _ (hb6) (fun hHeld => ?_)
    try simp only [Act.put,pA,pB,pC]
    refine wpAnyH_ready (rs:=[6,7]) (by kernel_rfl) (by simp) ?_;refine consb 6 { dst:=some 10,op:=Op.alloc 122,type:=0,pos := "",after:=#[],guard:=none } rfl rfl (fun KK hKK => ?_) (consb 7 { dst:=some 11,op:=Op.alloc 122,type:=0,pos := "",after:=#[],guard:=none } rfl rfl (fun KK hKK => ?_) (AllReadyH.nil))
    ·go_simp;have hs7:=(g2.trans (g3.trans (g4.trans g5))).size;obtain ⟨W6,hW6,g6,hy6,B_X⟩:=pro1 w5 #[.int .i64 0,.bool false,.int .i64 0,.slice none 0 0,.slice none 0 0] 122;rw [←hW6];clear hW6;have hleX:=hb6.size;have hb8:=hb6.trans g6;have HB_X:=hid B_X;clear B_X;have hzX:=hb8.size
     try dsimp only
     refine hKK.out _ _ (hb8) (fun hHeld => ?_)
     try simp only [Act.put,pA,pB,pC]
     refine won 7 { dst:=some 11,op:=Op.alloc 122,type:=0,pos := "",after:=#[],guard:=none } (by kernel_rfl) rfl rfl (fun KK hKK => ?_);go_simp;obtain ⟨W7,hW7,g7,hy7,B_Y⟩:=pro1 W6 #[.int .i64 0,.bool false,.int .i64 0,.slice none 0 0,.slice none 0 0] 122;rw [←hW7];clear hW7;have hleY:=hb8.size;have hb9:=hb8.trans g7;have HB_Y:=hid B_Y;clear B_Y;have hzY:=hb9.size
     try dsimp only
     refine hKK.out _ _ (hb9) (fun hHeld => ?_)
     try simp only [Act.put,pA,pB,pC]
     refine wons 8 122 10 25 (by kernel_rfl) rfl rfl (fun KK hKK => ?_);obtain ⟨J15,J16,J17,J18,J19⟩:=(HB_X.o.ext g7).c5;obtain ⟨U10,U11,U12,U13,U14⟩:=(HB_X.o.ext g7).f5;go_simp;clear U10 U11 U12 U13 U14 J15 J16 J17 J18 J19;obtain ⟨W8,hW8⟩:∃ W,W=(((((W7.setCell ⟨w5.heap.size,0,none⟩ (.int .i64 (k1:Nat))).setCell ⟨w5.heap.size,1,none⟩ (.bool ng1)).setCell ⟨w5.heap.size,2,none⟩ (.int .i64 s1)).setCell ⟨w5.heap.size,3,none⟩ (.slice a1 m1 c1)).setCell ⟨w5.heap.size,4,none⟩ (.slice a1' m1' c1')):=⟨_,rfl⟩;rw [←hW8];obtain ⟨g8,q8,B8,hy8,ho8⟩:=rstoG 0 [.int .i64 (k1:Nat),.bool ng1,.int .i64 s1,.slice a1 m1 c1,.slice a1' m1' c1'] (cs':=#[.int .i64 (k1:Nat),.bool ng1,.int .i64 s1,.slice a1 m1 c1,.slice a1' m1' c1']) hW8 hb9 (by omega) (HB_X.o.ext g7) (by decide) rfl;clear hW8;replace HB_X:=hid B8
     try dsimp only
     refine hKK.out _ _ (g8) (fun hHeld => ?_)
     try simp only [Act.put,pA,pB,pC]
     refine wons 9 122 11 28 (by kernel_rfl) rfl rfl (fun KK hKK => ?_);obtain ⟨J25,J26,J27,J28,J29⟩:=(ho8 _ _ _ (by omega) HB_Y.o).c5;obtain ⟨U20,U21,U22,U23,U24⟩:=(ho8 _ _ _ (by omega) HB_Y.o).f5;go_simp;clear U20 U21 U22 U23 U24 J25 J26 J27 J28 J29;obtain ⟨W9,hW9⟩:∃ W,W=(((((W8.setCell ⟨W6.heap.size,0,none⟩ (.int .i64 (k2:Nat))).setCell ⟨W6.heap.size,1,none⟩ (.bool ng2)).setCell ⟨W6.heap.size,2,none⟩ (.int .i64 s2)).setCell ⟨W6.heap.size,3,none⟩ (.slice a2 m2 c2)).setCell ⟨W6.heap.size,4,none⟩ (.slice a2' m2' c2')):=⟨_,rfl⟩;rw [←hW9];obtain ⟨g9,q9,B9,hy9,ho9⟩:=rstoG 0 [.int .i64 (k2:Nat),.bool ng2,.int .i64 s2,.slice a2 m2 c2,.slice a2' m2' c2'] (cs':=#[.int .i64 (k2:Nat),.bool ng2,.int .i64 s2,.slice a2 m2 c2,.slice a2' m2' c2']) hW9 g8 (by omega) (ho8 _ _ _ (by omega) HB_Y.o) (by decide) rfl;clear hW9;replace HB_Y:=hid B9
     try dsimp only
     refine hKK.out _ _ (g9) (fun hHeld => ?_);refine wpAnyH_done (by kernel_rfl) ?_ _;go_wp2_with fail;go_meet
     exact ⟨_,_,rfl,rfl,hid g9,hid ⟨_,_,_,_,_,_,_,(ho9 _ _ _ (by omega) HB_X.o),(((o1.ext (g5.trans (g6.trans g7))).keepR q8).keepR q9).num⟩,hid ⟨_,_,_,_,_,_,_,HB_Y.o,(((o2.ext (g6.trans g7)).keepR q8).keepR q9).num⟩⟩
    ·go_simp;have hs7:=(g2.trans (g3.trans (g4.trans g5))).size;obtain ⟨W6,hW6,g6,hy6,B_Y⟩:=pro1 w5 #[.int .i64 0,.bool false,.int .i64 0,.slice none 0 0,.slice none 0 0] 122;rw [←hW6];clear hW6;have hleY:=hb6.size;have hb8:=hb6.trans g6;have HB_Y:=hid B_Y;clear B_Y;have hzY:=hb8.size
     try dsimp only
     refine hKK.out _ _ (hb8) (fun hHeld => ?_)
     try simp only [Act.put,pA,pB,pC]
     refine won 6 { dst:=some 10,op:=Op.alloc 122,type:=0,pos := "",after:=#[],guard:=none } (by kernel_rfl) rfl rfl (fun KK hKK => ?_);go_simp;obtain ⟨W7,hW7,g7,hy7,B_X⟩:=pro1 W6 #[.int .i64 0,.bool false,.int .i64 0,.slice none 0 0,.slice none 0 0] 122;rw [←hW7];clear hW7;have hleX:=hb8.size;have hb9:=hb8.trans g7;have HB_X:=hid B_X;clear B_X;have hzX:=hb9.size
     try dsimp only
     refine hKK.out _ _ (hb9) (fun hHeld => ?_)
     try simp only [Act.put,pA,pB,pC]
     refine wons 8 122 10 25 (by kernel_rfl) rfl rfl (fun KK hKK => ?_);obtain ⟨J15,J16,J17,J18,J19⟩:=HB_X.o.c5;obtain ⟨U10,U11,U12,U13,U14⟩:=HB_X.o.f5;go_simp;clear U10 U11 U12 U13 U14 J15 J16 J17 J18 J19;obtain ⟨W8,hW8⟩:∃ W,W=(((((W7.setCell ⟨W6.heap.size,0,none⟩ (.int .i64 (k1:Nat))).setCell ⟨W6.heap.size,1,none⟩ (.bool ng1)).setCell ⟨W6.heap.size,2,none⟩ (.int .i64 s1)).setCell ⟨W6.heap.size,3,none⟩ (.slice a1 m1 c1)).setCell ⟨W6.heap.size,4,none⟩ (.slice a1' m1' c1')):=⟨_,rfl⟩;rw [←hW8];obtain ⟨g8,q8,B8,hy8,ho8⟩:=rstoG 0 [.int .i64 (k1:Nat),.bool ng1,.int .i64 s1,.slice a1 m1 c1,.slice a1' m1' c1'] (cs':=#[.int .i64 (k1:Nat),.bool ng1,.int .i64 s1,.slice a1 m1 c1,.slice a1' m1' c1']) hW8 hb9 (by omega) HB_X.o (by decide) rfl;clear hW8;replace HB_X:=hid B8
     try dsimp only
     refine hKK.out _ _ (g8) (fun hHeld => ?_)
     try simp only [Act.put,pA,pB,pC]
     refine wons 9 122 11 28 (by kernel_rfl) rfl rfl (fun KK hKK => ?_);obtain ⟨J25,J26,J27,J28,J29⟩:=(ho8 _ _ _ (by omega) (HB_Y.o.ext g7)).c5;obtain ⟨U20,U21,U22,U23,U24⟩:=(ho8 _ _ _ (by omega) (HB_Y.o.ext g7)).f5;go_simp;clear U20 U21 U22 U23 U24 J25 J26 J27 J28 J29;obtain ⟨W9,hW9⟩:∃ W,W=(((((W8.setCell ⟨w5.heap.size,0,none⟩ (.int .i64 (k2:Nat))).setCell ⟨w5.heap.size,1,none⟩ (.bool ng2)).setCell ⟨w5.heap.size,2,none⟩ (.int .i64 s2)).setCell ⟨w5.heap.size,3,none⟩ (.slice a2 m2 c2)).setCell ⟨w5.heap.size,4,none⟩ (.slice a2' m2' c2')):=⟨_,rfl⟩;rw [←hW9];obtain ⟨g9,q9,B9,hy9,ho9⟩:=rstoG 0 [.int .i64 (k2:Nat),.bool ng2,.int .i64 s2,.slice a2 m2 c2,.slice a2' m2' c2'] (cs':=#[.int .i64 (k2:Nat),.bool ng2,.int .i64 s2,.slice a2 m2 c2,.slice a2' m2' c2']) hW9 g8 (by omega) (ho8 _ _ _ (by omega) (HB_Y.o.ext g7)) (by decide) rfl;clear hW9;replace HB_Y:=hid B9
     try dsimp only
     refine hKK.out _ _ (g9) (fun hHeld => ?_);refine wpAnyH_done (by kernel_rfl) ?_ _;go_wp2_with fail;go_meet
     exact ⟨_,_,rfl,rfl,hid g9,hid ⟨_,_,_,_,_,_,_,(ho9 _ _ _ (by omega) HB_X.o),(((o1.ext (g5.trans (g6.trans g7))).keepR q8).keepR q9).num⟩,hid ⟨_,_,_,_,_,_,_,HB_Y.o,(((o2.ext (g6.trans g7)).keepR q8).keepR q9).num⟩⟩
   ·go_simp;have hs6:=(g2.trans (g3.trans g4)).size;obtain ⟨W5,hW5,g5,hy5,B_X⟩:=pro1 w4 #[.int .i64 0,.bool false,.int .i64 0,.slice none 0 0,.slice none 0 0] 122;rw [←hW5];clear hW5;have hleX:=hb5.size;have hb7:=hb5.trans g5;have HB_X:=hid B_X;clear B_X;have hzX:=hb7.size
    try dsimp only
    refine hKK.out _ _ (hb7) (fun hHeld => ?_)
    try simp only [Act.put,pA,pB,pC]
    refine wpAnyH_ready (rs:=[5,7]) (by kernel_rfl) (by simp) ?_;refine consb 5 { dst:=some 28,op:=Op.call { callee:=Callee.value (Operand.func 79),args:=#[Operand.tmp 26,Operand.tmp 27],argTypes:=#[23,29] },type:=122,pos := "",after:=#[],guard:=none } rfl rfl (fun KK hKK => ?_) (consb 7 { dst:=some 11,op:=Op.alloc 122,type:=0,pos := "",after:=#[],guard:=none } rfl rfl (fun KK hKK => ?_) (AllReadyH.nil))
    ·go_simp;refine (CL2.o _).mono ?_;rintro e w6 ⟨v6,rfl,o2,g6⟩;have hb8:=hb7.trans g6;obtain ⟨s2,a2,m2,c2,a2',m2',c2',rfl⟩:=o2.shape
     try dsimp only
     refine hKK.out _ _ (hb8) (fun hHeld => ?_)
     try simp only [Act.put,pA,pB,pC]
     refine won 7 { dst:=some 11,op:=Op.alloc 122,type:=0,pos := "",after:=#[],guard:=none } (by kernel_rfl) rfl rfl (fun KK hKK => ?_);go_simp;have hs9:=g6.size;obtain ⟨W7,hW7,g7,hy7,B_Y⟩:=pro1 w6 #[.int .i64 0,.bool false,.int .i64 0,.slice none 0 0,.slice none 0 0] 122;rw [←hW7];clear hW7;have hleY:=hb8.size;have hb10:=hb8.trans g7;have HB_Y:=hid B_Y;clear B_Y;have hzY:=hb10.size
     try dsimp only
     refine hKK.out _ _ (hb10) (fun hHeld => ?_)
     try simp only [Act.put,pA,pB,pC]
     refine wons 8 122 10 25 (by kernel_rfl) rfl rfl (fun KK hKK => ?_);obtain ⟨J16,J17,J18,J19,J20⟩:=(HB_X.o.ext (g6.trans g7)).c5;obtain ⟨U11,U12,U13,U14,U15⟩:=(HB_X.o.ext (g6.trans g7)).f5;go_simp;clear U11 U12 U13 U14 U15 J16 J17 J18 J19 J20;obtain ⟨W8,hW8⟩:∃ W,W=(((((W7.setCell ⟨w4.heap.size,0,none⟩ (.int .i64 (k1:Nat))).setCell ⟨w4.heap.size,1,none⟩ (.bool ng1)).setCell ⟨w4.heap.size,2,none⟩ (.int .i64 s1)).setCell ⟨w4.heap.size,3,none⟩ (.slice a1 m1 c1)).setCell ⟨w4.heap.size,4,none⟩ (.slice a1' m1' c1')):=⟨_,rfl⟩;rw [←hW8];obtain ⟨g8,q8,B8,hy8,ho8⟩:=rstoG 0 [.int .i64 (k1:Nat),.bool ng1,.int .i64 s1,.slice a1 m1 c1,.slice a1' m1' c1'] (cs':=#[.int .i64 (k1:Nat),.bool ng1,.int .i64 s1,.slice a1 m1 c1,.slice a1' m1' c1']) hW8 hb10 (by omega) (HB_X.o.ext (g6.trans g7)) (by decide) rfl;clear hW8;replace HB_X:=hid B8
     try dsimp only
     refine hKK.out _ _ (g8) (fun hHeld => ?_)
     try simp only [Act.put,pA,pB,pC]
     refine wons 9 122 11 28 (by kernel_rfl) rfl rfl (fun KK hKK => ?_);obtain ⟨J26,J27,J28,J29,J30⟩:=(ho8 _ _ _ (by omega) HB_Y.o).c5;obtain ⟨U21,U22,U23,U24,U25⟩:=(ho8 _ _ _ (by omega) HB_Y.o).f5;go_simp;clear U21 U22 U23 U24 U25 J26 J27 J28 J29 J30;obtain ⟨W9,hW9⟩:∃ W,W=(((((W8.setCell ⟨w6.heap.size,0,none⟩ (.int .i64 (k2:Nat))).setCell ⟨w6.heap.size,1,none⟩ (.bool ng2)).setCell ⟨w6.heap.size,2,none⟩ (.int .i64 s2)).setCell ⟨w6.heap.size,3,none⟩ (.slice a2 m2 c2)).setCell ⟨w6.heap.size,4,none⟩ (.slice a2' m2' c2')):=⟨_,rfl⟩;rw [←hW9];obtain ⟨g9,q9,B9,hy9,ho9⟩:=rstoG 0 [.int .i64 (k2:Nat),.bool ng2,.int .i64 s2,.slice a2 m2 c2,.slice a2' m2' c2'] (cs':=#[.int .i64 (k2:Nat),.bool ng2,.int .i64 s2,.slice a2 m2 c2,.slice a2' m2' c2']) hW9 g8 (by omega) (ho8 _ _ _ (by omega) HB_Y.o) (by decide) rfl;clear hW9;replace HB_Y:=hid B9
     try dsimp only
     refine hKK.out _ _ (g9) (fun hHeld => ?_);refine wpAnyH_done (by kernel_rfl) ?_ _;go_wp2_with fail;go_meet
     exact ⟨_,_,rfl,rfl,hid g9,hid ⟨_,_,_,_,_,_,_,(ho9 _ _ _ (by omega) HB_X.o),(((o1.ext (g5.trans (g6.trans g7))).keepR q8).keepR q9).num⟩,hid ⟨_,_,_,_,_,_,_,HB_Y.o,(((o2.ext g7).keepR q8).keepR q9).num⟩⟩
    ·go_simp;obtain ⟨W6,hW6,g6,hy6,B_Y⟩:=pro1 W5 #[.int .i64 0,.bool false,.int .i64 0,.slice none 0 0,.slice none 0 0] 122;rw [←hW6];clear hW6;have hleY:=hb7.size;have hb8:=hb7.trans g6;have HB_Y:=hid B_Y;clear B_Y;have hzY:=hb8.size
     try dsimp only
     refine hKK.out _ _ (hb8) (fun hHeld => ?_)
     try simp only [Act.put,pA,pB,pC]
     refine wonc 5 28 79 #[.tmp 26,.tmp 27] #[23,29] 122 (by kernel_rfl) rfl rfl (fun KK hKK => ?_);go_simp;refine (CL2.o _).mono ?_;rintro e w7 ⟨v7,rfl,o2,g7⟩;have hb9:=hb8.trans g7;obtain ⟨s2,a2,m2,c2,a2',m2',c2',rfl⟩:=o2.shape
     try dsimp only
     refine hKK.out _ _ (hb9) (fun hHeld => ?_)
     try simp only [Act.put,pA,pB,pC]
     refine wons 8 122 10 25 (by kernel_rfl) rfl rfl (fun KK hKK => ?_);obtain ⟨J15,J16,J17,J18,J19⟩:=(HB_X.o.ext (g6.trans g7)).c5;obtain ⟨U10,U11,U12,U13,U14⟩:=(HB_X.o.ext (g6.trans g7)).f5;go_simp;clear U10 U11 U12 U13 U14 J15 J16 J17 J18 J19;obtain ⟨W8,hW8⟩:∃ W,W=(((((w7.setCell ⟨w4.heap.size,0,none⟩ (.int .i64 (k1:Nat))).setCell ⟨w4.heap.size,1,none⟩ (.bool ng1)).setCell ⟨w4.heap.size,2,none⟩ (.int .i64 s1)).setCell ⟨w4.heap.size,3,none⟩ (.slice a1 m1 c1)).setCell ⟨w4.heap.size,4,none⟩ (.slice a1' m1' c1')):=⟨_,rfl⟩;rw [←hW8];obtain ⟨g8,q8,B8,hy8,ho8⟩:=rstoG 0 [.int .i64 (k1:Nat),.bool ng1,.int .i64 s1,.slice a1 m1 c1,.slice a1' m1' c1'] (cs':=#[.int .i64 (k1:Nat),.bool ng1,.int .i64 s1,.slice a1 m1 c1,.slice a1' m1' c1']) hW8 hb9 (by omega) (HB_X.o.ext (g6.trans g7)) (by decide) rfl;clear hW8;replace HB_X:=hid B8
     try dsimp only
     refine hKK.out _ _ (g8) (fun hHeld => ?_)
     try simp only [Act.put,pA,pB,pC]
     refine wons 9 122 11 28 (by kernel_rfl) rfl rfl (fun KK hKK => ?_);obtain ⟨J25,J26,J27,J28,J29⟩:=(ho8 _ _ _ (by omega) (HB_Y.o.ext g7)).c5;obtain ⟨U20,U21,U22,U23,U24⟩:=(ho8 _ _ _ (by omega) (HB_Y.o.ext g7)).f5;go_simp;clear U20 U21 U22 U23 U24 J25 J26 J27 J28 J29;obtain ⟨W9,hW9⟩:∃ W,W=(((((W8.setCell ⟨W5.heap.size,0,none⟩ (.int .i64 (k2:Nat))).setCell ⟨W5.heap.size,1,none⟩ (.bool ng2)).setCell ⟨W5.heap.size,2,none⟩ (.int .i64 s2)).setCell ⟨W5.heap.size,3,none⟩ (.slice a2 m2 c2)).setCell ⟨W5.heap.size,4,none⟩ (.slice a2' m2' c2')):=⟨_,rfl⟩;rw [←hW9];obtain ⟨g9,q9,B9,hy9,ho9⟩:=rstoG 0 [.int .i64 (k2:Nat),.bool ng2,.int .i64 s2,.slice a2 m2 c2,.slice a2' m2' c2'] (cs':=#[.int .i64 (k2:Nat),.bool ng2,.int .i64 s2,.slice a2 m2 c2,.slice a2' m2' c2']) hW9 g8 (by omega) (ho8 _ _ _ (by omega) (HB_Y.o.ext g7)) (by decide) rfl;clear hW9;replace HB_Y:=hid B9
     try dsimp only
     refine hKK.out _ _ (g9) (fun hHeld => ?_);refine wpAnyH_done (by kernel_rfl) ?_ _;go_wp2_with fail;go_meet
     exact ⟨_,_,rfl,rfl,hid g9,hid ⟨_,_,_,_,_,_,_,(ho9 _ _ _ (by omega) HB_X.o),(((o1.ext (g5.trans (g6.trans g7))).keepR q8).keepR q9).num⟩,hid ⟨_,_,_,_,_,_,_,HB_Y.o,((o2.keepR q8).keepR q9).num⟩⟩
   ·go_simp;have hs6:=(g2.trans (g3.trans g4)).size;obtain ⟨W5,hW5,g5,hy5,B_Y⟩:=pro1 w4 #[.int .i64 0,.bool false,.int .i64 0,.slice none 0 0,.slice none 0 0] 122;rw [←hW5];clear hW5;have hleY:=hb5.size;have hb7:=hb5.trans g5;have HB_Y:=hid B_Y;clear B_Y;have hzY:=hb7.size
    try dsimp only
    refine hKK.out _ _ (hb7) (fun hHeld => ?_)
    try simp only [Act.put,pA,pB,pC]
    refine wpAnyH_ready (rs:=[5,6]) (by kernel_rfl) (by simp) ?_;refine consb 5 { dst:=some 28,op:=Op.call { callee:=Callee.value (Operand.func 79),args:=#[Operand.tmp 26,Operand.tmp 27],argTypes:=#[23,29] },type:=122,pos := "",after:=#[],guard:=none } rfl rfl (fun KK hKK => ?_) (consb 6 { dst:=some 10,op:=Op.alloc 122,type:=0,pos := "",after:=#[],guard:=none } rfl rfl (fun KK hKK => ?_) (AllReadyH.nil))
    ·go_simp;refine (CL2.o _).mono ?_;rintro e w6 ⟨v6,rfl,o2,g6⟩;have hb8:=hb7.trans g6;obtain ⟨s2,a2,m2,c2,a2',m2',c2',rfl⟩:=o2.shape
     try dsimp only
     refine hKK.out _ _ (hb8) (fun hHeld => ?_)
     try simp only [Act.put,pA,pB,pC]
     refine won 6 { dst:=some 10,op:=Op.alloc 122,type:=0,pos := "",after:=#[],guard:=none } (by kernel_rfl) rfl rfl (fun KK hKK => ?_);go_simp;have hs9:=g6.size;obtain ⟨W7,hW7,g7,hy7,B_X⟩:=pro1 w6 #[.int .i64 0,.bool false,.int .i64 0,.slice none 0 0,.slice none 0 0] 122;rw [←hW7];clear hW7;have hleX:=hb8.size;have hb10:=hb8.trans g7;have HB_X:=hid B_X;clear B_X;have hzX:=hb10.size
     try dsimp only
     refine hKK.out _ _ (hb10) (fun hHeld => ?_)
     try simp only [Act.put,pA,pB,pC]
     refine wons 8 122 10 25 (by kernel_rfl) rfl rfl (fun KK hKK => ?_);obtain ⟨J16,J17,J18,J19,J20⟩:=HB_X.o.c5;obtain ⟨U11,U12,U13,U14,U15⟩:=HB_X.o.f5;go_simp;clear U11 U12 U13 U14 U15 J16 J17 J18 J19 J20;obtain ⟨W8,hW8⟩:∃ W,W=(((((W7.setCell ⟨w6.heap.size,0,none⟩ (.int .i64 (k1:Nat))).setCell ⟨w6.heap.size,1,none⟩ (.bool ng1)).setCell ⟨w6.heap.size,2,none⟩ (.int .i64 s1)).setCell ⟨w6.heap.size,3,none⟩ (.slice a1 m1 c1)).setCell ⟨w6.heap.size,4,none⟩ (.slice a1' m1' c1')):=⟨_,rfl⟩;rw [←hW8];obtain ⟨g8,q8,B8,hy8,ho8⟩:=rstoG 0 [.int .i64 (k1:Nat),.bool ng1,.int .i64 s1,.slice a1 m1 c1,.slice a1' m1' c1'] (cs':=#[.int .i64 (k1:Nat),.bool ng1,.int .i64 s1,.slice a1 m1 c1,.slice a1' m1' c1']) hW8 hb10 (by omega) HB_X.o (by decide) rfl;clear hW8;replace HB_X:=hid B8
     try dsimp only
     refine hKK.out _ _ (g8) (fun hHeld => ?_)
     try simp only [Act.put,pA,pB,pC]
     refine wons 9 122 11 28 (by kernel_rfl) rfl rfl (fun KK hKK => ?_);obtain ⟨J26,J27,J28,J29,J30⟩:=(ho8 _ _ _ (by omega) (HB_Y.o.ext (g6.trans g7))).c5;obtain ⟨U21,U22,U23,U24,U25⟩:=(ho8 _ _ _ (by omega) (HB_Y.o.ext (g6.trans g7))).f5;go_simp;clear U21 U22 U23 U24 U25 J26 J27 J28 J29 J30;obtain ⟨W9,hW9⟩:∃ W,W=(((((W8.setCell ⟨w4.heap.size,0,none⟩ (.int .i64 (k2:Nat))).setCell ⟨w4.heap.size,1,none⟩ (.bool ng2)).setCell ⟨w4.heap.size,2,none⟩ (.int .i64 s2)).setCell ⟨w4.heap.size,3,none⟩ (.slice a2 m2 c2)).setCell ⟨w4.heap.size,4,none⟩ (.slice a2' m2' c2')):=⟨_,rfl⟩;rw [←hW9];obtain ⟨g9,q9,B9,hy9,ho9⟩:=rstoG 0 [.int .i64 (k2:Nat),.bool ng2,.int .i64 s2,.slice a2 m2 c2,.slice a2' m2' c2'] (cs':=#[.int .i64 (k2:Nat),.bool ng2,.int .i64 s2,.slice a2 m2 c2,.slice a2' m2' c2']) hW9 g8 (by omega) (ho8 _ _ _ (by omega) (HB_Y.o.ext (g6.trans g7))) (by decide) rfl;clear hW9;replace HB_Y:=hid B9
     try dsimp only
     refine hKK.out _ _ (g9) (fun hHeld => ?_);refine wpAnyH_done (by kernel_rfl) ?_ _;go_wp2_with fail;go_meet
     exact ⟨_,_,rfl,rfl,hid g9,hid ⟨_,_,_,_,_,_,_,(ho9 _ _ _ (by omega) HB_X.o),(((o1.ext (g5.trans (g6.trans g7))).keepR q8).keepR q9).num⟩,hid ⟨_,_,_,_,_,_,_,HB_Y.o,(((o2.ext g7).keepR q8).keepR q9).num⟩⟩
    ·go_simp;obtain ⟨W6,hW6,g6,hy6,B_X⟩:=pro1 W5 #[.int .i64 0,.bool false,.int .i64 0,.slice none 0 0,.slice none 0 0] 122;rw [←hW6];clear hW6;have hleX:=hb7.size;have hb8:=hb7.trans g6;have HB_X:=hid B_X;clear B_X;have hzX:=hb8.size
     try dsimp only
     refine hKK.out _ _ (hb8) (fun hHeld => ?_)
     try simp only [Act.put,pA,pB,pC]
     refine wonc 5 28 79 #[.tmp 26,.tmp 27] #[23,29] 122 (by kernel_rfl) rfl rfl (fun KK hKK => ?_);go_simp;refine (CL2.o _).mono ?_;rintro e w7 ⟨v7,rfl,o2,g7⟩;have hb9:=hb8.trans g7;obtain ⟨s2,a2,m2,c2,a2',m2',c2',rfl⟩:=o2.shape
     try dsimp only
     refine hKK.out _ _ (hb9) (fun hHeld => ?_)
     try simp only [Act.put,pA,pB,pC]
     refine wons 8 122 10 25 (by kernel_rfl) rfl rfl (fun KK hKK => ?_);obtain ⟨J15,J16,J17,J18,J19⟩:=(HB_X.o.ext g7).c5;obtain ⟨U10,U11,U12,U13,U14⟩:=(HB_X.o.ext g7).f5;go_simp;clear U10 U11 U12 U13 U14 J15 J16 J17 J18 J19;obtain ⟨W8,hW8⟩:∃ W,W=(((((w7.setCell ⟨W5.heap.size,0,none⟩ (.int .i64 (k1:Nat))).setCell ⟨W5.heap.size,1,none⟩ (.bool ng1)).setCell ⟨W5.heap.size,2,none⟩ (.int .i64 s1)).setCell ⟨W5.heap.size,3,none⟩ (.slice a1 m1 c1)).setCell ⟨W5.heap.size,4,none⟩ (.slice a1' m1' c1')):=⟨_,rfl⟩;rw [←hW8];obtain ⟨g8,q8,B8,hy8,ho8⟩:=rstoG 0 [.int .i64 (k1:Nat),.bool ng1,.int .i64 s1,.slice a1 m1 c1,.slice a1' m1' c1'] (cs':=#[.int .i64 (k1:Nat),.bool ng1,.int .i64 s1,.slice a1 m1 c1,.slice a1' m1' c1']) hW8 hb9 (by omega) (HB_X.o.ext g7) (by decide) rfl;clear hW8;replace HB_X:=hid B8
     try dsimp only
     refine hKK.out _ _ (g8) (fun hHeld => ?_)
     try simp only [Act.put,pA,pB,pC]
     refine wons 9 122 11 28 (by kernel_rfl) rfl rfl (fun KK hKK => ?_);obtain ⟨J25,J26,J27,J28,J29⟩:=(ho8 _ _ _ (by omega) (HB_Y.o.ext (g6.trans g7))).c5;obtain ⟨U20,U21,U22,U23,U24⟩:=(ho8 _ _ _ (by omega) (HB_Y.o.ext (g6.trans g7))).f5;go_simp;clear U20 U21 U22 U23 U24 J25 J26 J27 J28 J29;obtain ⟨W9,hW9⟩:∃ W,W=(((((W8.setCell ⟨w4.heap.size,0,none⟩ (.int .i64 (k2:Nat))).setCell ⟨w4.heap.size,1,none⟩ (.bool ng2)).setCell ⟨w4.heap.size,2,none⟩ (.int .i64 s2)).setCell ⟨w4.heap.size,3,none⟩ (.slice a2 m2 c2)).setCell ⟨w4.heap.size,4,none⟩ (.slice a2' m2' c2')):=⟨_,rfl⟩;rw [←hW9];obtain ⟨g9,q9,B9,hy9,ho9⟩:=rstoG 0 [.int .i64 (k2:Nat),.bool ng2,.int .i64 s2,.slice a2 m2 c2,.slice a2' m2' c2'] (cs':=#[.int .i64 (k2:Nat),.bool ng2,.int .i64 s2,.slice a2 m2 c2,.slice a2' m2' c2']) hW9 g8 (by omega) (ho8 _ _ _ (by omega) (HB_Y.o.ext (g6.trans g7))) (by decide) rfl;clear hW9;replace HB_Y:=hid B9
     try dsimp only
     refine hKK.out _ _ (g9) (fun hHeld => ?_);refine wpAnyH_done (by kernel_rfl) ?_ _;go_wp2_with fail;go_meet
     exact ⟨_,_,rfl,rfl,hid g9,hid ⟨_,_,_,_,_,_,_,(ho9 _ _ _ (by omega) HB_X.o),(((o1.ext (g5.trans (g6.trans g7))).keepR q8).keepR q9).num⟩,hid ⟨_,_,_,_,_,_,_,HB_Y.o,((o2.keepR q8).keepR q9).num⟩⟩
  ·go_simp;have hs5:=(g2.trans g3).size;obtain ⟨W4,hW4,g4,hy4,B_X⟩:=pro1 wD3 #[.int .i64 0,.bool false,.int .i64 0,.slice none 0 0,.slice none 0 0] 122;rw [←hW4];clear hW4;have hleX:=g3.size;have hb6:=g3.trans g4;have HB_X:=hid B_X;clear B_X;have hzX:=hb6.size
   try dsimp only
   refine hKK.out _ _ (hb6) (fun hHeld => ?_)
   try simp only [Act.put,pA,pB,pC]
   refine wpAnyH_ready (rs:=[2,7]) (by kernel_rfl) (by simp) ?_;refine consb 2 { dst:=some 25,op:=Op.call { callee:=Callee.value (Operand.func 79),args:=#[Operand.tmp 23,Operand.tmp 24],argTypes:=#[23,29] },type:=122,pos := "",after:=#[],guard:=none } rfl rfl (fun KK hKK => ?_) (consb 7 { dst:=some 11,op:=Op.alloc 122,type:=0,pos := "",after:=#[],guard:=none } rfl rfl (fun KK hKK => ?_) (AllReadyH.nil))
   ·go_simp;refine (CL1.o _).mono ?_;rintro e w5 ⟨v5,rfl,o1,g5⟩;have hb7:=hb6.trans g5;obtain ⟨s1,a1,m1,c1,a1',m1',c1',rfl⟩:=o1.shape
    try dsimp only
    refine hKK.out _ _ (hb7) (fun hHeld => ?_)
    try simp only [Act.put,pA,pB,pC]
    refine wpAnyH_ready (rs:=[5,7]) (by kernel_rfl) (by simp) ?_;refine consb 5 { dst:=some 28,op:=Op.call { callee:=Callee.value (Operand.func 79),args:=#[Operand.tmp 26,Operand.tmp 27],argTypes:=#[23,29] },type:=122,pos := "",after:=#[],guard:=none } rfl rfl (fun KK hKK => ?_) (consb 7 { dst:=some 11,op:=Op.alloc 122,type:=0,pos := "",after:=#[],guard:=none } rfl rfl (fun KK hKK => ?_) (AllReadyH.nil))
    ·go_simp;refine (CL2.o _).mono ?_;rintro e w6 ⟨v6,rfl,o2,g6⟩;have hb8:=hb7.trans g6;obtain ⟨s2,a2,m2,c2,a2',m2',c2',rfl⟩:=o2.shape
     try dsimp only
     refine hKK.out _ _ (hb8) (fun hHeld => ?_)
     try simp only [Act.put,pA,pB,pC]
     refine won 7 { dst:=some 11,op:=Op.alloc 122,type:=0,pos := "",after:=#[],guard:=none } (by kernel_rfl) rfl rfl (fun KK hKK => ?_);go_simp;have hs9:=(g5.trans g6).size;obtain ⟨W7,hW7,g7,hy7,B_Y⟩:=pro1 w6 #[.int .i64 0,.bool false,.int .i64 0,.slice none 0 0,.slice none 0 0] 122;rw [←hW7];clear hW7;have hleY:=hb8.size;have hb10:=hb8.trans g7;have HB_Y:=hid B_Y;clear B_Y;have hzY:=hb10.size
     try dsimp only
     refine hKK.out _ _ (hb10) (fun hHeld => ?_)
     try simp only [Act.put,pA,pB,pC]
     refine wons 8 122 10 25 (by kernel_rfl) rfl rfl (fun KK hKK => ?_);obtain ⟨J16,J17,J18,J19,J20⟩:=(HB_X.o.ext (g5.trans (g6.trans g7))).c5;obtain ⟨U11,U12,U13,U14,U15⟩:=(HB_X.o.ext (g5.trans (g6.trans g7))).f5;go_simp;clear U11 U12 U13 U14 U15 J16 J17 J18 J19 J20;obtain ⟨W8,hW8⟩:∃ W,W=(((((W7.setCell ⟨wD3.heap.size,0,none⟩ (.int .i64 (k1:Nat))).setCell ⟨wD3.heap.size,1,none⟩ (.bool ng1)).setCell ⟨wD3.heap.size,2,none⟩ (.int .i64 s1)).setCell ⟨wD3.heap.size,3,none⟩ (.slice a1 m1 c1)).setCell ⟨wD3.heap.size,4,none⟩ (.slice a1' m1' c1')):=⟨_,rfl⟩;rw [←hW8];obtain ⟨g8,q8,B8,hy8,ho8⟩:=rstoG 0 [.int .i64 (k1:Nat),.bool ng1,.int .i64 s1,.slice a1 m1 c1,.slice a1' m1' c1'] (cs':=#[.int .i64 (k1:Nat),.bool ng1,.int .i64 s1,.slice a1 m1 c1,.slice a1' m1' c1']) hW8 hb10 (by omega) (HB_X.o.ext (g5.trans (g6.trans g7))) (by decide) rfl;clear hW8;replace HB_X:=hid B8
     try dsimp only
     refine hKK.out _ _ (g8) (fun hHeld => ?_)
     try simp only [Act.put,pA,pB,pC]
     refine wons 9 122 11 28 (by kernel_rfl) rfl rfl (fun KK hKK => ?_);obtain ⟨J26,J27,J28,J29,J30⟩:=(ho8 _ _ _ (by omega) HB_Y.o).c5;obtain ⟨U21,U22,U23,U24,U25⟩:=(ho8 _ _ _ (by omega) HB_Y.o).f5;go_simp;clear U21 U22 U23 U24 U25 J26 J27 J28 J29 J30;obtain ⟨W9,hW9⟩:∃ W,W=(((((W8.setCell ⟨w6.heap.size,0,none⟩ (.int .i64 (k2:Nat))).setCell ⟨w6.heap.size,1,none⟩ (.bool ng2)).setCell ⟨w6.heap.size,2,none⟩ (.int .i64 s2)).setCell ⟨w6.heap.size,3,none⟩ (.slice a2 m2 c2)).setCell ⟨w6.heap.size,4,none⟩ (.slice a2' m2' c2')):=⟨_,rfl⟩;rw [←hW9];obtain ⟨g9,q9,B9,hy9,ho9⟩:=rstoG 0 [.int .i64 (k2:Nat),.bool ng2,.int .i64 s2,.slice a2 m2 c2,.slice a2' m2' c2'] (cs':=#[.int .i64 (k2:Nat),.bool ng2,.int .i64 s2,.slice a2 m2 c2,.slice a2' m2' c2']) hW9 g8 (by omega) (ho8 _ _ _ (by omega) HB_Y.o) (by decide) rfl;clear hW9;replace HB_Y:=hid B9
     try dsimp only
     refine hKK.out _ _ (g9) (fun hHeld => ?_);refine wpAnyH_done (by kernel_rfl) ?_ _;go_wp2_with fail;go_meet
     exact ⟨_,_,rfl,rfl,hid g9,hid ⟨_,_,_,_,_,_,_,(ho9 _ _ _ (by omega) HB_X.o),(((o1.ext (g6.trans g7)).keepR q8).keepR q9).num⟩,hid ⟨_,_,_,_,_,_,_,HB_Y.o,(((o2.ext g7).keepR q8).keepR q9).num⟩⟩
    ·go_simp;have hs8:=g5.size;obtain ⟨W6,hW6,g6,hy6,B_Y⟩:=pro1 w5 #[.int .i64 0,.bool false,.int .i64 0,.slice none 0 0,.slice none 0 0] 122;rw [←hW6];clear hW6;have hleY:=hb7.size;have hb9:=hb7.trans g6;have HB_Y:=hid B_Y;clear B_Y;have hzY:=hb9.size
     try dsimp only
     refine hKK.out _ _ (hb9) (fun hHeld => ?_)
     try simp only [Act.put,pA,pB,pC]
     refine wonc 5 28 79 #[.tmp 26,.tmp 27] #[23,29] 122 (by kernel_rfl) rfl rfl (fun KK hKK => ?_);go_simp;refine (CL2.o _).mono ?_;rintro e w7 ⟨v7,rfl,o2,g7⟩;have hb10:=hb9.trans g7;obtain ⟨s2,a2,m2,c2,a2',m2',c2',rfl⟩:=o2.shape
     try dsimp only
     refine hKK.out _ _ (hb10) (fun hHeld => ?_)
     try simp only [Act.put,pA,pB,pC]
     refine wons 8 122 10 25 (by kernel_rfl) rfl rfl (fun KK hKK => ?_);obtain ⟨J16,J17,J18,J19,J20⟩:=(HB_X.o.ext (g5.trans (g6.trans g7))).c5;obtain ⟨U11,U12,U13,U14,U15⟩:=(HB_X.o.ext (g5.trans (g6.trans g7))).f5;go_simp;clear U11 U12 U13 U14 U15 J16 J17 J18 J19 J20;obtain ⟨W8,hW8⟩:∃ W,W=(((((w7.setCell ⟨wD3.heap.size,0,none⟩ (.int .i64 (k1:Nat))).setCell ⟨wD3.heap.size,1,none⟩ (.bool ng1)).setCell ⟨wD3.heap.size,2,none⟩ (.int .i64 s1)).setCell ⟨wD3.heap.size,3,none⟩ (.slice a1 m1 c1)).setCell ⟨wD3.heap.size,4,none⟩ (.slice a1' m1' c1')):=⟨_,rfl⟩;rw [←hW8];obtain ⟨g8,q8,B8,hy8,ho8⟩:=rstoG 0 [.int .i64 (k1:Nat),.bool ng1,.int .i64 s1,.slice a1 m1 c1,.slice a1' m1' c1'] (cs':=#[.int .i64 (k1:Nat),.bool ng1,.int .i64 s1,.slice a1 m1 c1,.slice a1' m1' c1']) hW8 hb10 (by omega) (HB_X.o.ext (g5.trans (g6.trans g7))) (by decide) rfl;clear hW8;replace HB_X:=hid B8
     try dsimp only
     refine hKK.out _ _ (g8) (fun hHeld => ?_)
     try simp only [Act.put,pA,pB,pC]
     refine wons 9 122 11 28 (by kernel_rfl) rfl rfl (fun KK hKK => ?_);obtain ⟨J26,J27,J28,J29,J30⟩:=(ho8 _ _ _ (by omega) (HB_Y.o.ext g7)).c5;obtain ⟨U21,U22,U23,U24,U25⟩:=(ho8 _ _ _ (by omega) (HB_Y.o.ext g7)).f5;go_simp;clear U21 U22 U23 U24 U25 J26 J27 J28 J29 J30;obtain ⟨W9,hW9⟩:∃ W,W=(((((W8.setCell ⟨w5.heap.size,0,none⟩ (.int .i64 (k2:Nat))).setCell ⟨w5.heap.size,1,none⟩ (.bool ng2)).setCell ⟨w5.heap.size,2,none⟩ (.int .i64 s2)).setCell ⟨w5.heap.size,3,none⟩ (.slice a2 m2 c2)).setCell ⟨w5.heap.size,4,none⟩ (.slice a2' m2' c2')):=⟨_,rfl⟩;rw [←hW9];obtain ⟨g9,q9,B9,hy9,ho9⟩:=rstoG 0 [.int .i64 (k2:Nat),.bool ng2,.int .i64 s2,.slice a2 m2 c2,.slice a2' m2' c2'] (cs':=#[.int .i64 (k2:Nat),.bool ng2,.int .i64 s2,.slice a2 m2 c2,.slice a2' m2' c2']) hW9 g8 (by omega) (ho8 _ _ _ (by omega) (HB_Y.o.ext g7)) (by decide) rfl;clear hW9;replace HB_Y:=hid B9
     try dsimp only
     refine hKK.out _ _ (g9) (fun hHeld => ?_);refine wpAnyH_done (by kernel_rfl) ?_ _;go_wp2_with fail;go_meet
     exact ⟨_,_,rfl,rfl,hid g9,hid ⟨_,_,_,_,_,_,_,(ho9 _ _ _ (by omega) HB_X.o),(((o1.ext (g6.trans g7)).keepR q8).keepR q9).num⟩,hid ⟨_,_,_,_,_,_,_,HB_Y.o,((o2.keepR q8).keepR q9).num⟩⟩
   ·go_simp;obtain ⟨W5,hW5,g5,hy5,B_Y⟩:=pro1 W4 #[.int .i64 0,.bool false,.int .i64 0,.slice none 0 0,.slice none 0 0] 122;rw [←hW5];clear hW5;have hleY:=hb6.size;have hb7:=hb6.trans g5;have HB_Y:=hid B_Y;clear B_Y;have hzY:=hb7.size
    try dsimp only
    refine hKK.out _ _ (hb7) (fun hHeld => ?_)
    try simp only [Act.put,pA,pB,pC]
    refine wonc 2 25 79 #[.tmp 23,.tmp 24] #[23,29] 122 (by kernel_rfl) rfl rfl (fun KK hKK => ?_);go_simp;refine (CL1.o _).mono ?_;rintro e w6 ⟨v6,rfl,o1,g6⟩;have hb8:=hb7.trans g6;obtain ⟨s1,a1,m1,c1,a1',m1',c1',rfl⟩:=o1.shape
    try dsimp only
    refine hKK.out _ _ (hb8) (fun hHeld => ?_)
    try simp only [Act.put,pA,pB,pC]
    refine wonc 5 28 79 #[.tmp 26,.tmp 27] #[23,29] 122 (by kernel_rfl) rfl rfl (fun KK hKK => ?_);go_simp;refine (CL2.o _).mono ?_;rintro e w7 ⟨v7,rfl,o2,g7⟩;have hb9:=hb8.trans g7;obtain ⟨s2,a2,m2,c2,a2',m2',c2',rfl⟩:=o2.shape
    try dsimp only
    refine hKK.out _ _ (hb9) (fun hHeld => ?_)
    try simp only [Act.put,pA,pB,pC]
    refine wons 8 122 10 25 (by kernel_rfl) rfl rfl (fun KK hKK => ?_);obtain ⟨J15,J16,J17,J18,J19⟩:=(HB_X.o.ext (g5.trans (g6.trans g7))).c5;obtain ⟨U10,U11,U12,U13,U14⟩:=(HB_X.o.ext (g5.trans (g6.trans g7))).f5;go_simp;clear U10 U11 U12 U13 U14 J15 J16 J17 J18 J19;obtain ⟨W8,hW8⟩:∃ W,W=(((((w7.setCell ⟨wD3.heap.size,0,none⟩ (.int .i64 (k1:Nat))).setCell ⟨wD3.heap.size,1,none⟩ (.bool ng1)).setCell ⟨wD3.heap.size,2,none⟩ (.int .i64 s1)).setCell ⟨wD3.heap.size,3,none⟩ (.slice a1 m1 c1)).setCell ⟨wD3.heap.size,4,none⟩ (.slice a1' m1' c1')):=⟨_,rfl⟩;rw [←hW8];obtain ⟨g8,q8,B8,hy8,ho8⟩:=rstoG 0 [.int .i64 (k1:Nat),.bool ng1,.int .i64 s1,.slice a1 m1 c1,.slice a1' m1' c1'] (cs':=#[.int .i64 (k1:Nat),.bool ng1,.int .i64 s1,.slice a1 m1 c1,.slice a1' m1' c1']) hW8 hb9 (by omega) (HB_X.o.ext (g5.trans (g6.trans g7))) (by decide) rfl;clear hW8;replace HB_X:=hid B8
    try dsimp only
    refine hKK.out _ _ (g8) (fun hHeld => ?_)
    try simp only [Act.put,pA,pB,pC]
    refine wons 9 122 11 28 (by kernel_rfl) rfl rfl (fun KK hKK => ?_);obtain ⟨J25,J26,J27,J28,J29⟩:=(ho8 _ _ _ (by omega) (HB_Y.o.ext (g6.trans g7))).c5;obtain ⟨U20,U21,U22,U23,U24⟩:=(ho8 _ _ _ (by omega) (HB_Y.o.ext (g6.trans g7))).f5;go_simp;clear U20 U21 U22 U23 U24 J25 J26 J27 J28 J29;obtain ⟨W9,hW9⟩:∃ W,W=(((((W8.setCell ⟨W4.heap.size,0,none⟩ (.int .i64 (k2:Nat))).setCell ⟨W4.heap.size,1,none⟩ (.bool ng2)).setCell ⟨W4.heap.size,2,none⟩ (.int .i64 s2)).setCell ⟨W4.heap.size,3,none⟩ (.slice a2 m2 c2)).setCell ⟨W4.heap.size,4,none⟩ (.slice a2' m2' c2')):=⟨_,rfl⟩;rw [←hW9];obtain ⟨g9,q9,B9,hy9,ho9⟩:=rstoG 0 [.int .i64 (k2:Nat),.bool ng2,.int .i64 s2,.slice a2 m2 c2,.slice a2' m2' c2'] (cs':=#[.int .i64 (k2:Nat),.bool ng2,.int .i64 s2,.slice a2 m2 c2,.slice a2' m2' c2']) hW9 g8 (by omega) (ho8 _ _ _ (by omega) (HB_Y.o.ext (g6.trans g7))) (by decide) rfl;clear hW9;replace HB_Y:=hid B9
    try dsimp only
    refine hKK.out _ _ (g9) (fun hHeld => ?_);refine wpAnyH_done (by kernel_rfl) ?_ _;go_wp2_with fail;go_meet
    exact ⟨_,_,rfl,rfl,hid g9,hid ⟨_,_,_,_,_,_,_,(ho9 _ _ _ (by omega) HB_X.o),(((o1.ext g7).keepR q8).keepR q9).num⟩,hid ⟨_,_,_,_,_,_,_,HB_Y.o,((o2.keepR q8).keepR q9).num⟩⟩
  ·go_simp;have hs5:=(g2.trans g3).size;obtain ⟨W4,hW4,g4,hy4,B_Y⟩:=pro1 wD3 #[.int .i64 0,.bool false,.int .i64 0,.slice none 0 0,.slice none 0 0] 122;rw [←hW4];clear hW4;have hleY:=g3.size;have hb6:=g3.trans g4;have HB_Y:=hid B_Y;clear B_Y;have hzY:=hb6.size
   try dsimp only
   refine hKK.out _ _ (hb6) (fun hHeld => ?_)
   try simp only [Act.put,pA,pB,pC]
   refine wpAnyH_ready (rs:=[2,6]) (by kernel_rfl) (by simp) ?_;refine consb 2 { dst:=some 25,op:=Op.call { callee:=Callee.value (Operand.func 79),args:=#[Operand.tmp 23,Operand.tmp 24],argTypes:=#[23,29] },type:=122,pos := "",after:=#[],guard:=none } rfl rfl (fun KK hKK => ?_) (consb 6 { dst:=some 10,op:=Op.alloc 122,type:=0,pos := "",after:=#[],guard:=none } rfl rfl (fun KK hKK => ?_) (AllReadyH.nil))
   ·go_simp;refine (CL1.o _).mono ?_;rintro e w5 ⟨v5,rfl,o1,g5⟩;have hb7:=hb6.trans g5;obtain ⟨s1,a1,m1,c1,a1',m1',c1',rfl⟩:=o1.shape
    try dsimp only
    refine hKK.out _ _ (hb7) (fun hHeld => ?_)
    try simp only [Act.put,pA,pB,pC]
    refine wpAnyH_ready (rs:=[5,6]) (by kernel_rfl) (by simp) ?_;refine consb 5 { dst:=some 28,op:=Op.call { callee:=Callee.value (Operand.func 79),args:=#[Operand.tmp 26,Operand.tmp 27],argTypes:=#[23,29] },type:=122,pos := "",after:=#[],guard:=none } rfl rfl (fun KK hKK => ?_) (consb 6 { dst:=some 10,op:=Op.alloc 122,type:=0,pos := "",after:=#[],guard:=none } rfl rfl (fun KK hKK => ?_) (AllReadyH.nil))
    ·go_simp;refine (CL2.o _).mono ?_;rintro e w6 ⟨v6,rfl,o2,g6⟩;have hb8:=hb7.trans g6;obtain ⟨s2,a2,m2,c2,a2',m2',c2',rfl⟩:=o2.shape
     try dsimp only
     refine hKK.out _ _ (hb8) (fun hHeld => ?_)
     try simp only [Act.put,pA,pB,pC]
     refine won 6 { dst:=some 10,op:=Op.alloc 122,type:=0,pos := "",after:=#[],guard:=none } (by kernel_rfl) rfl rfl (fun KK hKK => ?_);go_simp;have hs9:=(g5.trans g6).size;obtain ⟨W7,hW7,g7,hy7,B_X⟩:=pro1 w6 #[.int .i64 0,.bool false,.int .i64 0,.slice none 0 0,.slice none 0 0] 122;rw [←hW7];clear hW7;have hleX:=hb8.size;have hb10:=hb8.trans g7;have HB_X:=hid B_X;clear B_X;have hzX:=hb10.size
     try dsimp only
     refine hKK.out _ _ (hb10) (fun hHeld => ?_)
     try simp only [Act.put,pA,pB,pC]
     refine wons 8 122 10 25 (by kernel_rfl) rfl rfl (fun KK hKK => ?_);obtain ⟨J16,J17,J18,J19,J20⟩:=HB_X.o.c5;obtain ⟨U11,U12,U13,U14,U15⟩:=HB_X.o.f5;go_simp;clear U11 U12 U13 U14 U15 J16 J17 J18 J19 J20;obtain ⟨W8,hW8⟩:∃ W,W=(((((W7.setCell ⟨w6.heap.size,0,none⟩ (.int .i64 (k1:Nat))).setCell ⟨w6.heap.size,1,none⟩ (.bool ng1)).setCell ⟨w6.heap.size,2,none⟩ (.int .i64 s1)).setCell ⟨w6.heap.size,3,none⟩ (.slice a1 m1 c1)).setCell ⟨w6.heap.size,4,none⟩ (.slice a1' m1' c1')):=⟨_,rfl⟩;rw [←hW8];obtain ⟨g8,q8,B8,hy8,ho8⟩:=rstoG 0 [.int .i64 (k1:Nat),.bool ng1,.int .i64 s1,.slice a1 m1 c1,.slice a1' m1' c1'] (cs':=#[.int .i64 (k1:Nat),.bool ng1,.int .i64 s1,.slice a1 m1 c1,.slice a1' m1' c1']) hW8 hb10 (by omega) HB_X.o (by decide) rfl;clear hW8;replace HB_X:=hid B8
     try dsimp only
     refine hKK.out _ _ (g8) (fun hHeld => ?_)
     try simp only [Act.put,pA,pB,pC]
     refine wons 9 122 11 28 (by kernel_rfl) rfl rfl (fun KK hKK => ?_);obtain ⟨J26,J27,J28,J29,J30⟩:=(ho8 _ _ _ (by omega) (HB_Y.o.ext (g5.trans (g6.trans g7)))).c5;obtain ⟨U21,U22,U23,U24,U25⟩:=(ho8 _ _ _ (by omega) (HB_Y.o.ext (g5.trans (g6.trans g7)))).f5;go_simp;clear U21 U22 U23 U24 U25 J26 J27 J28 J29 J30;obtain ⟨W9,hW9⟩:∃ W,W=(((((W8.setCell ⟨wD3.heap.size,0,none⟩ (.int .i64 (k2:Nat))).setCell ⟨wD3.heap.size,1,none⟩ (.bool ng2)).setCell ⟨wD3.heap.size,2,none⟩ (.int .i64 s2)).setCell ⟨wD3.heap.size,3,none⟩ (.slice a2 m2 c2)).setCell ⟨wD3.heap.size,4,none⟩ (.slice a2' m2' c2')):=⟨_,rfl⟩;rw [←hW9];obtain ⟨g9,q9,B9,hy9,ho9⟩:=rstoG 0 [.int .i64 (k2:Nat),.bool ng2,.int .i64 s2,.slice a2 m2 c2,.slice a2' m2' c2'] (cs':=#[.int .i64 (k2:Nat),.bool ng2,.int .i64 s2,.slice a2 m2 c2,.slice a2' m2' c2']) hW9 g8 (by omega) (ho8 _ _ _ (by omega) (HB_Y.o.ext (g5.trans (g6.trans g7)))) (by decide) rfl;clear hW9;replace HB_Y:=hid B9
     try dsimp only
     refine hKK.out _ _ (g9) (fun hHeld => ?_);refine wpAnyH_done (by kernel_rfl) ?_ _;go_wp2_with fail;go_meet
     exact ⟨_,_,rfl,rfl,hid g9,hid ⟨_,_,_,_,_,_,_,(ho9 _ _ _ (by omega) HB_X.o),(((o1.ext (g6.trans g7)).keepR q8).keepR q9).num⟩,hid ⟨_,_,_,_,_,_,_,HB_Y.o,(((o2.ext g7).keepR q8).keepR q9).num⟩⟩
    ·go_simp;have hs8:=g5.size;obtain ⟨W6,hW6,g6,hy6,B_X⟩:=pro1 w5 #[.int .i64 0,.bool false,.int .i64 0,.slice none 0 0,.slice none 0 0] 122;rw [←hW6];clear hW6;have hleX:=hb7.size;have hb9:=hb7.trans g6;have HB_X:=hid B_X;clear B_X;have hzX:=hb9.size
     try dsimp only
     refine hKK.out _ _ (hb9) (fun hHeld => ?_)
     try simp only [Act.put,pA,pB,pC]
     refine wonc 5 28 79 #[.tmp 26,.tmp 27] #[23,29] 122 (by kernel_rfl) rfl rfl (fun KK hKK => ?_);go_simp;refine (CL2.o _).mono ?_;rintro e w7 ⟨v7,rfl,o2,g7⟩;have hb10:=hb9.trans g7;obtain ⟨s2,a2,m2,c2,a2',m2',c2',rfl⟩:=o2.shape
     try dsimp only
     refine hKK.out _ _ (hb10) (fun hHeld => ?_)
     try simp only [Act.put,pA,pB,pC]
     refine wons 8 122 10 25 (by kernel_rfl) rfl rfl (fun KK hKK => ?_);obtain ⟨J16,J17,J18,J19,J20⟩:=(HB_X.o.ext g7).c5;obtain ⟨U11,U12,U13,U14,U15⟩:=(HB_X.o.ext g7).f5;go_simp;clear U11 U12 U13 U14 U15 J16 J17 J18 J19 J20;obtain ⟨W8,hW8⟩:∃ W,W=(((((w7.setCell ⟨w5.heap.size,0,none⟩ (.int .i64 (k1:Nat))).setCell ⟨w5.heap.size,1,none⟩ (.bool ng1)).setCell ⟨w5.heap.size,2,none⟩ (.int .i64 s1)).setCell ⟨w5.heap.size,3,none⟩ (.slice a1 m1 c1)).setCell ⟨w5.heap.size,4,none⟩ (.slice a1' m1' c1')):=⟨_,rfl⟩;rw [←hW8];obtain ⟨g8,q8,B8,hy8,ho8⟩:=rstoG 0 [.int .i64 (k1:Nat),.bool ng1,.int .i64 s1,.slice a1 m1 c1,.slice a1' m1' c1'] (cs':=#[.int .i64 (k1:Nat),.bool ng1,.int .i64 s1,.slice a1 m1 c1,.slice a1' m1' c1']) hW8 hb10 (by omega) (HB_X.o.ext g7) (by decide) rfl;clear hW8;replace HB_X:=hid B8
     try dsimp only
     refine hKK.out _ _ (g8) (fun hHeld => ?_)
     try simp only [Act.put,pA,pB,pC]
     refine wons 9 122 11 28 (by kernel_rfl) rfl rfl (fun KK hKK => ?_);obtain ⟨J26,J27,J28,J29,J30⟩:=(ho8 _ _ _ (by omega) (HB_Y.o.ext (g5.trans (g6.trans g7)))).c5;obtain ⟨U21,U22,U23,U24,U25⟩:=(ho8 _ _ _ (by omega) (HB_Y.o.ext (g5.trans (g6.trans g7)))).f5;go_simp;clear U21 U22 U23 U24 U25 J26 J27 J28 J29 J30;obtain ⟨W9,hW9⟩:∃ W,W=(((((W8.setCell ⟨wD3.heap.size,0,none⟩ (.int .i64 (k2:Nat))).setCell ⟨wD3.heap.size,1,none⟩ (.bool ng2)).setCell ⟨wD3.heap.size,2,none⟩ (.int .i64 s2)).setCell ⟨wD3.heap.size,3,none⟩ (.slice a2 m2 c2)).setCell ⟨wD3.heap.size,4,none⟩ (.slice a2' m2' c2')):=⟨_,rfl⟩;rw [←hW9];obtain ⟨g9,q9,B9,hy9,ho9⟩:=rstoG 0 [.int .i64 (k2:Nat),.bool ng2,.int .i64 s2,.slice a2 m2 c2,.slice a2' m2' c2'] (cs':=#[.int .i64 (k2:Nat),.bool ng2,.int .i64 s2,.slice a2 m2 c2,.slice a2' m2' c2']) hW9 g8 (by omega) (ho8 _ _ _ (by omega) (HB_Y.o.ext (g5.trans (g6.trans g7)))) (by decide) rfl;clear hW9;replace HB_Y:=hid B9
     try dsimp only
     refine hKK.out _ _ (g9) (fun hHeld => ?_);refine wpAnyH_done (by kernel_rfl) ?_ _;go_wp2_with fail;go_meet
     exact ⟨_,_,rfl,rfl,hid g9,hid ⟨_,_,_,_,_,_,_,(ho9 _ _ _ (by omega) HB_X.o),(((o1.ext (g6.trans g7)).keepR q8).keepR q9).num⟩,hid ⟨_,_,_,_,_,_,_,HB_Y.o,((o2.keepR q8).keepR q9).num⟩⟩
   ·go_simp;obtain ⟨W5,hW5,g5,hy5,B_X⟩:=pro1 W4 #[.int .i64 0,.bool false,.int .i64 0,.slice none 0 0,.slice none 0 0] 122;rw [←hW5];clear hW5;have hleX:=hb6.size;have hb7:=hb6.trans g5;have HB_X:=hid B_X;clear B_X;have hzX:=hb7.size
    try dsimp only
    refine hKK.out _ _ (hb7) (fun hHeld => ?_)
    try simp only [Act.put,pA,pB,pC]
    refine wonc 2 25 79 #[.tmp 23,.tmp 24] #[23,29] 122 (by kernel_rfl) rfl rfl (fun KK hKK => ?_);go_simp;refine (CL1.o _).mono ?_;rintro e w6 ⟨v6,rfl,o1,g6⟩;have hb8:=hb7.trans g6;obtain ⟨s1,a1,m1,c1,a1',m1',c1',rfl⟩:=o1.shape
    try dsimp only
    refine hKK.out _ _ (hb8) (fun hHeld => ?_)
    try simp only [Act.put,pA,pB,pC]
    refine wonc 5 28 79 #[.tmp 26,.tmp 27] #[23,29] 122 (by kernel_rfl) rfl rfl (fun KK hKK => ?_);go_simp;refine (CL2.o _).mono ?_;rintro e w7 ⟨v7,rfl,o2,g7⟩;have hb9:=hb8.trans g7;obtain ⟨s2,a2,m2,c2,a2',m2',c2',rfl⟩:=o2.shape
    try dsimp only
    refine hKK.out _ _ (hb9) (fun hHeld => ?_)
    try simp only [Act.put,pA,pB,pC]
    refine wons 8 122 10 25 (by kernel_rfl) rfl rfl (fun KK hKK => ?_);obtain ⟨J15,J16,J17,J18,J19⟩:=(HB_X.o.ext (g6.trans g7)).c5;obtain ⟨U10,U11,U12,U13,U14⟩:=(HB_X.o.ext (g6.trans g7)).f5;go_simp;clear U10 U11 U12 U13 U14 J15 J16 J17 J18 J19;obtain ⟨W8,hW8⟩:∃ W,W=(((((w7.setCell ⟨W4.heap.size,0,none⟩ (.int .i64 (k1:Nat))).setCell ⟨W4.heap.size,1,none⟩ (.bool ng1)).setCell ⟨W4.heap.size,2,none⟩ (.int .i64 s1)).setCell ⟨W4.heap.size,3,none⟩ (.slice a1 m1 c1)).setCell ⟨W4.heap.size,4,none⟩ (.slice a1' m1' c1')):=⟨_,rfl⟩;rw [←hW8];obtain ⟨g8,q8,B8,hy8,ho8⟩:=rstoG 0 [.int .i64 (k1:Nat),.bool ng1,.int .i64 s1,.slice a1 m1 c1,.slice a1' m1' c1'] (cs':=#[.int .i64 (k1:Nat),.bool ng1,.int .i64 s1,.slice a1 m1 c1,.slice a1' m1' c1']) hW8 hb9 (by omega) (HB_X.o.ext (g6.trans g7)) (by decide) rfl;clear hW8;replace HB_X:=hid B8
    try dsimp only
    refine hKK.out _ _ (g8) (fun hHeld => ?_)
    try simp only [Act.put,pA,pB,pC]
    refine wons 9 122 11 28 (by kernel_rfl) rfl rfl (fun KK hKK => ?_);obtain ⟨J25,J26,J27,J28,J29⟩:=(ho8 _ _ _ (by omega) (HB_Y.o.ext (g5.trans (g6.trans g7)))).c5;obtain ⟨U20,U21,U22,U23,U24⟩:=(ho8 _ _ _ (by omega) (HB_Y.o.ext (g5.trans (g6.trans g7)))).f5;go_simp;clear U20 U21 U22 U23 U24 J25 J26 J27 J28 J29;obtain ⟨W9,hW9⟩:∃ W,W=(((((W8.setCell ⟨wD3.heap.size,0,none⟩ (.int .i64 (k2:Nat))).setCell ⟨wD3.heap.size,1,none⟩ (.bool ng2)).setCell ⟨wD3.heap.size,2,none⟩ (.int .i64 s2)).setCell ⟨wD3.heap.size,3,none⟩ (.slice a2 m2 c2)).setCell ⟨wD3.heap.size,4,none⟩ (.slice a2' m2' c2')):=⟨_,rfl⟩;rw [←hW9];obtain ⟨g9,q9,B9,hy9,ho9⟩:=rstoG 0 [.int .i64 (k2:Nat),.bool ng2,.int .i64 s2,.slice a2 m2 c2,.slice a2' m2' c2'] (cs':=#[.int .i64 (k2:Nat),.bool ng2,.int .i64 s2,.slice a2 m2 c2,.slice a2' m2' c2']) hW9 g8 (by omega) (ho8 _ _ _ (by omega) (HB_Y.o.ext (g5.trans (g6.trans g7)))) (by decide) rfl;clear hW9;replace HB_Y:=hid B9
    try dsimp only
    refine hKK.out _ _ (g9) (fun hHeld => ?_);refine wpAnyH_done (by kernel_rfl) ?_ _;go_wp2_with fail;go_meet
    exact ⟨_,_,rfl,rfl,hid g9,hid ⟨_,_,_,_,_,_,_,(ho9 _ _ _ (by omega) HB_X.o),(((o1.ext g7).keepR q8).keepR q9).num⟩,hid ⟨_,_,_,_,_,_,_,HB_Y.o,((o2.keepR q8).keepR q9).num⟩⟩
 case rest =>
  obtain ⟨gX,gY,rfl,rfl,gx,BX,BY⟩:=hcut;obtain ⟨wv,rfl⟩:∃ x,x=wc:=⟨_,rfl⟩;obtain ⟨s1,a1,m1,c1,a1',m1',c1',b1,o1n⟩:=BX.o;obtain ⟨s2,a2,m2,c2,a2',m2',c2',b2,o2n⟩:=BY.o;have o1:ROpV wv (.agg #[.int .i64 (k1:Nat),.bool ng1,.int .i64 s1,.slice a1 m1 c1,.slice a1' m1' c1']) (k1:Nat) ng1 q1:=⟨_,_,_,_,_,_,_,rfl,o1n⟩;have o2:ROpV wv (.agg #[.int .i64 (k2:Nat),.bool ng2,.int .i64 s2,.slice a2 m2 c2,.slice a2' m2' c2']) (k2:Nat) ng2 q2:=⟨_,_,_,_,_,_,_,rfl,o2n⟩;clear o1n o2n BX BY;have HB_X:=hid b1;have HB_Y:=hid b2;clear b1 b2;have he32:=(he3.trans gx.o);replace ac:=gx.o.cl ac;have hr33:Ext wv wv:=Below.refl _ _;replace ac:=cland ac HB_X.o.a5;replace ac:=cland ac HB_Y.o.a5;go_wp2_with fail;have hs34:=(g2.trans gx.o).size;obtain ⟨W11,hW11,g11,hy11,B_L⟩:=pro1 wv #[.int .i64 (k1:Nat),.bool ng1,.int .i64 s1,.slice a1 m1 c1,.slice a1' m1' c1',.int .i64 (k2:Nat),.bool ng2,.int .i64 s2,.slice a2 m2 c2,.slice a2' m2' c2'] 122;rw [←hW11];clear hW11;have HB_L:=hid B_L;clear B_L;have he35:=(he32.trans g11);replace ac:=g11.cl ac;have hr36:Ext W11 W11:=Below.refl _ _;have HOS:Hid (ROSl W11 (.slice (some ⟨wv.heap.size,0,none⟩) 2 2) [k1,k2]):=hid ⟨some ⟨wv.heap.size,0,none⟩,wv.heap.size,0,2,rfl,Nat.le_refl _,by decide,fun _=>rfl,fun x hx=>by
    simp at hx;rcases hx with rfl | rfl;exact HK1.o;exact HK2.o,fun k hk=>by
    have hk2:k=0∨k=1:=by simp at hk;omega
    rcases hk2 with rfl | rfl
    ·exact ⟨_,_,_,_,_,_,_,_,HB_L.o.cell 0,HB_L.o.cell 1,HB_L.o.cell 2,HB_L.o.cell 3,HB_L.o.cell 4⟩
    ·exact ⟨_,_,_,_,_,_,_,_,HB_L.o.cell 5,HB_L.o.cell 6,HB_L.o.cell 7,HB_L.o.cell 8,HB_L.o.cell 9⟩⟩
  refine (rnans_c E P _ [k1,k2] _ HF.o HOS.o).mono ?_;rintro e w12 ⟨rfl,g12⟩;clear HOS HB_L;rw [show (if anySig [k1,k2]=true then (1:Int) else 0)=flagOf [k1,k2] from rfl];obtain ⟨r0,r1,er⟩:=Word.shape (nanw E P);have ER:=hid er;clear er;rw [ER.o];obtain ⟨fl,hfl⟩:∃ f,f=flagOf [k1,k2]:=⟨_,rfl⟩;obtain ⟨an,han⟩:∃ b,b=anyNan [k1,k2]:=⟨_,rfl⟩;rw [←hfl,←han];rw [←hfl,←han] at HR;clear hfl han
  cases an
  ·have HR2:Hid (R=(cc,0)):=hid (by rw [HR.o];rfl)
   go_upto_region 8 with (fail)
   have hs37:=g12.size;obtain ⟨W13,hW13,g13,hy13,B_NW⟩:=pro1 w12 #[.int .u64 (r0:Nat),.int .u64 (r1:Nat)] 29;rw [←hW13];clear hW13;have hb38:=g12.trans g13;have HB_NW:=hid B_NW;clear B_NW;have he39:=(he35.trans hb38);replace ac:=hb38.cl ac;have hr40:Ext W13 W13:=Below.refl _ _;replace ac:=cland ac HB_NW.o.a2;have g14:Ext W13 W13.drew:=Below.drew (Below.refl _ _);refine wp_region_held_drew (S:=Ext W13) (by kernel_rfl) (g14) (fun hHeld => ?_);generalize W13.drew=wD14 at *
   apply wts 0 40 rfl rfl (by kernel_rfl) (fun _ _ _ h=>h) hHeld
   ·intro w' hSw;go_simp<;>with_reducible rfl
   apply wts 1 41 rfl rfl (by kernel_rfl) (fun _ _ _ h=>h) hHeld
   ·intro w' hSw;go_simp<;>with_reducible rfl
   apply wts 3 43 rfl rfl (by kernel_rfl) (fun _ _ _ h=>h) hHeld
   ·intro w' hSw;go_simp<;>with_reducible rfl
   apply wts 4 44 rfl rfl (by kernel_rfl) (fun _ _ _ h=>h) hHeld
   ·intro w' hSw;go_simp<;>with_reducible rfl
   try simp only [Act.put,pA,pB,pC]
   refine wonc 2 42 81 #[.tmp 40,.tmp 41] #[23,122] 43 (by kernel_rfl) rfl rfl (fun KK hKK => ?_);go_simp;refine (CP1.o _ _ ((o1.ext (g11.trans (g12.trans g13))).ext g14)).mono ?_;rintro e w15 ⟨v15,rfl,p1,g15⟩;have hb41:=g14.trans g15
   try dsimp only
   refine hKK.out _ _ (hb41) (fun hHeld => ?_)
   try simp only [Act.put,pA,pB,pC]
   refine wonc 5 45 81 #[.tmp 43,.tmp 44] #[23,122] 43 (by kernel_rfl) rfl rfl (fun KK hKK => ?_);go_simp;refine (CP2.o _ _ ((o2.ext (g11.trans (g12.trans g13))).ext hb41)).mono ?_;rintro e w16 ⟨v16,rfl,p2,g16⟩;have hb42:=hb41.trans g16
   try dsimp only
   refine hKK.out _ _ (hb42) (fun hHeld => ?_)
   try simp only [Act.put,pA,pB,pC]
   refine wonc 6 46 59 #[.tmp 42,.tmp 45] #[43,43] 3 (by kernel_rfl) rfl rfl (fun KK hKK => ?_);go_simp;refine (CC.o _ _ _ (p1.ext g16) p2).mono ?_;rintro e w17 ⟨rfl,g17⟩;have hb43:=hb42.trans g17
   try dsimp only
   refine hKK.out _ _ (hb43) (fun hHeld => ?_);apply wts 7 6 rfl rfl (by kernel_rfl) (fun _ _ _ h=>h) hHeld
   ·intro w' hSw;go_simp<;>with_reducible rfl
   apply wts 8 7 rfl rfl (by kernel_rfl) (fun _ _ _ h=>h) hHeld
   ·intro w' hSw;go_simp<;>with_reducible rfl
   apply wts 9 8 rfl rfl (by kernel_rfl) (fun _ _ _ h=>h) hHeld
   ·intro w' hSw;go_simp<;>with_reducible rfl
   refine wpAnyH_done (by kernel_rfl) ?_ _;go_wp2_with fail;rw [HR2.o];go_ret3
   exact ⟨rfl,(he39.trans hb43)⟩
  ·have HR2:Hid (R=(2,fl)):=hid (by rw [HR.o];rfl);go_wp2_with fail;have hs37:=g12.size;obtain ⟨W13,hW13,g13,hy13,B_NW⟩:=pro1 w12 #[.int .u64 (r0:Nat),.int .u64 (r1:Nat)] 29;rw [←hW13];clear hW13;have hb38:=g12.trans g13;have HB_NW:=hid B_NW;clear B_NW;have he39:=(he35.trans hb38);replace ac:=hb38.cl ac;have hr40:Ext W13 W13:=Below.refl _ _;replace ac:=cland ac HB_NW.o.a2;rw [HR2.o];go_ret3
   exact ⟨rfl,he39⟩
end Go.Proofs.YtopmjkkjlagfcaaGreatDoor
