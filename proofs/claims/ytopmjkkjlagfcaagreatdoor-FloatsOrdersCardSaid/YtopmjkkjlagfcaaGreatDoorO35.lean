/- The reference's numbers: Neg, Abs, Sign, IsInt; Mul. -/
import Derived.Test.YtopmjkkjlagfcaaGreatDoorO34
import Derived.Test.YtopmjkkjlagfcaaGreatDoorO27
namespace Go.Proofs.YtopmjkkjlagfcaaGreatDoor
open Go.RowKit Vn
set_option maxRecDepth 100000
set_option maxHeartbeats 8000000
theorem sgn3 (q:Rat):q.num.sign=1∨q.num.sign = -1∨q.num.sign=0:=by
 rcases Int.lt_trichotomy q.num 0 with h | h | h
 ·exact .inr (.inl (Int.sign_eq_neg_one_of_neg h))
 ·exact .inr (.inr (by rw [h];rfl))
 ·exact .inl (Int.sign_eq_one_of_pos h)
theorem RNumV.same {w:World} {v:Value} {q r:Rat} (h:RNumV w v q) (e:q=r):RNumV w v r:=e ▸ h
theorem rmul_value (q r:Rat):mkRat (q.num.sign*r.num.sign*((q.num.natAbs*r.num.natAbs:Nat):Int)) (q.den*r.den)=q*r:=by
 have e:q.num.sign*r.num.sign*((q.num.natAbs*r.num.natAbs:Nat):Int)=q.num*r.num:=by
  rw [Int.natCast_mul];have h1:=Int.sign_mul_natAbs q.num;have h2:=Int.sign_mul_natAbs r.num
  calc q.num.sign*r.num.sign*((q.num.natAbs:Int)*(r.num.natAbs:Int))=(q.num.sign*(q.num.natAbs:Int))*(r.num.sign*(r.num.natAbs:Int)):=by simp only [Int.mul_assoc,Int.mul_left_comm]
   _=q.num*r.num:=by rw [h1,h2]
 rw [e,←Rat.mkRat_mul_mkRat,Rat.mkRat_self,Rat.mkRat_self]
theorem sgn_mul3 (q r:Rat):q.num.sign*r.num.sign=1∨q.num.sign*r.num.sign = -1∨q.num.sign*r.num.sign=0:=by
 rcases sgn3 q with h | h | h<;>rcases sgn3 r with k | k | k<;>rw [h,k]<;>simp
theorem rsign_c (x:Value) (q:Rat) (w:World) (hx:RNumV w x q) :
  Calls Tryz.prog 58 #[x] w fun e w'=>e=.returned (.int .i64 q.num.sign)∧Ext w w':=by
 obtain ⟨s1,a1,n1,c1,a1',n1',c1',rfl⟩:=hx.shape;have hvx:=hx;clear hx;obtain ⟨W0,hW0,g0,hz0,B_X⟩:=pro1 w #[.int .i64 s1,.slice a1 n1 c1,.slice a1' n1' c1'] 43;have HE:=hid g0;have HB_X:=hid B_X;have ac:=HB_X.o.a3;have hr0:Ext W0 W0:=Below.refl _ _;clear g0 B_X 
 go_enter Tryz.func58,Tryz.ntmps58
 go_upto_region 1 with (fail)
 rw [←hW0];clear hW0;replace hvx:=hvx.ext HE.o;have HSG:=hid hvx.sign;go_wp2_with fail;go_ret
 exact ⟨(by show Ending.returned (.int .i64 s1)=_;rw [HSG.o]),HE.o⟩
theorem RNumV.neg {w:World} {s:Int} {a:Option Addr} {n c:Nat} {a':Option Addr} {n' c':Nat} {q:Rat} (h:RNumV w (.agg #[.int .i64 s,.slice a n c,.slice a' n' c']) q):RNumV w (.agg #[.int .i64 (-s),.slice a n c,.slice a' n' c']) (-q):=by
 refine ⟨a,n,c,a',n',c',?_,?_,?_⟩
 ·rw [h.sign,Rat.neg_num,Int.sign_neg]
 ·rw [Rat.neg_num,Int.natAbs_neg];exact h.top
 ·have:=h.den
  by_cases h0:q=0
  ·subst h0;rw [if_pos rfl] at this;rw [if_pos (by simp)];exact this
  ·rw [if_neg h0] at this;rw [if_neg (fun e=>h0 (by have:=congrArg (- ·) e;simpa using this)),Rat.neg_den];exact this
theorem RNumV.abs {w:World} {s:Int} {a:Option Addr} {n c:Nat} {a':Option Addr} {n' c':Nat} {q:Rat} (h:RNumV w (.agg #[.int .i64 s,.slice a n c,.slice a' n' c']) q):RNumV w (.agg #[.int .i64 (s*s),.slice a n c,.slice a' n' c']) (absQ q):=by
 rcases Int.lt_or_le q.num 0 with h0 | h0
 ·have e:absQ q = -q:=by rw [absQ_eq,if_pos h0]
  have hs:s = -1:=by rw [h.sign];exact Int.sign_eq_neg_one_of_neg h0
  rw [e]
  have:=h.neg
  rw [hs] at this ⊢
  exact this
 ·have e:absQ q=q:=by rw [absQ_eq,if_neg (by omega)]
  rw [e]
  rcases sgn3 q with k | k | k
  ·rw [h.sign,k];have h2:=h;rw [h.sign,k] at h2;exact h2
  ·have h4:=Int.sign_eq_neg_one_iff_neg.1 k;omega
  ·rw [h.sign,k];have h2:=h;rw [h.sign,k] at h2;exact h2
theorem rneg_c (x:Value) (q:Rat) (w:World) (hx:RNumV w x q) :
  Calls Tryz.prog 149 #[x] w fun e w'=>∃ v,e=.returned v∧RNumV w' v (-q)∧Ext w w':=by
 obtain ⟨s1,a1,n1,c1,a1',n1',c1',rfl⟩:=hx.shape;have hvx:=hx;clear hx;obtain ⟨W0,hW0,g0,hz0,B_X,B_Z⟩:=pro2s w #[.int .i64 s1,.slice a1 n1 c1,.slice a1' n1' c1'] #[.int .i64 0,.slice none 0 0,.slice none 0 0] 43 43;have HE:=hid g0;have HB_X:=hid B_X;have HB_Z:=hid B_Z;have ac:=cland HB_X.o.a3 (HB_Z.o.a3);have hr0:Ext W0 W0:=Below.refl _ _;clear g0 B_X B_Z 
 go_enter Tryz.func149,Tryz.ntmps149
 go_upto_region 1 with (fail)
 rw [←hW0];clear hW0;replace hvx:=hvx.ext HE.o;have HSG:=hid hvx.sign;have hs3:s1=1∨s1 = -1∨s1=0:=by rw [hvx.sign];exact sgn3 q
 replace hvx:=hvx.neg
 rcases hs3 with rfl | rfl | rfl
 ·obtain ⟨U1,U2,U3⟩:=HB_Z.o.f3;go_wp2_with fail;clear U1 U2 U3;obtain ⟨W1,hW1,g1,q1,B1,hy1,ho1⟩:=rsto3 HE.o (by omega) HB_Z.o (by decide) (.int .i64 (-1)) (.slice a1 n1 c1) (.slice a1' n1' c1');rw [←hW1];clear hW1;replace HB_Z:=hid B1;obtain ⟨J4,J5,J6⟩:=HB_Z.o.c3;refine bodyPost_ret (v:=.agg #[.int .i64 (-1),.slice a1 n1 c1,.slice a1' n1' c1']) (by simp [results,Tryz.results149,go_sem,J4,J5,J6]) rfl ⟨_,rfl,(hvx.keepR q1),g1⟩
 ·obtain ⟨U1,U2,U3⟩:=HB_Z.o.f3;go_wp2_with fail;clear U1 U2 U3;obtain ⟨W1,hW1,g1,q1,B1,hy1,ho1⟩:=rsto3 HE.o (by omega) HB_Z.o (by decide) (.int .i64 1) (.slice a1 n1 c1) (.slice a1' n1' c1');rw [←hW1];clear hW1;replace HB_Z:=hid B1;obtain ⟨J4,J5,J6⟩:=HB_Z.o.c3;refine bodyPost_ret (v:=.agg #[.int .i64 1,.slice a1 n1 c1,.slice a1' n1' c1']) (by simp [results,Tryz.results149,go_sem,J4,J5,J6]) rfl ⟨_,rfl,(hvx.keepR q1),g1⟩
 ·obtain ⟨U1,U2,U3⟩:=HB_Z.o.f3;go_wp2_with fail;clear U1 U2 U3;obtain ⟨W1,hW1,g1,q1,B1,hy1,ho1⟩:=rsto3 HE.o (by omega) HB_Z.o (by decide) (.int .i64 0) (.slice a1 n1 c1) (.slice a1' n1' c1');rw [←hW1];clear hW1;replace HB_Z:=hid B1;obtain ⟨J4,J5,J6⟩:=HB_Z.o.c3;refine bodyPost_ret (v:=.agg #[.int .i64 0,.slice a1 n1 c1,.slice a1' n1' c1']) (by simp [results,Tryz.results149,go_sem,J4,J5,J6]) rfl ⟨_,rfl,(hvx.keepR q1),g1⟩
theorem rabs_c (x:Value) (q:Rat) (w:World) (hx:RNumV w x q) :
  Calls Tryz.prog 55 #[x] w fun e w'=>∃ v,e=.returned v∧RNumV w' v (absQ q)∧Ext w w':=by
 obtain ⟨s1,a1,n1,c1,a1',n1',c1',rfl⟩:=hx.shape;have hvx:=hx;clear hx;obtain ⟨W0,hW0,g0,hz0,B_X,B_Z⟩:=pro2s w #[.int .i64 s1,.slice a1 n1 c1,.slice a1' n1' c1'] #[.int .i64 0,.slice none 0 0,.slice none 0 0] 43 43;have HE:=hid g0;have HB_X:=hid B_X;have HB_Z:=hid B_Z;have ac:=cland HB_X.o.a3 (HB_Z.o.a3);have hr0:Ext W0 W0:=Below.refl _ _;clear g0 B_X B_Z 
 go_enter Tryz.func55,Tryz.ntmps55
 go_upto_region 1 with (fail)
 rw [←hW0];clear hW0;replace hvx:=hvx.ext HE.o;have HSG:=hid hvx.sign;have hs3:s1=1∨s1 = -1∨s1=0:=by rw [hvx.sign];exact sgn3 q
 replace hvx:=hvx.abs
 rcases hs3 with rfl | rfl | rfl
 ·obtain ⟨U1,U2,U3⟩:=HB_Z.o.f3;go_wp2_with fail;clear U1 U2 U3;obtain ⟨W1,hW1,g1,q1,B1,hy1,ho1⟩:=rsto3 HE.o (by omega) HB_Z.o (by decide) (.int .i64 1) (.slice a1 n1 c1) (.slice a1' n1' c1');rw [←hW1];clear hW1;replace HB_Z:=hid B1;obtain ⟨J4,J5,J6⟩:=HB_Z.o.c3;refine bodyPost_ret (v:=.agg #[.int .i64 1,.slice a1 n1 c1,.slice a1' n1' c1']) (by simp [results,Tryz.results55,go_sem,J4,J5,J6]) rfl ⟨_,rfl,(hvx.keepR q1),g1⟩
 ·obtain ⟨U1,U2,U3⟩:=HB_Z.o.f3;go_wp2_with fail;clear U1 U2 U3;obtain ⟨W1,hW1,g1,q1,B1,hy1,ho1⟩:=rsto3 HE.o (by omega) HB_Z.o (by decide) (.int .i64 1) (.slice a1 n1 c1) (.slice a1' n1' c1');rw [←hW1];clear hW1;replace HB_Z:=hid B1;obtain ⟨J4,J5,J6⟩:=HB_Z.o.c3;refine bodyPost_ret (v:=.agg #[.int .i64 1,.slice a1 n1 c1,.slice a1' n1' c1']) (by simp [results,Tryz.results55,go_sem,J4,J5,J6]) rfl ⟨_,rfl,(hvx.keepR q1),g1⟩
 ·obtain ⟨U1,U2,U3⟩:=HB_Z.o.f3;go_wp2_with fail;clear U1 U2 U3;obtain ⟨W1,hW1,g1,q1,B1,hy1,ho1⟩:=rsto3 HE.o (by omega) HB_Z.o (by decide) (.int .i64 0) (.slice a1 n1 c1) (.slice a1' n1' c1');rw [←hW1];clear hW1;replace HB_Z:=hid B1;obtain ⟨J4,J5,J6⟩:=HB_Z.o.c3;refine bodyPost_ret (v:=.agg #[.int .i64 0,.slice a1 n1 c1,.slice a1' n1' c1']) (by simp [results,Tryz.results55,go_sem,J4,J5,J6]) rfl ⟨_,rfl,(hvx.keepR q1),g1⟩
theorem rmulq_c (x y:Value) (q r:Rat) (K:Nat) (w:World) (hx:RNumV w x q) (hy:RNumV w y r) (sx:SmQ K q) (sy:SmQ K r) (hK:K≤10000000) :
  Calls Tryz.prog 188 #[x,y] w fun e w'=>∃ v,e=.returned v∧RNumV w' v (q*r)∧Ext w w':=by
 obtain ⟨s1,a1,n1,c1,a1',n1',c1',rfl⟩:=hx.shape;obtain ⟨s2,a2,n2,c2,a2',n2',c2',rfl⟩:=hy.shape;have hvx:=hx;have hvy:=hy;have SX:=hid sx;have SY:=hid sy;have HK:=hid hK;have hsx:s1=q.num.sign:=hx.sign;have hsy:s2=r.num.sign:=hy.sign;have h3:s1*s2=1∨s1*s2 = -1∨s1*s2=0:=by rw [hsx,hsy];exact sgn_mul3 q r
 have hwr:IntKind.i64.wrap (s1*s2)=s1*s2:=by rcases h3 with h | h | h<;>rw [h]<;>rfl
 have HV:Hid (mkRat (s1*s2*((q.num.natAbs*r.num.natAbs:Nat):Int)) (q.den*r.den)=q*r):=hid (by rw [hsx,hsy];exact rmul_value q r);have H3:=hid h3;clear hx hy sx sy hK hsx hsy h3;obtain ⟨W0,hW0,g0,hz0,B_X,B_Y,B_Z⟩:=pro3s w #[.int .i64 s1,.slice a1 n1 c1,.slice a1' n1' c1'] #[.int .i64 s2,.slice a2 n2 c2,.slice a2' n2' c2'] #[.int .i64 0,.slice none 0 0,.slice none 0 0] 43 43 43;have HE:=hid g0;have HB_X:=hid B_X;have HB_Y:=hid B_Y;have HB_Z:=hid B_Z;have ac:=cland HB_X.o.a3 (cland HB_Y.o.a3 (HB_Z.o.a3));have hr0:Ext W0 W0:=Below.refl _ _;clear g0 B_X B_Y B_Z 
 go_enter Tryz.func188,Tryz.ntmps188
 go_upto_region 1 with (fail)
 rw [←hW0];clear hW0;replace hvx:=hvx.ext HE.o;replace hvy:=hvy.ext HE.o;have hpx:=hvx.top;have hpy:=hvy.top;have kc:=cland (Box.bt (z:=w.heap.size+1+1) HB_X.o (by omega) Box.n3) ((Box.bt (z:=w.heap.size+1+1) HB_Y.o (by omega) Box.n3));have g1:Ext W0 W0.drew:=Below.drew (Below.refl _ _);refine wp_region_held_drew (S:=But W0 (w.heap.size+1+1)) (by kernel_rfl) (g1.but) (fun hHeld => ?_);generalize W0.drew=wD1 at *
 apply wts 0 5 rfl rfl (by kernel_rfl) (fun _ _ _ h=>h) hHeld
 ·intro w' hSw;go_simp<;>with_reducible rfl
 apply wts 1 6 rfl rfl (by kernel_rfl) (fun _ _ _ h=>h) hHeld
 ·intro w' hSw;go_simp<;>with_reducible rfl
 apply wts 2 7 rfl rfl (by kernel_rfl) (fun _ _ _ h=>h) hHeld
 ·intro w' hSw;go_simp<;>with_reducible rfl
 apply wts 3 8 rfl rfl (by kernel_rfl) (fun _ _ _ h=>h) hHeld
 ·intro w' hSw;go_simp<;>with_reducible rfl
 apply wts 4 9 rfl rfl (by kernel_rfl) (fun _ _ _ h=>h) hHeld
 ·intro w' hSw;go_simp<;>with_reducible rfl
 apply wts 5 10 rfl rfl (by kernel_rfl) (fun _ _ _ h=>h) hHeld
 ·intro w' hSw;go_simp<;>with_reducible rfl
 apply wts 6 11 rfl rfl (by kernel_rfl) (fun _ _ _ h=>h) hHeld
 ·intro w' hSw;go_simp<;>with_reducible rfl
 apply wts 7 12 rfl rfl (by kernel_rfl) (fun _ _ _ h=>h) hHeld
 ·intro w' hSw;go_simp<;>with_reducible rfl
 apply wts 8 13 rfl rfl (by kernel_rfl) (fun _ _ _ h=>h) hHeld
 ·intro w' hSw;go_simp<;>with_reducible rfl
 apply wts 10 15 rfl rfl (by kernel_rfl) (fun _ _ _ h=>h) hHeld
 ·intro w' hSw;go_simp<;>with_reducible rfl
 apply wts 12 17 rfl rfl (by kernel_rfl) (fun _ _ _ h=>h) hHeld
 ·intro w' hSw;go_simp<;>with_reducible rfl
 try simp only [Act.put,pA,pB,pC]
 refine wonc 9 14 130 #[.tmp 11,.tmp 13] #[41,41] 41 (by kernel_rfl) rfl rfl (fun KK hKK => ?_);go_simp;refine (rmul_c _ _ _ _ K _ (hpx.ext g1) (hpy.ext g1) SX.o.1 SY.o.1 (by have:=HK.o;omega)).mono ?_;rintro e w2 ⟨p2a,p2n,p2c,rfl,k1,g2⟩;have hb1:=g1.trans g2
 try dsimp only
 refine hKK.out _ _ (hb1.but) (fun hHeld => ?_)
 try simp only [Act.put,pA,pB,pC]
 refine wonc 11 16 128 #[.tmp 15] #[43] 41 (by kernel_rfl) rfl rfl (fun KK hKK => ?_);go_simp;refine (rbottom_c _ q _ (hvx.ext hb1)).mono ?_;rintro e w3 ⟨d3a,d3n,d3c,rfl,k2,g3⟩;have hb2:=hb1.trans g3
 try dsimp only
 refine hKK.out _ _ (hb2.but) (fun hHeld => ?_)
 try simp only [Act.put,pA,pB,pC]
 refine wonc 13 18 128 #[.tmp 17] #[43] 41 (by kernel_rfl) rfl rfl (fun KK hKK => ?_);go_simp;refine (rbottom_c _ r _ (hvy.ext hb2)).mono ?_;rintro e w4 ⟨d4a,d4n,d4c,rfl,k3,g4⟩;have hb3:=hb2.trans g4
 try dsimp only
 refine hKK.out _ _ (hb3.but) (fun hHeld => ?_)
 try simp only [Act.put,pA,pB,pC]
 refine wonc 14 19 130 #[.tmp 16,.tmp 18] #[41,41] 41 (by kernel_rfl) rfl rfl (fun KK hKK => ?_);go_simp;refine (rmul_c _ _ _ _ K _ (k2.ext g4) k3 SX.o.2 SY.o.2 (by have:=HK.o;omega)).mono ?_;rintro e w5 ⟨p5a,p5n,p5c,rfl,k4,g5⟩;have hb4:=hb3.trans g5
 try dsimp only
 refine hKK.out _ _ (hb4.but) (fun hHeld => ?_)
 try simp only [Act.put,pA,pB,pC]
 refine wonc 15 20 117 #[.tmp 9,.tmp 14,.tmp 19] #[3,41,41] 43 (by kernel_rfl) rfl rfl (fun KK hKK => ?_);go_simp;refine (rmade_c _ _ _ _ _ (K+K) _ H3.o (k1.ext (g3.trans (g4.trans g5))) k4 (SX.o.1.mul SY.o.1) (SX.o.2.mul SY.o.2) (by have:=HK.o;omega) (Nat.mul_pos (den_pos q) (den_pos r))).mono ?_;rintro e w6 ⟨v,rfl,k5,g6⟩;have hb5:=hb4.trans g6;obtain ⟨s5,a5,n5,c5,a5',n5',c5',rfl⟩:=k5.shape
 try dsimp only
 refine hKK.out _ _ (hb5.but) (fun hHeld => ?_)
 try simp only [Act.put,pA,pB,pC]
 refine wons 16 43 4 20 (by kernel_rfl) rfl rfl (fun KK hKK => ?_);obtain ⟨U6,U7,U8⟩:=(HB_Z.o.ext hb5).f3;go_simp;clear U6 U7 U8;obtain ⟨W7,hW7,g7,q7,B7,hy7,ho7⟩:=rsto3 (HE.o.trans hb5) (by omega) (HB_Z.o.ext hb5) (by decide) (.int .i64 s5) (.slice a5 n5 c5) (.slice a5' n5' c5');rw [←hW7];clear hW7;replace HB_Z:=hid B7;have hq7:But W0 (w.heap.size+1+1) W7:=But.sto (hb5.but) ho7
 try dsimp only
 refine hKK.out _ _ (hq7) (fun hHeld => ?_);refine wpAnyH_done (by kernel_rfl) ?_ _;have ac:=cland (ho7 _ _ _ (by omega) (HB_X.o.ext (g1.trans (g2.trans (g3.trans (g4.trans (g5.trans g6))))))).a3 (cland (ho7 _ _ _ (by omega) (HB_Y.o.ext (g1.trans (g2.trans (g3.trans (g4.trans (g5.trans g6))))))).a3 (HB_Z.o.a3));have hr9:Ext W7 W7:=Below.refl _ _;go_wp2_with fail;obtain ⟨J10,J11,J12⟩:=HB_Z.o.c3;refine bodyPost_ret (v:=.agg #[.int .i64 s5,.slice a5 n5 c5,.slice a5' n5' c5']) (by simp [results,Tryz.results188,go_sem,J10,J11,J12]) rfl ⟨_,rfl,by rw [←HV.o];exact (k5.keepR q7),g7⟩
theorem rcmp_other (q r:Rat) (h:q.num.sign<r.num.sign):cmpQ q r = -1:=by
 rw [cmpQ_other (by omega),if_pos h]
theorem rcmp_more (q r:Rat) (h:r.num.sign<q.num.sign):cmpQ q r=1:=by
 rw [cmpQ_other (by omega),if_neg (by omega)]
theorem cmpN3 (a b:Nat):cmpN a b=1∨cmpN a b = -1∨cmpN a b=0:=by
 unfold cmpN
 split
 ·exact .inr (.inl rfl)
 ·split
  ·exact .inl rfl
  ·exact .inr (.inr rfl)
theorem three_mul {s t:Int} (hs:s=1∨s = -1∨s=0) (ht:t=1∨t = -1∨t=0):s*t=1∨s*t = -1∨s*t=0:=by
 rcases hs with rfl | rfl | rfl<;>rcases ht with rfl | rfl | rfl<;>simp
theorem sg_dec1 {q:Rat} (h:q.num.sign=1):decide (q.num<0)=false:=decide_eq_false (fun e=>by have:=Int.sign_eq_neg_one_of_neg e;omega)
theorem sg_dec2 {q:Rat} (h:q.num.sign = -1):decide (q.num<0)=true:=decide_eq_true (Int.sign_eq_neg_one_iff_neg.1 h)
theorem rquo_value (q r:Rat) (hr:r≠0):mkRat (q.num.sign*r.num.sign*((q.num.natAbs*r.den:Nat):Int)) (q.den*r.num.natAbs)=q/r:=by
 have hn:r.num≠0:=fun e=>hr (Rat.num_eq_zero.1 e);rw [←quo_value q r hr]
 rcases sgn3 q with h | h | h
 ·rcases sgn3 r with k | k | k
  ·rw [mkRat_sgn (by rw [h,k];decide),h,k,sg_dec1 h,sg_dec1 k];rfl
  ·rw [mkRat_sgn (by rw [h,k];decide),h,k,sg_dec1 h,sg_dec2 k];rfl
  ·exact absurd (Int.sign_eq_zero_iff_zero.1 k) hn
 ·rcases sgn3 r with k | k | k
  ·rw [mkRat_sgn (by rw [h,k];decide),h,k,sg_dec2 h,sg_dec1 k];rfl
  ·rw [mkRat_sgn (by rw [h,k];decide),h,k,sg_dec2 h,sg_dec2 k];rfl
  ·exact absurd (Int.sign_eq_zero_iff_zero.1 k) hn
 ·have h0:=Int.sign_eq_zero_iff_zero.1 h;rw [h,Int.zero_mul,Int.zero_mul,Rat.zero_mkRat,h0];simp only [Int.natAbs_zero,Nat.zero_mul,mkq_zero]
theorem radd_same {q r:Rat} {s:Int} (h:q.num.sign=s∨q.num.sign=0) (k:r.num.sign=s∨r.num.sign=0):mkRat (s*((q.num.natAbs*r.den+r.num.natAbs*q.den:Nat):Int)) (q.den*r.den)=q+r:=by
 have h1:s*(q.num.natAbs:Int)=q.num:=by
  have e:=Int.sign_mul_natAbs q.num
  rcases h with h | h
  ·rw [h] at e;exact e
  ·have:=Int.sign_eq_zero_iff_zero.1 h;rw [this];simp
 have h2:s*(r.num.natAbs:Int)=r.num:=by
  have e:=Int.sign_mul_natAbs r.num
  rcases k with h | h
  ·rw [h] at e;exact e
  ·have:=Int.sign_eq_zero_iff_zero.1 h;rw [this];simp
 have e:s*((q.num.natAbs*r.den+r.num.natAbs*q.den:Nat):Int)=q.num*r.den+r.num*q.den:=by
  rw [Int.natCast_add,Int.natCast_mul,Int.natCast_mul,Int.mul_add,←Int.mul_assoc,←Int.mul_assoc,h1,h2]
 rw [e,←Rat.mkRat_add_mkRat _ _ q.den_nz r.den_nz,Rat.mkRat_self,Rat.mkRat_self]
theorem radd_diff {q r:Rat} (h:q.num.sign = - r.num.sign) (hle:q.num.natAbs*r.den≤r.num.natAbs*q.den):mkRat (r.num.sign*((r.num.natAbs*q.den-q.num.natAbs*r.den:Nat):Int)) (q.den*r.den)=q+r:=by
 have e1:=Int.sign_mul_natAbs q.num;have e2:=Int.sign_mul_natAbs r.num;have e:r.num.sign*((r.num.natAbs*q.den-q.num.natAbs*r.den:Nat):Int)=q.num*r.den+r.num*q.den:=by
  rw [Int.natCast_sub hle,Int.natCast_mul,Int.natCast_mul,Int.mul_sub,←Int.mul_assoc,←Int.mul_assoc,e2];rw [h] at e1
  have:r.num.sign*(q.num.natAbs:Int) = - q.num:=by
   have h5:r.num.sign*(q.num.natAbs:Int) = -(-r.num.sign*(q.num.natAbs:Int)):=by rw [Int.neg_mul,Int.neg_neg]
   rw [h5,e1]
  rw [this,Int.neg_mul];omega
 rw [e,←Rat.mkRat_add_mkRat _ _ q.den_nz r.den_nz,Rat.mkRat_self,Rat.mkRat_self]
theorem radd_diff' {q r:Rat} (h:q.num.sign = - r.num.sign) (hle:r.num.natAbs*q.den≤q.num.natAbs*r.den):mkRat (q.num.sign*((q.num.natAbs*r.den-r.num.natAbs*q.den:Nat):Int)) (q.den*r.den)=q+r:=by
 rw [Nat.mul_comm q.den,Rat.add_comm]
 exact radd_diff (by omega) hle
theorem risint_c (x:Value) (q:Rat) (K:Nat) (w:World) (hx:RNumV w x q) (sx:SmQ K q) (hK:K≤30000000) :
  Calls Tryz.prog 57 #[x] w fun e w'=>e=.returned (.bool (decide (q.den=1)))∧Ext w w':=by
 obtain ⟨s1,a1,n1,c1,a1',n1',c1',rfl⟩:=hx.shape;have hvx:=hx;have SX:=hid sx;have HK:=hid hK;have hcm:(cmpN q.den 1==0)=decide (q.den=1):=cmpN_eq0 _ _;obtain ⟨cc,hcc⟩:∃ c,c=cmpN q.den 1:=⟨_,rfl⟩;rw [←hcc] at hcm;have HCC:=hid hcc;obtain ⟨bb,hbb⟩:∃ b,b=decide (q.den=1):=⟨_,rfl⟩;rw [←hbb] at hcm;have HBB:=hid hbb;clear hx sx hK hcc hbb;obtain ⟨W0,hW0,g0,hz0,B_X⟩:=pro1 w #[.int .i64 s1,.slice a1 n1 c1,.slice a1' n1' c1'] 43;have HE:=hid g0;have HB_X:=hid B_X;have ac:=HB_X.o.a3;have hr0:Ext W0 W0:=Below.refl _ _;clear g0 B_X 
 go_enter Tryz.func57,Tryz.ntmps57
 go_upto_region 1 with (fail)
 rw [←hW0];clear hW0;replace hvx:=hvx.ext HE.o;go_wp2_with fail;refine (rbottom_c _ q _ hvx).mono ?_;rintro e w1 ⟨d1a,d1n,d1c,rfl,k1,g1⟩;go_wp2_with fail;refine (rone_c _).mono ?_;rintro e w2 ⟨o2a,o2n,o2c,rfl,k2,g2⟩;have hb1:=g1.trans g2;go_wp2_with fail;refine (rcmp_c _ _ _ _ (K+1) _ (k1.ext g2) k2 (SX.o.2.mono (by omega)) (Nat.lt_of_lt_of_le (by decide:1<2^1) (Nat.pow_le_pow_right (by decide) (by omega))) (by have:=HK.o;omega)).mono ?_;rintro e w3 ⟨rfl,g3⟩;have hb2:=hb1.trans g3;rw [←HCC.o];go_wp2_with fail;go_ret
 exact ⟨(by show Ending.returned (.bool bb)=_;rw [HBB.o]),(HE.o.trans hb2)⟩
theorem rcmpq_c (x y:Value) (q r:Rat) (K:Nat) (w:World) (hx:RNumV w x q) (hy:RNumV w y r) (sx:SmQ K q) (sy:SmQ K r) (hK:K≤10000000) :
  Calls Tryz.prog 59 #[x,y] w fun e w'=>e=.returned (.int .i64 (cmpQ q r))∧Ext w w':=by
 obtain ⟨s1,a1,n1,c1,a1',n1',c1',rfl⟩:=hx.shape;obtain ⟨s2,a2,n2,c2,a2',n2',c2',rfl⟩:=hy.shape;have hvx:=hx;have hvy:=hy;have SX:=hid sx;have SY:=hid sy;have HK:=hid hK;have HSX:Hid (s1=q.num.sign):=hid hx.sign;have HSY:Hid (s2=r.num.sign):=hid hy.sign;have H3X:Hid (s1=1∨s1 = -1∨s1=0):=hid (by rw [hx.sign];exact sgn3 q);have H3Y:Hid (s2=1∨s2 = -1∨s2=0):=hid (by rw [hy.sign];exact sgn3 r);clear hx hy sx sy hK;obtain ⟨W0,hW0,g0,hz0,B_X,B_Y⟩:=pro2s w #[.int .i64 s1,.slice a1 n1 c1,.slice a1' n1' c1'] #[.int .i64 s2,.slice a2 n2 c2,.slice a2' n2' c2'] 43 43;have HE:=hid g0;have HB_X:=hid B_X;have HB_Y:=hid B_Y;have ac:=cland HB_X.o.a3 (HB_Y.o.a3);have hr0:Ext W0 W0:=Below.refl _ _;clear g0 B_X B_Y 
 go_enter Tryz.func59,Tryz.ntmps59
 go_upto_region 1 with (fail)
 rw [←hW0];clear hW0;replace hvx:=hvx.ext HE.o;replace hvy:=hvy.ext HE.o
 rcases Int.lt_trichotomy s1 s2 with hl | hl | hl
 ·have hd:decide (s1<s2)=true:=decide_eq_true hl;have HR:Hid (cmpQ q r = -1):=hid (rcmp_other q r (by have:=HSX.o;have:=HSY.o;omega));clear hl;go_wp2_with fail;rw [HR.o];go_ret
  exact ⟨rfl,HE.o⟩
 ·subst hl;have hd:decide (s1<s1)=false:=decide_eq_false (by omega);have HR:Hid (cmpQ q r=s1*cmpN (q.num.natAbs*r.den) (r.num.natAbs*q.den)):=hid (by rw [HSX.o];exact cmpQ_sign (by rw [←HSX.o,←HSY.o]));obtain ⟨cc,hcc⟩:∃ c,c=cmpN (q.num.natAbs*r.den) (r.num.natAbs*q.den):=⟨_,rfl⟩;rw [←hcc] at HR;have hwr:IntKind.i64.wrap (s1*cc)=s1*cc:=by
   rcases three_mul H3X.o (hcc ▸ cmpN3 _ _:cc=1∨cc = -1∨cc=0) with h | h | h<;>rw [h]<;>rfl
  have HCC:=hid hcc;clear hcc;have hpx:=hvx.top;have hpy:=hvy.top
  go_upto_region 5 with (fail)
  have g1:Ext W0 W0.drew:=Below.drew (Below.refl _ _);refine wp_region_held_drew (S:=Ext W0) (by kernel_rfl) (g1) (fun hHeld => ?_);generalize W0.drew=wD1 at *
  apply wts 0 17 rfl rfl (by kernel_rfl) (fun _ _ _ h=>h) hHeld
  ·intro w' hSw;go_simp<;>with_reducible rfl
  apply wts 1 18 rfl rfl (by kernel_rfl) (fun _ _ _ h=>h) hHeld
  ·intro w' hSw;go_simp<;>with_reducible rfl
  apply wts 2 19 rfl rfl (by kernel_rfl) (fun _ _ _ h=>h) hHeld
  ·intro w' hSw;go_simp<;>with_reducible rfl
  apply wts 3 20 rfl rfl (by kernel_rfl) (fun _ _ _ h=>h) hHeld
  ·intro w' hSw;go_simp<;>with_reducible rfl
  apply wts 4 21 rfl rfl (by kernel_rfl) (fun _ _ _ h=>h) hHeld
  ·intro w' hSw;go_simp<;>with_reducible rfl
  apply wts 7 24 rfl rfl (by kernel_rfl) (fun _ _ _ h=>h) hHeld
  ·intro w' hSw;go_simp<;>with_reducible rfl
  apply wts 8 25 rfl rfl (by kernel_rfl) (fun _ _ _ h=>h) hHeld
  ·intro w' hSw;go_simp<;>with_reducible rfl
  apply wts 9 26 rfl rfl (by kernel_rfl) (fun _ _ _ h=>h) hHeld
  ·intro w' hSw;go_simp<;>with_reducible rfl
  try simp only [Act.put,pA,pB,pC]
  refine wonc 5 22 128 #[.tmp 21] #[43] 41 (by kernel_rfl) rfl rfl (fun KK hKK => ?_);go_simp;refine (rbottom_c _ r _ (hvy.ext g1)).mono ?_;rintro e w2 ⟨d2a,d2n,d2c,rfl,k1,g2⟩;have hb1:=g1.trans g2
  try dsimp only
  refine hKK.out _ _ (hb1) (fun hHeld => ?_)
  try simp only [Act.put,pA,pB,pC]
  refine wonc 6 23 130 #[.tmp 20,.tmp 22] #[41,41] 41 (by kernel_rfl) rfl rfl (fun KK hKK => ?_);go_simp;refine (rmul_c _ _ _ _ K _ (hpx.ext hb1) k1 SX.o.1 SY.o.2 (by have:=HK.o;omega)).mono ?_;rintro e w3 ⟨p3a,p3n,p3c,rfl,k2,g3⟩;have hb2:=hb1.trans g3
  try dsimp only
  refine hKK.out _ _ (hb2) (fun hHeld => ?_)
  try simp only [Act.put,pA,pB,pC]
  refine wonc 10 27 128 #[.tmp 26] #[43] 41 (by kernel_rfl) rfl rfl (fun KK hKK => ?_);go_simp;refine (rbottom_c _ q _ (hvx.ext hb2)).mono ?_;rintro e w4 ⟨d4a,d4n,d4c,rfl,k3,g4⟩;have hb3:=hb2.trans g4
  try dsimp only
  refine hKK.out _ _ (hb3) (fun hHeld => ?_)
  try simp only [Act.put,pA,pB,pC]
  refine wonc 11 28 130 #[.tmp 25,.tmp 27] #[41,41] 41 (by kernel_rfl) rfl rfl (fun KK hKK => ?_);go_simp;refine (rmul_c _ _ _ _ K _ (hpy.ext hb3) k3 SY.o.1 SX.o.2 (by have:=HK.o;omega)).mono ?_;rintro e w5 ⟨p5a,p5n,p5c,rfl,k4,g5⟩;have hb4:=hb3.trans g5
  try dsimp only
  refine hKK.out _ _ (hb4) (fun hHeld => ?_)
  try simp only [Act.put,pA,pB,pC]
  refine wonc 12 29 127 #[.tmp 23,.tmp 28] #[41,41] 3 (by kernel_rfl) rfl rfl (fun KK hKK => ?_);go_simp;refine (rcmp_c _ _ _ _ (K+K) _ (k2.ext (g4.trans g5)) k4 (SX.o.1.mul SY.o.2) (SY.o.1.mul SX.o.2) (by have:=HK.o;omega)).mono ?_;rintro e w6 ⟨rfl,g6⟩;have hb5:=hb4.trans g6;rw [←HCC.o]
  try dsimp only
  refine hKK.out _ _ (hb5) (fun hHeld => ?_);apply wts 13 30 rfl rfl (by kernel_rfl) (fun _ _ _ h=>h) hHeld
  ·intro w' hSw;go_simp<;>with_reducible rfl
  apply wts 14 4 rfl rfl (by kernel_rfl) (fun _ _ _ h=>h) hHeld
  ·intro w' hSw;go_simp<;>with_reducible rfl
  refine wpAnyH_done (by kernel_rfl) ?_ _;go_wp2_with fail;rw [HR.o];go_ret
  exact ⟨rfl,(HE.o.trans hb5)⟩
 ·have hd:decide (s1<s2)=false:=decide_eq_false (by omega);have hd2:decide (s2<s1)=true:=decide_eq_true hl;have HR:Hid (cmpQ q r=1):=hid (rcmp_more q r (by have:=HSX.o;have:=HSY.o;omega));clear hl;go_wp2_with fail;rw [HR.o];go_ret
  exact ⟨rfl,HE.o⟩
theorem rquoq_c (x y:Value) (q r:Rat) (K:Nat) (w:World) (hx:RNumV w x q) (hy:RNumV w y r) (sx:SmQ K q) (sy:SmQ K r) (hK:K≤10000000) (hr:r≠0) :
  Calls Tryz.prog 172 #[x,y] w fun e w'=>∃ v,e=.returned (.tuple #[v,.int .i64 0])∧RNumV w' v (q/r)∧Ext w w':=by
 obtain ⟨s1,a1,n1,c1,a1',n1',c1',rfl⟩:=hx.shape;obtain ⟨s2,a2,n2,c2,a2',n2',c2',rfl⟩:=hy.shape;have hvx:=hx;have hvy:=hy;have SX:=hid sx;have SY:=hid sy;have HK:=hid hK;have HSX:Hid (s1=q.num.sign):=hid hx.sign;have HSY:Hid (s2=r.num.sign):=hid hy.sign;have H3X:Hid (s1=1∨s1 = -1∨s1=0):=hid (by rw [hx.sign];exact sgn3 q);have H3Y:Hid (s2=1∨s2 = -1∨s2=0):=hid (by rw [hy.sign];exact sgn3 r);clear hx hy sx sy hK;have hs0:(s2==0)=false:=by
  rw [HSY.o];exact beq_eq_false_iff_ne.2 (fun e=>hr (Rat.num_eq_zero.1 (Int.sign_eq_zero_iff_zero.1 e)))
 have H3:Hid (s1*s2=1∨s1*s2 = -1∨s1*s2=0):=hid (three_mul H3X.o H3Y.o);have hwr:IntKind.i64.wrap (s1*s2)=s1*s2:=by rcases H3.o with h | h | h<;>rw [h]<;>rfl
 have HV:Hid (mkRat (s1*s2*((q.num.natAbs*r.den:Nat):Int)) (q.den*r.num.natAbs)=q/r):=hid (by rw [HSX.o,HSY.o];exact rquo_value q r hr);have HP:Hid (0<q.den*r.num.natAbs):=hid (Nat.mul_pos (den_pos q) (Nat.pos_of_ne_zero fun h=>hr (Rat.num_eq_zero.1 (by omega))));have HR:=hid hr;clear hr;obtain ⟨W0,hW0,g0,hz0,B_X,B_Y,B_Z⟩:=pro3s w #[.int .i64 s1,.slice a1 n1 c1,.slice a1' n1' c1'] #[.int .i64 s2,.slice a2 n2 c2,.slice a2' n2' c2'] #[.int .i64 0,.slice none 0 0,.slice none 0 0] 43 43 43;have HE:=hid g0;have HB_X:=hid B_X;have HB_Y:=hid B_Y;have HB_Z:=hid B_Z;have ac:=cland HB_X.o.a3 (cland HB_Y.o.a3 (HB_Z.o.a3));have hr0:Ext W0 W0:=Below.refl _ _;clear g0 B_X B_Y B_Z 
 go_enter Tryz.func172,Tryz.ntmps172
 go_upto_region 1 with (fail)
 rw [←hW0];clear hW0;replace hvx:=hvx.ext HE.o;replace hvy:=hvy.ext HE.o;have hpx:=hvx.top;have hpy:=hvy.top;have hdy:=hvy.den;have HRZ:Hid ((if r=0 then 0 else r.den)=r.den):=hid (if_neg HR.o);rw [HRZ.o] at hdy
 go_upto_region 3 with (fail)
 have kc:=cland (Box.bt (z:=w.heap.size+1+1) HB_X.o (by omega) Box.n3) ((Box.bt (z:=w.heap.size+1+1) HB_Y.o (by omega) Box.n3));have g1:Ext W0 W0.drew:=Below.drew (Below.refl _ _);refine wp_region_held_drew (S:=But W0 (w.heap.size+1+1)) (by kernel_rfl) (g1.but) (fun hHeld => ?_);generalize W0.drew=wD1 at *
 apply wts 0 10 rfl rfl (by kernel_rfl) (fun _ _ _ h=>h) hHeld
 ·intro w' hSw;go_simp<;>with_reducible rfl
 apply wts 1 11 rfl rfl (by kernel_rfl) (fun _ _ _ h=>h) hHeld
 ·intro w' hSw;go_simp<;>with_reducible rfl
 apply wts 2 12 rfl rfl (by kernel_rfl) (fun _ _ _ h=>h) hHeld
 ·intro w' hSw;go_simp<;>with_reducible rfl
 apply wts 3 13 rfl rfl (by kernel_rfl) (fun _ _ _ h=>h) hHeld
 ·intro w' hSw;go_simp<;>with_reducible rfl
 apply wts 4 14 rfl rfl (by kernel_rfl) (fun _ _ _ h=>h) hHeld
 ·intro w' hSw;go_simp<;>with_reducible rfl
 apply wts 5 15 rfl rfl (by kernel_rfl) (fun _ _ _ h=>h) hHeld
 ·intro w' hSw;go_simp<;>with_reducible rfl
 apply wts 6 16 rfl rfl (by kernel_rfl) (fun _ _ _ h=>h) hHeld
 ·intro w' hSw;go_simp<;>with_reducible rfl
 apply wts 7 17 rfl rfl (by kernel_rfl) (fun _ _ _ h=>h) hHeld
 ·intro w' hSw;go_simp<;>with_reducible rfl
 apply wts 8 18 rfl rfl (by kernel_rfl) (fun _ _ _ h=>h) hHeld
 ·intro w' hSw;go_simp<;>with_reducible rfl
 apply wts 10 20 rfl rfl (by kernel_rfl) (fun _ _ _ h=>h) hHeld
 ·intro w' hSw;go_simp<;>with_reducible rfl
 apply wts 12 22 rfl rfl (by kernel_rfl) (fun _ _ _ h=>h) hHeld
 ·intro w' hSw;go_simp<;>with_reducible rfl
 apply wts 13 23 rfl rfl (by kernel_rfl) (fun _ _ _ h=>h) hHeld
 ·intro w' hSw;go_simp<;>with_reducible rfl
 try simp only [Act.put,pA,pB,pC]
 refine wonc 9 19 130 #[.tmp 16,.tmp 18] #[41,41] 41 (by kernel_rfl) rfl rfl (fun KK hKK => ?_);go_simp;refine (rmul_c _ _ _ _ K _ (hpx.ext g1) (hdy.ext g1) SX.o.1 SY.o.2 (by have:=HK.o;omega)).mono ?_;rintro e w2 ⟨p2a,p2n,p2c,rfl,k1,g2⟩;have hb1:=g1.trans g2
 try dsimp only
 refine hKK.out _ _ (hb1.but) (fun hHeld => ?_)
 try simp only [Act.put,pA,pB,pC]
 refine wonc 11 21 128 #[.tmp 20] #[43] 41 (by kernel_rfl) rfl rfl (fun KK hKK => ?_);go_simp;refine (rbottom_c _ q _ (hvx.ext hb1)).mono ?_;rintro e w3 ⟨d3a,d3n,d3c,rfl,k2,g3⟩;have hb2:=hb1.trans g3
 try dsimp only
 refine hKK.out _ _ (hb2.but) (fun hHeld => ?_)
 try simp only [Act.put,pA,pB,pC]
 refine wonc 14 24 130 #[.tmp 21,.tmp 23] #[41,41] 41 (by kernel_rfl) rfl rfl (fun KK hKK => ?_);go_simp;refine (rmul_c _ _ _ _ K _ k2 (hpy.ext hb2) SX.o.2 SY.o.1 (by have:=HK.o;omega)).mono ?_;rintro e w4 ⟨p4a,p4n,p4c,rfl,k4,g4⟩;have hb3:=hb2.trans g4
 try dsimp only
 refine hKK.out _ _ (hb3.but) (fun hHeld => ?_)
 try simp only [Act.put,pA,pB,pC]
 refine wonc 15 25 117 #[.tmp 14,.tmp 19,.tmp 24] #[3,41,41] 43 (by kernel_rfl) rfl rfl (fun KK hKK => ?_);go_simp;refine (rmade_c _ _ _ _ _ (K+K) _ H3.o (k1.ext (g3.trans g4)) k4 (SX.o.1.mul SY.o.2) (SX.o.2.mul SY.o.1) (by have:=HK.o;omega) HP.o).mono ?_;rintro e w5 ⟨v,rfl,k5,g5⟩;have hb4:=hb3.trans g5;obtain ⟨s5,a5,n5,c5,a5',n5',c5',rfl⟩:=k5.shape
 try dsimp only
 refine hKK.out _ _ (hb4.but) (fun hHeld => ?_)
 try simp only [Act.put,pA,pB,pC]
 refine wons 16 43 4 25 (by kernel_rfl) rfl rfl (fun KK hKK => ?_);obtain ⟨U5,U6,U7⟩:=(HB_Z.o.ext hb4).f3;go_simp;clear U5 U6 U7;obtain ⟨W6,hW6,g6,q6,B6,hy6,ho6⟩:=rsto3 (HE.o.trans hb4) (by omega) (HB_Z.o.ext hb4) (by decide) (.int .i64 s5) (.slice a5 n5 c5) (.slice a5' n5' c5');rw [←hW6];clear hW6;replace HB_Z:=hid B6;have hq6:But W0 (w.heap.size+1+1) W6:=But.sto (hb4.but) ho6
 try dsimp only
 refine hKK.out _ _ (hq6) (fun hHeld => ?_);apply wts 17 5 rfl rfl (by kernel_rfl) (fun _ _ _ h=>h) hHeld
 ·intro w' hSw;go_simp<;>with_reducible rfl
 refine wpAnyH_done (by kernel_rfl) ?_ _;have ac:=cland (ho6 _ _ _ (by omega) (HB_X.o.ext (g1.trans (g2.trans (g3.trans (g4.trans g5)))))).a3 (cland (ho6 _ _ _ (by omega) (HB_Y.o.ext (g1.trans (g2.trans (g3.trans (g4.trans g5)))))).a3 (HB_Z.o.a3));have hr8:Ext W6 W6:=Below.refl _ _;go_wp2_with fail;obtain ⟨J9,J10,J11⟩:=HB_Z.o.c3;refine bodyPost_ret (v:=.tuple #[.agg #[.int .i64 s5,.slice a5 n5 c5,.slice a5' n5' c5'],.int .i64 0]) (by simp [results,Tryz.results172,go_sem,J9,J10,J11]) rfl ⟨_,rfl,by rw [←HV.o];exact (k5.keepR q6),g6⟩
theorem sgn_ne {q r:Rat} (h:q.num.sign≠r.num.sign) (h1:q.num.sign≠0) (h2:r.num.sign≠0):q.num.sign = - r.num.sign:=by
 have a:=sgn3 q;have b:=sgn3 r;generalize q.num.sign=s at *
 generalize r.num.sign=t at *
 omega
theorem rshift_down (q:Rat) (n:Nat):mkRat (q.num.sign*(q.num.natAbs:Int)) (q.den*2^n)=q*(2:Rat)^(-(n:Int)):=by
 have h:=shift_down (decide (q.num<0)) q.num.natAbs q.den n q.den_nz;rw [mkq_self] at h;rw [←h]
 rcases sgn3 q with k | k | k
 ·rw [mkRat_sgn (by rw [k];decide),k,sg_dec1 k];rfl
 ·rw [mkRat_sgn (by rw [k];decide),k,sg_dec2 k];rfl
 ·have h0:=Int.sign_eq_zero_iff_zero.1 k;rw [k,Int.zero_mul,Rat.zero_mkRat,h0];simp only [Int.natAbs_zero,mkq_zero]
theorem rshift_up (q:Rat) (n:Nat):mkRat (q.num.sign*((q.num.natAbs*2^n:Nat):Int)) q.den=q*(2:Rat)^(n:Int):=by
 have h:=shift_up (decide (q.num<0)) q.num.natAbs q.den n;rw [mkq_self] at h;rw [←h]
 rcases sgn3 q with k | k | k
 ·rw [mkRat_sgn (by rw [k];decide),k,sg_dec1 k];rfl
 ·rw [mkRat_sgn (by rw [k];decide),k,sg_dec2 k];rfl
 ·have h0:=Int.sign_eq_zero_iff_zero.1 k;rw [k,Int.zero_mul,Rat.zero_mkRat,h0];simp only [Int.natAbs_zero,Nat.zero_mul,mkq_zero]
theorem rnatural_i (m:Int) (k:Nat) (w:World) (hm:m=(k:Int)) (hk:k<18446744073709551616) :
  Calls Tryz.prog 154 #[.int .u64 m] w fun e w'=>∃ a k' cap,e=.returned (.slice a k' cap)∧RefV w' (.slice a k' cap) k∧Ext w w':=by
 subst hm;exact rnatural_c k w hk
theorem raddq_c (x y:Value) (q r:Rat) (K:Nat) (w:World) (hx:RNumV w x q) (hy:RNumV w y r) (sx:SmQ K q) (sy:SmQ K r) (hK:K≤10000000) :
  Calls Tryz.prog 61 #[x,y] w fun e w'=>∃ v,e=.returned v∧RNumV w' v (q+r)∧Ext w w':=by
 obtain ⟨s1,a1,n1,c1,a1',n1',c1',rfl⟩:=hx.shape;obtain ⟨s2,a2,n2,c2,a2',n2',c2',rfl⟩:=hy.shape;have hvx:=hx;have hvy:=hy;have SX:=hid sx;have SY:=hid sy;have HK:=hid hK;have HSX:Hid (s1=q.num.sign):=hid hx.sign;have HSY:Hid (s2=r.num.sign):=hid hy.sign;have H3X:Hid (s1=1∨s1 = -1∨s1=0):=hid (by rw [hx.sign];exact sgn3 q);have H3Y:Hid (s2=1∨s2 = -1∨s2=0):=hid (by rw [hy.sign];exact sgn3 r);clear hx hy sx sy hK;obtain ⟨W0,hW0,g0,hz0,B_X,B_Y,B_Z⟩:=pro3s w #[.int .i64 s1,.slice a1 n1 c1,.slice a1' n1' c1'] #[.int .i64 s2,.slice a2 n2 c2,.slice a2' n2' c2'] #[.int .i64 0,.slice none 0 0,.slice none 0 0] 43 43 43;have HE:=hid g0;have HB_X:=hid B_X;have HB_Y:=hid B_Y;have HB_Z:=hid B_Z;have ac:=cland HB_X.o.a3 (cland HB_Y.o.a3 (HB_Z.o.a3));have hr0:Ext W0 W0:=Below.refl _ _;clear g0 B_X B_Y B_Z 
 go_enter Tryz.func61,Tryz.ntmps61
 go_upto_region 1 with (fail)
 rw [←hW0];clear hW0;replace hvx:=hvx.ext HE.o;replace hvy:=hvy.ext HE.o;have hpx:=hvx.top;have hpy:=hvy.top;have g1:Ext W0 W0.drew:=Below.drew (Below.refl _ _);refine wp_region_held_drew (S:=Ext W0) (by kernel_rfl) (g1) (fun hHeld => ?_);generalize W0.drew=wD1 at *
 apply wts 0 9 rfl rfl (by kernel_rfl) (fun _ _ _ h=>h) hHeld
 ·intro w' hSw;go_simp<;>with_reducible rfl
 apply wts 1 10 rfl rfl (by kernel_rfl) (fun _ _ _ h=>h) hHeld
 ·intro w' hSw;go_simp<;>with_reducible rfl
 apply wts 2 11 rfl rfl (by kernel_rfl) (fun _ _ _ h=>h) hHeld
 ·intro w' hSw;go_simp<;>with_reducible rfl
 apply wts 5 14 rfl rfl (by kernel_rfl) (fun _ _ _ h=>h) hHeld
 ·intro w' hSw;go_simp<;>with_reducible rfl
 apply wts 6 15 rfl rfl (by kernel_rfl) (fun _ _ _ h=>h) hHeld
 ·intro w' hSw;go_simp<;>with_reducible rfl
 apply wts 7 16 rfl rfl (by kernel_rfl) (fun _ _ _ h=>h) hHeld
 ·intro w' hSw;go_simp<;>with_reducible rfl
 try simp only [Act.put,pA,pB,pC]
 refine wonc 3 12 128 #[.tmp 11] #[43] 41 (by kernel_rfl) rfl rfl (fun KK hKK => ?_);go_simp;refine (rbottom_c _ r _ (hvy.ext g1)).mono ?_;rintro e w2 ⟨d2a,d2n,d2c,rfl,k1,g2⟩;have hb1:=g1.trans g2
 try dsimp only
 refine hKK.out _ _ (hb1) (fun hHeld => ?_)
 try simp only [Act.put,pA,pB,pC]
 refine wonc 4 13 130 #[.tmp 10,.tmp 12] #[41,41] 41 (by kernel_rfl) rfl rfl (fun KK hKK => ?_);go_simp;refine (rmul_c _ _ _ _ K _ (hpx.ext hb1) k1 SX.o.1 SY.o.2 (by have:=HK.o;omega)).mono ?_;rintro e w3 ⟨pa,pn,pc,rfl,kp,g3⟩;have hb2:=hb1.trans g3
 try dsimp only
 refine hKK.out _ _ (hb2) (fun hHeld => ?_)
 try simp only [Act.put,pA,pB,pC]
 refine wonc 8 17 128 #[.tmp 16] #[43] 41 (by kernel_rfl) rfl rfl (fun KK hKK => ?_);go_simp;refine (rbottom_c _ q _ (hvx.ext hb2)).mono ?_;rintro e w4 ⟨d4a,d4n,d4c,rfl,k3,g4⟩;have hb3:=hb2.trans g4
 try dsimp only
 refine hKK.out _ _ (hb3) (fun hHeld => ?_)
 try simp only [Act.put,pA,pB,pC]
 refine wonc 9 18 130 #[.tmp 15,.tmp 17] #[41,41] 41 (by kernel_rfl) rfl rfl (fun KK hKK => ?_);go_simp;refine (rmul_c _ _ _ _ K _ (hpy.ext hb3) k3 SY.o.1 SX.o.2 (by have:=HK.o;omega)).mono ?_;rintro e w5 ⟨ra,rn,rc,rfl,kr,g5⟩;have hb4:=hb3.trans g5
 try dsimp only
 refine hKK.out _ _ (hb4) (fun hHeld => ?_);apply wts 10 5 rfl rfl (by kernel_rfl) (fun _ _ _ h=>h) hHeld
 ·intro w' hSw;go_simp<;>with_reducible rfl
 apply wts 11 6 rfl rfl (by kernel_rfl) (fun _ _ _ h=>h) hHeld
 ·intro w' hSw;go_simp<;>with_reducible rfl
 refine wpAnyH_done (by kernel_rfl) ?_ _;clear k1 k3
 go_upto_region 2 with (fail)
 have g6:Ext w5 w5.drew:=Below.drew (Below.refl _ _);have hb5:=hb4.trans g6;refine wp_region_held_drew (S:=Ext W0) (by kernel_rfl) (hb5) (fun hHeld => ?_);generalize w5.drew=wD6 at *
 apply wts 0 19 rfl rfl (by kernel_rfl) (fun _ _ _ h=>h) hHeld
 ·intro w' hSw;go_simp<;>with_reducible rfl
 apply wts 2 21 rfl rfl (by kernel_rfl) (fun _ _ _ h=>h) hHeld
 ·intro w' hSw;go_simp<;>with_reducible rfl
 try simp only [Act.put,pA,pB,pC]
 refine wonc 1 20 128 #[.tmp 19] #[43] 41 (by kernel_rfl) rfl rfl (fun KK hKK => ?_);go_simp;refine (rbottom_c _ q _ (hvx.ext hb5)).mono ?_;rintro e w7 ⟨d7a,d7n,d7c,rfl,k1,g7⟩;have hb6:=hb5.trans g7
 try dsimp only
 refine hKK.out _ _ (hb6) (fun hHeld => ?_)
 try simp only [Act.put,pA,pB,pC]
 refine wonc 3 22 128 #[.tmp 21] #[43] 41 (by kernel_rfl) rfl rfl (fun KK hKK => ?_);go_simp;refine (rbottom_c _ r _ (hvy.ext hb6)).mono ?_;rintro e w8 ⟨d8a,d8n,d8c,rfl,k3,g8⟩;have hb7:=hb6.trans g8
 try dsimp only
 refine hKK.out _ _ (hb7) (fun hHeld => ?_)
 try simp only [Act.put,pA,pB,pC]
 refine wonc 4 23 130 #[.tmp 20,.tmp 22] #[41,41] 41 (by kernel_rfl) rfl rfl (fun KK hKK => ?_);go_simp;refine (rmul_c _ _ _ _ K _ (k1.ext g8) k3 SX.o.2 SY.o.2 (by have:=HK.o;omega)).mono ?_;rintro e w9 ⟨qa,qn,qc,rfl,kq,g9⟩;have hb8:=hb7.trans g9
 try dsimp only
 refine hKK.out _ _ (hb8) (fun hHeld => ?_);apply wts 5 7 rfl rfl (by kernel_rfl) (fun _ _ _ h=>h) hHeld
 ·intro w' hSw;go_simp<;>with_reducible rfl
 refine wpAnyH_done (by kernel_rfl) ?_ _;clear k1 k3;have HP:Hid (0<q.den*r.den):=hid (Nat.mul_pos (den_pos q) (den_pos r));have SP:Hid (Sm (K+K) (q.num.natAbs*r.den)):=hid (SX.o.1.mul SY.o.2);have SR:Hid (Sm (K+K) (r.num.natAbs*q.den)):=hid (SY.o.1.mul SX.o.2);have SQ:Hid (Sm (K+K) (q.den*r.den)):=hid (SX.o.2.mul SY.o.2)
 by_cases h1:s1=0
 ·subst h1;have HV:Hid (mkRat (s2*((q.num.natAbs*r.den+r.num.natAbs*q.den:Nat):Int)) (q.den*r.den)=q+r):=hid (radd_same (.inr HSX.o.symm) (.inl HSY.o.symm));go_wp2_with fail;refine (rsum_c _ _ _ _ (K+K) _ (kp.ext (g4.trans (g5.trans (g6.trans (g7.trans (g8.trans g9)))))) (kr.ext (g6.trans (g7.trans (g8.trans g9)))) SP.o SR.o (by have:=HK.o;omega)).mono ?_;rintro e w10 ⟨t10a,t10n,t10c,rfl,kt,g10⟩;have hb9:=hb8.trans g10;go_wp2_with fail;refine (rmade_c _ _ _ _ _ (K+K+1) _ H3Y.o kt (kq.ext g10) (SP.o.add SR.o) (SQ.o.mono (by omega)) (by have:=HK.o;omega) HP.o).mono ?_;rintro e w11 ⟨v,rfl,k9,g11⟩;have hb10:=hb9.trans g11;obtain ⟨s9,a9,n9,c9,a9',n9',c9',rfl⟩:=k9.shape;obtain ⟨U11,U12,U13⟩:=(HB_Z.o.ext hb10).f3;go_wp2_with fail;clear U11 U12 U13;obtain ⟨W12,hW12,g12,q12,B12,hy12,ho12⟩:=rsto3 (HE.o.trans hb10) (by omega) (HB_Z.o.ext hb10) (by decide) (.int .i64 s9) (.slice a9 n9 c9) (.slice a9' n9' c9');rw [←hW12];clear hW12;replace HB_Z:=hid B12;obtain ⟨J14,J15,J16⟩:=HB_Z.o.c3;refine bodyPost_ret (v:=.agg #[.int .i64 s9,.slice a9 n9 c9,.slice a9' n9' c9']) (by simp [results,Tryz.results61,go_sem,J14,J15,J16]) rfl ⟨_,rfl,by rw [←HV.o];exact (k9.keepR q12),g12⟩
 ·have hb1:(s1==0)=false:=beq_eq_false_iff_ne.2 h1
  by_cases h2:s2=0
  ·subst h2;have HV:Hid (mkRat (s1*((q.num.natAbs*r.den+r.num.natAbs*q.den:Nat):Int)) (q.den*r.den)=q+r):=hid (radd_same (.inl HSX.o.symm) (.inr HSY.o.symm));clear h1;go_wp2_with fail;refine (rsum_c _ _ _ _ (K+K) _ (kp.ext (g4.trans (g5.trans (g6.trans (g7.trans (g8.trans g9)))))) (kr.ext (g6.trans (g7.trans (g8.trans g9)))) SP.o SR.o (by have:=HK.o;omega)).mono ?_;rintro e w10 ⟨t10a,t10n,t10c,rfl,kt,g10⟩;have hb9:=hb8.trans g10;go_wp2_with fail;refine (rmade_c _ _ _ _ _ (K+K+1) _ H3X.o kt (kq.ext g10) (SP.o.add SR.o) (SQ.o.mono (by omega)) (by have:=HK.o;omega) HP.o).mono ?_;rintro e w11 ⟨v,rfl,k9,g11⟩;have hb10:=hb9.trans g11;obtain ⟨s9,a9,n9,c9,a9',n9',c9',rfl⟩:=k9.shape;obtain ⟨U11,U12,U13⟩:=(HB_Z.o.ext hb10).f3;go_wp2_with fail;clear U11 U12 U13;obtain ⟨W12,hW12,g12,q12,B12,hy12,ho12⟩:=rsto3 (HE.o.trans hb10) (by omega) (HB_Z.o.ext hb10) (by decide) (.int .i64 s9) (.slice a9 n9 c9) (.slice a9' n9' c9');rw [←hW12];clear hW12;replace HB_Z:=hid B12;obtain ⟨J14,J15,J16⟩:=HB_Z.o.c3;refine bodyPost_ret (v:=.agg #[.int .i64 s9,.slice a9 n9 c9,.slice a9' n9' c9']) (by simp [results,Tryz.results61,go_sem,J14,J15,J16]) rfl ⟨_,rfl,by rw [←HV.o];exact (k9.keepR q12),g12⟩
  ·have hb2:(s2==0)=false:=beq_eq_false_iff_ne.2 h2
   by_cases h3:s1=s2
   ·subst h3;have hb3:(s1==s1)=true:=by simp
    have HV:Hid (mkRat (s1*((q.num.natAbs*r.den+r.num.natAbs*q.den:Nat):Int)) (q.den*r.den)=q+r):=hid (radd_same (.inl HSX.o.symm) (.inl HSY.o.symm));clear h1 h2;go_wp2_with fail;refine (rsum_c _ _ _ _ (K+K) _ (kp.ext (g4.trans (g5.trans (g6.trans (g7.trans (g8.trans g9)))))) (kr.ext (g6.trans (g7.trans (g8.trans g9)))) SP.o SR.o (by have:=HK.o;omega)).mono ?_;rintro e w10 ⟨t10a,t10n,t10c,rfl,kt,g10⟩;have hb9:=hb8.trans g10;go_wp2_with fail;refine (rmade_c _ _ _ _ _ (K+K+1) _ H3X.o kt (kq.ext g10) (SP.o.add SR.o) (SQ.o.mono (by omega)) (by have:=HK.o;omega) HP.o).mono ?_;rintro e w11 ⟨v,rfl,k9,g11⟩;have hb10:=hb9.trans g11;obtain ⟨s9,a9,n9,c9,a9',n9',c9',rfl⟩:=k9.shape;obtain ⟨U11,U12,U13⟩:=(HB_Z.o.ext hb10).f3;go_wp2_with fail;clear U11 U12 U13;obtain ⟨W12,hW12,g12,q12,B12,hy12,ho12⟩:=rsto3 (HE.o.trans hb10) (by omega) (HB_Z.o.ext hb10) (by decide) (.int .i64 s9) (.slice a9 n9 c9) (.slice a9' n9' c9');rw [←hW12];clear hW12;replace HB_Z:=hid B12;obtain ⟨J14,J15,J16⟩:=HB_Z.o.c3;refine bodyPost_ret (v:=.agg #[.int .i64 s9,.slice a9 n9 c9,.slice a9' n9' c9']) (by simp [results,Tryz.results61,go_sem,J14,J15,J16]) rfl ⟨_,rfl,by rw [←HV.o];exact (k9.keepR q12),g12⟩
   ·have hb3:(s1==s2)=false:=beq_eq_false_iff_ne.2 h3;have HN:Hid (q.num.sign = - r.num.sign):=hid (sgn_ne (by rw [←HSX.o,←HSY.o];exact h3) (by rw [←HSX.o];exact h1) (by rw [←HSY.o];exact h2));clear h1 h2 h3;have CC:Hid (∀ w u v,RefV w u (q.num.natAbs*r.den)→RefV w v (r.num.natAbs*q.den)→Calls Tryz.prog 127 #[u,v] w fun e w'=>e=.returned (.int .i64 (cmpN (q.num.natAbs*r.den) (r.num.natAbs*q.den)))∧Ext w w'):=hid fun w u v h1 h2=>rcmp_c u v _ _ (K+K) w h1 h2 SP.o SR.o (by have:=HK.o;omega);obtain ⟨cc,hcc⟩:∃ c,c=cmpN (q.num.natAbs*r.den) (r.num.natAbs*q.den):=⟨_,rfl⟩;rw [←hcc] at CC
    rcases Nat.lt_or_ge (q.num.natAbs*r.den) (r.num.natAbs*q.den) with hl | hl
    ·have hd:decide (cc<0)=true:=decide_eq_true (by rw [hcc];exact cmpN_neg.2 hl);have HV:Hid (mkRat (s2*((r.num.natAbs*q.den-q.num.natAbs*r.den:Nat):Int)) (q.den*r.den)=q+r):=hid (by rw [HSY.o];exact radd_diff HN.o (Nat.le_of_lt hl));have HL:=hid (Nat.le_of_lt hl);clear hcc hl;go_wp2_with fail;refine (CC.o _ _ _ (kp.ext (g4.trans (g5.trans (g6.trans (g7.trans (g8.trans g9)))))) (kr.ext (g6.trans (g7.trans (g8.trans g9))))).mono ?_;rintro e w10 ⟨rfl,g10⟩;have hb9:=hb8.trans g10
     go_upto_region 9 with (fail)
     have kc:=(Box.bt (z:=w.heap.size+1+1) HB_Y.o (by omega) Box.n3);have g11:Ext w10 w10.drew:=Below.drew (Below.refl _ _);have hb10:=hb9.trans g11;refine wp_region_held_drew (S:=But W0 (w.heap.size+1+1)) (by kernel_rfl) (hb10.but) (fun hHeld => ?_);generalize w10.drew=wD11 at *
     apply wts 0 55 rfl rfl (by kernel_rfl) (fun _ _ _ h=>h) hHeld
     ·intro w' hSw;go_simp<;>with_reducible rfl
     apply wts 1 56 rfl rfl (by kernel_rfl) (fun _ _ _ h=>h) hHeld
     ·intro w' hSw;go_simp<;>with_reducible rfl
     apply wts 2 57 rfl rfl (by kernel_rfl) (fun _ _ _ h=>h) hHeld
     ·intro w' hSw;go_simp<;>with_reducible rfl
     apply wts 3 58 rfl rfl (by kernel_rfl) (fun _ _ _ h=>h) hHeld
     ·intro w' hSw;go_simp<;>with_reducible rfl
     apply wts 5 60 rfl rfl (by kernel_rfl) (fun _ _ _ h=>h) hHeld
     ·intro w' hSw;go_simp<;>with_reducible rfl
     try simp only [Act.put,pA,pB,pC]
     refine wonc 4 59 132 #[.tmp 57,.tmp 58] #[41,41] 41 (by kernel_rfl) rfl rfl (fun KK hKK => ?_);go_simp;refine (rdif_c _ _ _ _ (K+K) _ (kr.ext (g6.trans (g7.trans (g8.trans (g9.trans (g10.trans g11)))))) (kp.ext (g4.trans (g5.trans (g6.trans (g7.trans (g8.trans (g9.trans (g10.trans g11)))))))) SR.o (by have:=HK.o;omega) HL.o).mono ?_;rintro e w12 ⟨t12a,t12n,t12c,rfl,kt,g12⟩;have hb11:=hb10.trans g12
     try dsimp only
     refine hKK.out _ _ (hb11.but) (fun hHeld => ?_)
     try simp only [Act.put,pA,pB,pC]
     refine wonc 6 61 117 #[.tmp 56,.tmp 59,.tmp 60] #[3,41,41] 43 (by kernel_rfl) rfl rfl (fun KK hKK => ?_);go_simp;refine (rmade_c _ _ _ _ _ (K+K) _ H3Y.o kt (kq.ext (g10.trans (g11.trans g12))) (SR.o.of_le (Nat.sub_le _ _)) SQ.o (by have:=HK.o;omega) HP.o).mono ?_;rintro e w13 ⟨v,rfl,k9,g13⟩;have hb12:=hb11.trans g13;obtain ⟨s9,a9,n9,c9,a9',n9',c9',rfl⟩:=k9.shape
     try dsimp only
     refine hKK.out _ _ (hb12.but) (fun hHeld => ?_)
     try simp only [Act.put,pA,pB,pC]
     refine wons 7 43 4 61 (by kernel_rfl) rfl rfl (fun KK hKK => ?_);obtain ⟨U13,U14,U15⟩:=(HB_Z.o.ext hb12).f3;go_simp;clear U13 U14 U15;obtain ⟨W14,hW14,g14,q14,B14,hy14,ho14⟩:=rsto3 (HE.o.trans hb12) (by omega) (HB_Z.o.ext hb12) (by decide) (.int .i64 s9) (.slice a9 n9 c9) (.slice a9' n9' c9');rw [←hW14];clear hW14;replace HB_Z:=hid B14;have hq14:But W0 (w.heap.size+1+1) W14:=But.sto (hb12.but) ho14
     try dsimp only
     refine hKK.out _ _ (hq14) (fun hHeld => ?_);refine wpAnyH_done (by kernel_rfl) ?_ _;have ac:=cland (ho14 _ _ _ (by omega) (HB_X.o.ext (g1.trans (g2.trans (g3.trans (g4.trans (g5.trans (g6.trans (g7.trans (g8.trans (g9.trans (g10.trans (g11.trans (g12.trans g13)))))))))))))).a3 (cland (ho14 _ _ _ (by omega) (HB_Y.o.ext (g1.trans (g2.trans (g3.trans (g4.trans (g5.trans (g6.trans (g7.trans (g8.trans (g9.trans (g10.trans (g11.trans (g12.trans g13)))))))))))))).a3 (HB_Z.o.a3));have hr16:Ext W14 W14:=Below.refl _ _;go_wp2_with fail;obtain ⟨J17,J18,J19⟩:=HB_Z.o.c3;refine bodyPost_ret (v:=.agg #[.int .i64 s9,.slice a9 n9 c9,.slice a9' n9' c9']) (by simp [results,Tryz.results61,go_sem,J17,J18,J19]) rfl ⟨_,rfl,by rw [←HV.o];exact (k9.keepR q14),g14⟩
    ·have hd:decide (cc<0)=false:=decide_eq_false (by rw [hcc];exact fun e=>absurd (cmpN_neg.1 e) (by omega));have HV:Hid (mkRat (s1*((q.num.natAbs*r.den-r.num.natAbs*q.den:Nat):Int)) (q.den*r.den)=q+r):=hid (by rw [HSX.o];exact radd_diff' HN.o hl);have HL:=hid hl;clear hcc hl;go_wp2_with fail;refine (CC.o _ _ _ (kp.ext (g4.trans (g5.trans (g6.trans (g7.trans (g8.trans g9)))))) (kr.ext (g6.trans (g7.trans (g8.trans g9))))).mono ?_;rintro e w10 ⟨rfl,g10⟩;have hb9:=hb8.trans g10
     go_upto_region 10 with (fail)
     have kc:=(Box.bt (z:=w.heap.size+1+1) HB_X.o (by omega) Box.n3);have g11:Ext w10 w10.drew:=Below.drew (Below.refl _ _);have hb10:=hb9.trans g11;refine wp_region_held_drew (S:=But W0 (w.heap.size+1+1)) (by kernel_rfl) (hb10.but) (fun hHeld => ?_);generalize w10.drew=wD11 at *
     apply wts 0 62 rfl rfl (by kernel_rfl) (fun _ _ _ h=>h) hHeld
     ·intro w' hSw;go_simp<;>with_reducible rfl
     apply wts 1 63 rfl rfl (by kernel_rfl) (fun _ _ _ h=>h) hHeld
     ·intro w' hSw;go_simp<;>with_reducible rfl
     apply wts 2 64 rfl rfl (by kernel_rfl) (fun _ _ _ h=>h) hHeld
     ·intro w' hSw;go_simp<;>with_reducible rfl
     apply wts 3 65 rfl rfl (by kernel_rfl) (fun _ _ _ h=>h) hHeld
     ·intro w' hSw;go_simp<;>with_reducible rfl
     apply wts 5 67 rfl rfl (by kernel_rfl) (fun _ _ _ h=>h) hHeld
     ·intro w' hSw;go_simp<;>with_reducible rfl
     try simp only [Act.put,pA,pB,pC]
     refine wonc 4 66 132 #[.tmp 64,.tmp 65] #[41,41] 41 (by kernel_rfl) rfl rfl (fun KK hKK => ?_);go_simp;refine (rdif_c _ _ _ _ (K+K) _ (kp.ext (g4.trans (g5.trans (g6.trans (g7.trans (g8.trans (g9.trans (g10.trans g11)))))))) (kr.ext (g6.trans (g7.trans (g8.trans (g9.trans (g10.trans g11)))))) SP.o (by have:=HK.o;omega) HL.o).mono ?_;rintro e w12 ⟨t12a,t12n,t12c,rfl,kt,g12⟩;have hb11:=hb10.trans g12
     try dsimp only
     refine hKK.out _ _ (hb11.but) (fun hHeld => ?_)
     try simp only [Act.put,pA,pB,pC]
     refine wonc 6 68 117 #[.tmp 63,.tmp 66,.tmp 67] #[3,41,41] 43 (by kernel_rfl) rfl rfl (fun KK hKK => ?_);go_simp;refine (rmade_c _ _ _ _ _ (K+K) _ H3X.o kt (kq.ext (g10.trans (g11.trans g12))) (SP.o.of_le (Nat.sub_le _ _)) SQ.o (by have:=HK.o;omega) HP.o).mono ?_;rintro e w13 ⟨v,rfl,k9,g13⟩;have hb12:=hb11.trans g13;obtain ⟨s9,a9,n9,c9,a9',n9',c9',rfl⟩:=k9.shape
     try dsimp only
     refine hKK.out _ _ (hb12.but) (fun hHeld => ?_)
     try simp only [Act.put,pA,pB,pC]
     refine wons 7 43 4 68 (by kernel_rfl) rfl rfl (fun KK hKK => ?_);obtain ⟨U13,U14,U15⟩:=(HB_Z.o.ext hb12).f3;go_simp;clear U13 U14 U15;obtain ⟨W14,hW14,g14,q14,B14,hy14,ho14⟩:=rsto3 (HE.o.trans hb12) (by omega) (HB_Z.o.ext hb12) (by decide) (.int .i64 s9) (.slice a9 n9 c9) (.slice a9' n9' c9');rw [←hW14];clear hW14;replace HB_Z:=hid B14;have hq14:But W0 (w.heap.size+1+1) W14:=But.sto (hb12.but) ho14
     try dsimp only
     refine hKK.out _ _ (hq14) (fun hHeld => ?_);refine wpAnyH_done (by kernel_rfl) ?_ _;have ac:=cland (ho14 _ _ _ (by omega) (HB_X.o.ext (g1.trans (g2.trans (g3.trans (g4.trans (g5.trans (g6.trans (g7.trans (g8.trans (g9.trans (g10.trans (g11.trans (g12.trans g13)))))))))))))).a3 (cland (ho14 _ _ _ (by omega) (HB_Y.o.ext (g1.trans (g2.trans (g3.trans (g4.trans (g5.trans (g6.trans (g7.trans (g8.trans (g9.trans (g10.trans (g11.trans (g12.trans g13)))))))))))))).a3 (HB_Z.o.a3));have hr16:Ext W14 W14:=Below.refl _ _;go_wp2_with fail;obtain ⟨J17,J18,J19⟩:=HB_Z.o.c3;refine bodyPost_ret (v:=.agg #[.int .i64 s9,.slice a9 n9 c9,.slice a9' n9' c9']) (by simp [results,Tryz.results61,go_sem,J17,J18,J19]) rfl ⟨_,rfl,by rw [←HV.o];exact (k9.keepR q14),g14⟩
theorem rsubq_c (x y:Value) (q r:Rat) (K:Nat) (w:World) (hx:RNumV w x q) (hy:RNumV w y r) (sx:SmQ K q) (sy:SmQ K r) (hK:K≤10000000) :
  Calls Tryz.prog 89 #[x,y] w fun e w'=>∃ v,e=.returned v∧RNumV w' v (q-r)∧Ext w w':=by
 obtain ⟨s1,a1,n1,c1,a1',n1',c1',rfl⟩:=hx.shape;obtain ⟨s2,a2,n2,c2,a2',n2',c2',rfl⟩:=hy.shape;have hvx:=hx;have hvy:=hy;have SX:=hid sx;have SY:=hid sy;have HK:=hid hK;clear hx hy sx sy hK;obtain ⟨W0,hW0,g0,hz0,B_X,B_Y,B_Z⟩:=pro3s w #[.int .i64 s1,.slice a1 n1 c1,.slice a1' n1' c1'] #[.int .i64 s2,.slice a2 n2 c2,.slice a2' n2' c2'] #[.int .i64 0,.slice none 0 0,.slice none 0 0] 43 43 43;have HE:=hid g0;have HB_X:=hid B_X;have HB_Y:=hid B_Y;have HB_Z:=hid B_Z;have ac:=cland HB_X.o.a3 (cland HB_Y.o.a3 (HB_Z.o.a3));have hr0:Ext W0 W0:=Below.refl _ _;clear g0 B_X B_Y B_Z 
 go_enter Tryz.func89,Tryz.ntmps89
 go_upto_region 1 with (fail)
 rw [←hW0];clear hW0;replace hvx:=hvx.ext HE.o;replace hvy:=hvy.ext HE.o;have kc:=cland (Box.bt (z:=w.heap.size+1+1) HB_X.o (by omega) Box.n3) ((Box.bt (z:=w.heap.size+1+1) HB_Y.o (by omega) Box.n3));have g1:Ext W0 W0.drew:=Below.drew (Below.refl _ _);refine wp_region_held_drew (S:=But W0 (w.heap.size+1+1)) (by kernel_rfl) (g1.but) (fun hHeld => ?_);generalize W0.drew=wD1 at *
 apply wts 0 5 rfl rfl (by kernel_rfl) (fun _ _ _ h=>h) hHeld
 ·intro w' hSw;go_simp<;>with_reducible rfl
 apply wts 1 6 rfl rfl (by kernel_rfl) (fun _ _ _ h=>h) hHeld
 ·intro w' hSw;go_simp<;>with_reducible rfl
 try simp only [Act.put,pA,pB,pC]
 refine wonc 2 7 149 #[.tmp 6] #[43] 43 (by kernel_rfl) rfl rfl (fun KK hKK => ?_);go_simp;refine (rneg_c _ r _ (hvy.ext g1)).mono ?_;rintro e w2 ⟨v2,rfl,k1,g2⟩;have hb1:=g1.trans g2
 try dsimp only
 refine hKK.out _ _ (hb1.but) (fun hHeld => ?_)
 try simp only [Act.put,pA,pB,pC]
 refine wonc 3 8 61 #[.tmp 5,.tmp 7] #[43,43] 43 (by kernel_rfl) rfl rfl (fun KK hKK => ?_);go_simp;refine (raddq_c _ _ q (-r) K _ (hvx.ext hb1) k1 SX.o SY.o.neg HK.o).mono ?_;rintro e w3 ⟨v,rfl,k9,g3⟩;have hb2:=hb1.trans g3;obtain ⟨s9,a9,n9,c9,a9',n9',c9',rfl⟩:=k9.shape
 try dsimp only
 refine hKK.out _ _ (hb2.but) (fun hHeld => ?_)
 try simp only [Act.put,pA,pB,pC]
 refine wons 4 43 4 8 (by kernel_rfl) rfl rfl (fun KK hKK => ?_);obtain ⟨U3,U4,U5⟩:=(HB_Z.o.ext hb2).f3;go_simp;clear U3 U4 U5;obtain ⟨W4,hW4,g4,q4,B4,hy4,ho4⟩:=rsto3 (HE.o.trans hb2) (by omega) (HB_Z.o.ext hb2) (by decide) (.int .i64 s9) (.slice a9 n9 c9) (.slice a9' n9' c9');rw [←hW4];clear hW4;replace HB_Z:=hid B4;have hq4:But W0 (w.heap.size+1+1) W4:=But.sto (hb2.but) ho4
 try dsimp only
 refine hKK.out _ _ (hq4) (fun hHeld => ?_);refine wpAnyH_done (by kernel_rfl) ?_ _;have ac:=cland (ho4 _ _ _ (by omega) (HB_X.o.ext (g1.trans (g2.trans g3)))).a3 (cland (ho4 _ _ _ (by omega) (HB_Y.o.ext (g1.trans (g2.trans g3)))).a3 (HB_Z.o.a3));have hr6:Ext W4 W4:=Below.refl _ _;go_wp2_with fail;obtain ⟨J7,J8,J9⟩:=HB_Z.o.c3;refine bodyPost_ret (v:=.agg #[.int .i64 s9,.slice a9 n9 c9,.slice a9' n9' c9']) (by simp [results,Tryz.results89,go_sem,J7,J8,J9]) rfl ⟨_,rfl,by rw [Rat.sub_eq_add_neg];exact (k9.keepR q4),g4⟩
theorem rshiftq_c (x:Value) (q:Rat) (K:Nat) (k:Int) (w:World) (hx:RNumV w x q) (sx:SmQ K q) (h0 : -1000000≤k) (h1:k≤1000000) (hK:K≤10000000) :
  Calls Tryz.prog 125 #[x,.int .i64 k] w fun e w'=>∃ v,e=.returned v∧RNumV w' v (q*(2:Rat)^k)∧Ext w w':=by
 obtain ⟨s1,a1,n1,c1,a1',n1',c1',rfl⟩:=hx.shape;have hvx:=hx;have SX:=hid sx;have HK:=hid hK;have HSX:Hid (s1=q.num.sign):=hid hx.sign;have H3X:Hid (s1=1∨s1 = -1∨s1=0):=hid (by rw [hx.sign];exact sgn3 q);clear hx sx hK;obtain ⟨W0,hW0,g0,hz0,B_X,B_Z⟩:=pro2s w #[.int .i64 s1,.slice a1 n1 c1,.slice a1' n1' c1'] #[.int .i64 0,.slice none 0 0,.slice none 0 0] 43 43;have HE:=hid g0;have HB_X:=hid B_X;have HB_Z:=hid B_Z;have ac:=cland HB_X.o.a3 (HB_Z.o.a3);have hr0:Ext W0 W0:=Below.refl _ _;clear g0 B_X B_Z 
 go_enter Tryz.func125,Tryz.ntmps125
 go_upto_region 1 with (fail)
 rw [←hW0];clear hW0;replace hvx:=hvx.ext HE.o;have hpx:=hvx.top
 rcases Int.lt_or_le k 0 with hk | hk
 ·have hd:decide (k<0)=true:=decide_eq_true hk;obtain ⟨n,hn⟩:∃ n:Nat,k = -(n:Int):=⟨k.natAbs,by omega⟩;have hn1:n≤1000000:=by omega
  have hkn : -k=(n:Int):=by omega
  have HV:Hid (mkRat (s1*(q.num.natAbs:Int)) (q.den*2^n)=q*(2:Rat)^k):=hid (by rw [HSX.o,rshift_down,hn]);have HKN:=hid hkn;have hwk:IntKind.i64.wrap (-k) = -k:=IntWalk.i64_in _ (by omega);clear hk hn;have HPW:Hid (∀ w,Calls Tryz.prog 175 #[.int .i64 (-k)] w fun e w'=>∃ a k' c,e=.returned (.slice a k' c)∧Hid (RefV w' (.slice a k' c) (2^n))∧Ext w w'):=hid fun w=>by
   rw [hkn];exact rpower_c n w (by omega)
  clear hkn
  go_upto_region 2 with (fail)
  have kc:=(Box.bt (z:=w.heap.size+1) HB_X.o (by omega) Box.n3);have g1:Ext W0 W0.drew:=Below.drew (Below.refl _ _);refine wp_region_held_drew (S:=But W0 (w.heap.size+1)) (by kernel_rfl) (g1.but) (fun hHeld => ?_);generalize W0.drew=wD1 at *
  apply wts 0 7 rfl rfl (by kernel_rfl) (fun _ _ _ h=>h) hHeld
  ·intro w' hSw;go_simp<;>with_reducible rfl
  apply wts 1 8 rfl rfl (by kernel_rfl) (fun _ _ _ h=>h) hHeld
  ·intro w' hSw;go_simp<;>with_reducible rfl
  apply wts 2 9 rfl rfl (by kernel_rfl) (fun _ _ _ h=>h) hHeld
  ·intro w' hSw;go_simp<;>with_reducible rfl
  apply wts 3 10 rfl rfl (by kernel_rfl) (fun _ _ _ h=>h) hHeld
  ·intro w' hSw;go_simp<;>with_reducible rfl
  apply wts 4 11 rfl rfl (by kernel_rfl) (fun _ _ _ h=>h) hHeld
  ·intro w' hSw;go_simp<;>with_reducible rfl
  apply wts 6 13 rfl rfl (by kernel_rfl) (fun _ _ _ h=>h) hHeld
  ·intro w' hSw;go_simp<;>with_reducible rfl
  apply wts 7 14 rfl rfl (by kernel_rfl) (fun _ _ _ h=>h) hHeld
  ·intro w' hSw;go_simp<;>with_reducible rfl
  try simp only [Act.put,pA,pB,pC]
  refine wonc 5 12 128 #[.tmp 11] #[43] 41 (by kernel_rfl) rfl rfl (fun KK hKK => ?_);go_simp;refine (rbottom_c _ q _ (hvx.ext g1)).mono ?_;rintro e w2 ⟨d2a,d2n,d2c,rfl,k1,g2⟩;have hb1:=g1.trans g2
  try dsimp only
  refine hKK.out _ _ (hb1.but) (fun hHeld => ?_)
  try simp only [Act.put,pA,pB,pC]
  refine wonc 8 15 175 #[.tmp 14] #[3] 41 (by kernel_rfl) rfl rfl (fun KK hKK => ?_);go_simp;refine (HPW.o _).mono ?_;rintro e w3 ⟨d3a,d3n,d3c,rfl,k3h,g3⟩;have hb2:=hb1.trans g3;have k3:=k3h.o;clear k3h
  try dsimp only
  refine hKK.out _ _ (hb2.but) (fun hHeld => ?_)
  try simp only [Act.put,pA,pB,pC]
  refine wonc 9 16 130 #[.tmp 12,.tmp 15] #[41,41] 41 (by kernel_rfl) rfl rfl (fun KK hKK => ?_);go_simp;refine (rmul_c _ _ _ _ (K+n+1) _ (k1.ext g3) k3 (SX.o.2.mono (by omega)) (Nat.pow_lt_pow_right (by decide) (by omega)) (by have:=HK.o;omega)).mono ?_;rintro e w4 ⟨p4a,p4n,p4c,rfl,kp,g4⟩;have hb3:=hb2.trans g4
  try dsimp only
  refine hKK.out _ _ (hb3.but) (fun hHeld => ?_)
  try simp only [Act.put,pA,pB,pC]
  refine wonc 10 17 117 #[.tmp 8,.tmp 10,.tmp 16] #[3,41,41] 43 (by kernel_rfl) rfl rfl (fun KK hKK => ?_);go_simp;refine (rmade_c _ _ _ _ _ (K+n+n) _ H3X.o (hpx.ext hb3) kp (SX.o.1.mono (by omega)) (SX.o.2.pow.mono (by omega)) (by have:=HK.o;omega) (Nat.mul_pos (den_pos q) (Nat.pow_pos (by decide)))).mono ?_;rintro e w5 ⟨v,rfl,k9,g5⟩;have hb4:=hb3.trans g5;obtain ⟨s9,a9,n9,c9,a9',n9',c9',rfl⟩:=k9.shape
  try dsimp only
  refine hKK.out _ _ (hb4.but) (fun hHeld => ?_)
  try simp only [Act.put,pA,pB,pC]
  refine wons 11 43 4 17 (by kernel_rfl) rfl rfl (fun KK hKK => ?_);obtain ⟨U5,U6,U7⟩:=(HB_Z.o.ext hb4).f3;go_simp;clear U5 U6 U7;obtain ⟨W6,hW6,g6,q6,B6,hy6,ho6⟩:=rsto3 (HE.o.trans hb4) (by omega) (HB_Z.o.ext hb4) (by decide) (.int .i64 s9) (.slice a9 n9 c9) (.slice a9' n9' c9');rw [←hW6];clear hW6;replace HB_Z:=hid B6;have hq6:But W0 (w.heap.size+1) W6:=But.sto (hb4.but) ho6
  try dsimp only
  refine hKK.out _ _ (hq6) (fun hHeld => ?_);refine wpAnyH_done (by kernel_rfl) ?_ _;have ac:=cland (ho6 _ _ _ (by omega) (HB_X.o.ext (g1.trans (g2.trans (g3.trans (g4.trans g5)))))).a3 (HB_Z.o.a3);have hr8:Ext W6 W6:=Below.refl _ _;go_wp2_with fail;obtain ⟨J9,J10,J11⟩:=HB_Z.o.c3;refine bodyPost_ret (v:=.agg #[.int .i64 s9,.slice a9 n9 c9,.slice a9' n9' c9']) (by simp [results,Tryz.results125,go_sem,J9,J10,J11]) rfl ⟨_,rfl,by rw [←HV.o];exact (k9.keepR q6),g6⟩
 ·have hd:decide (k<0)=false:=decide_eq_false (by omega);obtain ⟨n,rfl⟩:∃ n:Nat,k=(n:Int):=⟨k.natAbs,by omega⟩;have hn1:n≤1000000:=by omega
  have HV:Hid (mkRat (s1*((q.num.natAbs*2^n:Nat):Int)) q.den=q*(2:Rat)^(n:Int)):=hid (by rw [HSX.o,rshift_up]);clear hk h0 h1
  go_upto_region 3 with (fail)
  have kc:=(Box.bt (z:=w.heap.size+1) HB_X.o (by omega) Box.n3);have g1:Ext W0 W0.drew:=Below.drew (Below.refl _ _);refine wp_region_held_drew (S:=But W0 (w.heap.size+1)) (by kernel_rfl) (g1.but) (fun hHeld => ?_);generalize W0.drew=wD1 at *
  apply wts 0 18 rfl rfl (by kernel_rfl) (fun _ _ _ h=>h) hHeld
  ·intro w' hSw;go_simp<;>with_reducible rfl
  apply wts 1 19 rfl rfl (by kernel_rfl) (fun _ _ _ h=>h) hHeld
  ·intro w' hSw;go_simp<;>with_reducible rfl
  apply wts 2 20 rfl rfl (by kernel_rfl) (fun _ _ _ h=>h) hHeld
  ·intro w' hSw;go_simp<;>with_reducible rfl
  apply wts 3 21 rfl rfl (by kernel_rfl) (fun _ _ _ h=>h) hHeld
  ·intro w' hSw;go_simp<;>with_reducible rfl
  apply wts 4 22 rfl rfl (by kernel_rfl) (fun _ _ _ h=>h) hHeld
  ·intro w' hSw;go_simp<;>with_reducible rfl
  apply wts 7 25 rfl rfl (by kernel_rfl) (fun _ _ _ h=>h) hHeld
  ·intro w' hSw;go_simp<;>with_reducible rfl
  try simp only [Act.put,pA,pB,pC]
  refine wonc 5 23 175 #[.tmp 22] #[3] 41 (by kernel_rfl) rfl rfl (fun KK hKK => ?_);go_simp;refine (rpower_c n _ (by omega)).mono ?_;rintro e w2 ⟨d2a,d2n,d2c,rfl,k3h,g2⟩;have hb1:=g1.trans g2;have k3:=k3h.o;clear k3h
  try dsimp only
  refine hKK.out _ _ (hb1.but) (fun hHeld => ?_)
  try simp only [Act.put,pA,pB,pC]
  refine wonc 6 24 130 #[.tmp 21,.tmp 23] #[41,41] 41 (by kernel_rfl) rfl rfl (fun KK hKK => ?_);go_simp;refine (rmul_c _ _ _ _ (K+n+1) _ (hpx.ext hb1) k3 (SX.o.1.mono (by omega)) (Nat.pow_lt_pow_right (by decide) (by omega)) (by have:=HK.o;omega)).mono ?_;rintro e w3 ⟨p3a,p3n,p3c,rfl,kp,g3⟩;have hb2:=hb1.trans g3
  try dsimp only
  refine hKK.out _ _ (hb2.but) (fun hHeld => ?_)
  try simp only [Act.put,pA,pB,pC]
  refine wonc 8 26 128 #[.tmp 25] #[43] 41 (by kernel_rfl) rfl rfl (fun KK hKK => ?_);go_simp;refine (rbottom_c _ q _ (hvx.ext hb2)).mono ?_;rintro e w4 ⟨d4a,d4n,d4c,rfl,k1,g4⟩;have hb3:=hb2.trans g4
  try dsimp only
  refine hKK.out _ _ (hb3.but) (fun hHeld => ?_)
  try simp only [Act.put,pA,pB,pC]
  refine wonc 9 27 117 #[.tmp 19,.tmp 24,.tmp 26] #[3,41,41] 43 (by kernel_rfl) rfl rfl (fun KK hKK => ?_);go_simp;refine (rmade_c _ _ _ _ _ (K+n+n) _ H3X.o (kp.ext g4) k1 (SX.o.1.pow.mono (by omega)) (SX.o.2.mono (by omega)) (by have:=HK.o;omega) (den_pos q)).mono ?_;rintro e w5 ⟨v,rfl,k9,g5⟩;have hb4:=hb3.trans g5;obtain ⟨s9,a9,n9,c9,a9',n9',c9',rfl⟩:=k9.shape
  try dsimp only
  refine hKK.out _ _ (hb4.but) (fun hHeld => ?_)
  try simp only [Act.put,pA,pB,pC]
  refine wons 10 43 4 27 (by kernel_rfl) rfl rfl (fun KK hKK => ?_);obtain ⟨U5,U6,U7⟩:=(HB_Z.o.ext hb4).f3;go_simp;clear U5 U6 U7;obtain ⟨W6,hW6,g6,q6,B6,hy6,ho6⟩:=rsto3 (HE.o.trans hb4) (by omega) (HB_Z.o.ext hb4) (by decide) (.int .i64 s9) (.slice a9 n9 c9) (.slice a9' n9' c9');rw [←hW6];clear hW6;replace HB_Z:=hid B6;have hq6:But W0 (w.heap.size+1) W6:=But.sto (hb4.but) ho6
  try dsimp only
  refine hKK.out _ _ (hq6) (fun hHeld => ?_);refine wpAnyH_done (by kernel_rfl) ?_ _;have ac:=cland (ho6 _ _ _ (by omega) (HB_X.o.ext (g1.trans (g2.trans (g3.trans (g4.trans g5)))))).a3 (HB_Z.o.a3);have hr8:Ext W6 W6:=Below.refl _ _;go_wp2_with fail;obtain ⟨J9,J10,J11⟩:=HB_Z.o.c3;refine bodyPost_ret (v:=.agg #[.int .i64 s9,.slice a9 n9 c9,.slice a9' n9' c9']) (by simp [results,Tryz.results125,go_sem,J9,J10,J11]) rfl ⟨_,rfl,by rw [←HV.o];exact (k9.keepR q6),g6⟩
theorem rint_value (n:Int):mkRat ((if n<0 then -1 else 1)*(n.natAbs:Int)) 1=(n:Rat):=by
 have e:(if n<0 then -1 else 1)*(n.natAbs:Int)=n:=by split<;>omega
 rw [e]
 have:=Rat.mkRat_self (n:Rat)
 rw [Rat.num_intCast,Rat.den_intCast] at this
 exact this
theorem rint_c (n:Int) (w:World) (h0 : -9223372036854775808≤n) (h1:n<9223372036854775808) :
  Calls Tryz.prog 86 #[.int .i64 n] w fun e w'=>∃ v,e=.returned v∧RNumV w' v (n:Rat)∧Ext w w':=by
 have H0:=hid h0;have H1:=hid h1;have HV:=hid (rint_value n);clear h0 h1;obtain ⟨W0,hW0,g0,hz0,B_Z⟩:=pro1 w #[.int .i64 0,.slice none 0 0,.slice none 0 0] 43;have HE:=hid g0;have HB_Z:=hid B_Z;have ac:=HB_Z.o.a3;have hr0:Ext W0 W0:=Below.refl _ _;clear g0 B_Z 
 go_enter Tryz.func86,Tryz.ntmps86
 go_upto_region 1 with (fail)
 rw [←hW0];clear hW0
 by_cases hn:n<0
 ·have hd:decide (n<0)=true:=decide_eq_true hn;rw [if_pos hn] at HV;have HN:=hid hn;clear hn;go_wp2_with fail;refine (rnatural_i _ n.natAbs _ (by have:=H0.o;have:=H1.o;have:=HN.o;simp only [w64,w64r (n+1) (by omega),w64r (-(n+1)) (by omega)];omega) (by have:=H0.o;have:=H1.o;omega)).mono ?_;rintro e w1 ⟨t1a,t1n,t1c,rfl,k1,g1⟩;go_wp2_with fail;refine (rone_c _).mono ?_;rintro e w2 ⟨o2a,o2n,o2c,rfl,k2,g2⟩;have hb1:=g1.trans g2;go_wp2_with fail;refine (rmade_c _ _ _ n.natAbs 1 64 _ (by decide) (k1.ext g2) k2 (show n.natAbs<2^64 by have:=H0.o;have:=H1.o;omega) (show 1<2^64 by decide) (by decide) (by decide)).mono ?_;rintro e w3 ⟨v,rfl,k9,g3⟩;have hb2:=hb1.trans g3;obtain ⟨s9,a9,n9,c9,a9',n9',c9',rfl⟩:=k9.shape;obtain ⟨U3,U4,U5⟩:=(HB_Z.o.ext hb2).f3;go_wp2_with fail;clear U3 U4 U5;obtain ⟨W4,hW4,g4,q4,B4,hy4,ho4⟩:=rsto3 (HE.o.trans hb2) (by omega) (HB_Z.o.ext hb2) (by decide) (.int .i64 s9) (.slice a9 n9 c9) (.slice a9' n9' c9');rw [←hW4];clear hW4;replace HB_Z:=hid B4;obtain ⟨J6,J7,J8⟩:=HB_Z.o.c3;refine bodyPost_ret (v:=.agg #[.int .i64 s9,.slice a9 n9 c9,.slice a9' n9' c9']) (by simp [results,Tryz.results86,go_sem,J6,J7,J8]) rfl ⟨_,rfl,by rw [←HV.o];exact (k9.keepR q4),g4⟩
 ·have hd:decide (n<0)=false:=decide_eq_false hn;rw [if_neg hn] at HV;have HN:=hid hn;clear hn;go_wp2_with fail;refine (rnatural_i _ n.natAbs _ (by have:=H0.o;have:=H1.o;have:=HN.o;simp only [w64];omega) (by have:=H0.o;have:=H1.o;omega)).mono ?_;rintro e w1 ⟨t1a,t1n,t1c,rfl,k1,g1⟩;go_wp2_with fail;refine (rone_c _).mono ?_;rintro e w2 ⟨o2a,o2n,o2c,rfl,k2,g2⟩;have hb1:=g1.trans g2;go_wp2_with fail;refine (rmade_c _ _ _ n.natAbs 1 64 _ (by decide) (k1.ext g2) k2 (show n.natAbs<2^64 by have:=H0.o;have:=H1.o;omega) (show 1<2^64 by decide) (by decide) (by decide)).mono ?_;rintro e w3 ⟨v,rfl,k9,g3⟩;have hb2:=hb1.trans g3;obtain ⟨s9,a9,n9,c9,a9',n9',c9',rfl⟩:=k9.shape;obtain ⟨U3,U4,U5⟩:=(HB_Z.o.ext hb2).f3;go_wp2_with fail;clear U3 U4 U5;obtain ⟨W4,hW4,g4,q4,B4,hy4,ho4⟩:=rsto3 (HE.o.trans hb2) (by omega) (HB_Z.o.ext hb2) (by decide) (.int .i64 s9) (.slice a9 n9 c9) (.slice a9' n9' c9');rw [←hW4];clear hW4;replace HB_Z:=hid B4;obtain ⟨J6,J7,J8⟩:=HB_Z.o.c3;refine bodyPost_ret (v:=.agg #[.int .i64 s9,.slice a9 n9 c9,.slice a9' n9' c9']) (by simp [results,Tryz.results86,go_sem,J6,J7,J8]) rfl ⟨_,rfl,by rw [←HV.o];exact (k9.keepR q4),g4⟩
theorem rtwo_c (k:Int) (w:World) (h0 : -1000000≤k) (h1:k≤1000000) :
  Calls Tryz.prog 60 #[.int .i64 k] w fun e w'=>∃ v,e=.returned v∧RNumV w' v ((2:Rat)^k)∧Ext w w':=by
 obtain ⟨W0,hW0,g0,hz0,B_Z⟩:=pro1 w #[.int .i64 0,.slice none 0 0,.slice none 0 0] 43;have HE:=hid g0;have HB_Z:=hid B_Z;have ac:=HB_Z.o.a3;have hr0:Ext W0 W0:=Below.refl _ _;clear g0 B_Z 
 go_enter Tryz.func60,Tryz.ntmps60
 go_upto_region 1 with (fail)
 rw [←hW0];clear hW0;go_wp2_with fail;refine (rint_c 1 _ (by decide) (by decide)).mono ?_;rintro e w1 ⟨v1,rfl,k1,g1⟩;go_wp2_with fail;refine (rshiftq_c _ _ 2 k _ k1 (SmQ.int (by decide) (by decide)) h0 h1 (by decide)).mono ?_;rintro e w2 ⟨v,rfl,k9,g2⟩;have hb1:=g1.trans g2;obtain ⟨s9,a9,n9,c9,a9',n9',c9',rfl⟩:=k9.shape;obtain ⟨U2,U3,U4⟩:=(HB_Z.o.ext hb1).f3;go_wp2_with fail;clear U2 U3 U4;obtain ⟨W3,hW3,g3,q3,B3,hy3,ho3⟩:=rsto3 (HE.o.trans hb1) (by omega) (HB_Z.o.ext hb1) (by decide) (.int .i64 s9) (.slice a9 n9 c9) (.slice a9' n9' c9');rw [←hW3];clear hW3;replace HB_Z:=hid B3;obtain ⟨J5,J6,J7⟩:=HB_Z.o.c3;refine bodyPost_ret (v:=.agg #[.int .i64 s9,.slice a9 n9 c9,.slice a9' n9' c9']) (by simp [results,Tryz.results60,go_sem,J5,J6,J7]) rfl ⟨_,rfl,(k9.keepR q3).same (by rw [show ((1:Int):Rat)=1 from rfl,Rat.one_mul]),g3⟩
theorem rfloor_pos (q:Rat) (h:0≤q.num):mkRat (q.num.sign*((q.num.natAbs/q.den:Nat):Int)) 1=((q.floor:Int):Rat):=by
 rw [←floor_pos q (by omega)]
 rcases sgn3 q with k | k | k
 ·rw [mkRat_sgn (by rw [k];decide),k,sg_dec1 k];rfl
 ·rw [mkRat_sgn (by rw [k];decide),k,sg_dec2 k];rfl
 ·have h0:=Int.sign_eq_zero_iff_zero.1 k;rw [k,Int.zero_mul,Rat.zero_mkRat,h0];simp only [Int.natAbs_zero,Nat.zero_div,mkq_zero]
theorem rfloor_neg (q:Rat) (h:q.num<0) (k:Nat) (hk:k=q.num.natAbs/q.den+if q.num.natAbs%q.den=0 then 0 else 1):mkRat (q.num.sign*(k:Int)) 1=((q.floor:Int):Rat):=by
 rw [←floor_neg q h k hk];have hs:q.num.sign = -1:=Int.sign_eq_neg_one_of_neg h;rw [mkRat_sgn (by rw [hs];decide),hs,sg_dec2 hs];rfl
theorem rfloor_c (x:Value) (q:Rat) (K:Nat) (w:World) (hx:RNumV w x q) (sx:SmQ K q) (hK:K≤10000000) :
  Calls Tryz.prog 186 #[x] w fun e w'=>∃ v,e=.returned v∧RNumV w' v ((q.floor:Int):Rat)∧Ext w w':=by
 obtain ⟨s1,a1,n1,c1,a1',n1',c1',rfl⟩:=hx.shape;have hvx:=hx;have SX:=hid sx;have HK:=hid hK;have HSX:Hid (s1=q.num.sign):=hid hx.sign;have H3X:Hid (s1=1∨s1 = -1∨s1=0):=hid (by rw [hx.sign];exact sgn3 q);have S1:Hid (Sm (K+1) 1):=hid (Nat.lt_of_lt_of_le (by decide:1<2^1) (Nat.pow_le_pow_right (by decide) (by omega)));obtain ⟨D,hD⟩:∃ D,D=q.num.natAbs/q.den:=⟨_,rfl⟩;obtain ⟨R,hR⟩:∃ R,R=q.num.natAbs%q.den:=⟨_,rfl⟩;have CD:Hid (∀ w u v,RefV w u q.num.natAbs→RefV w v q.den→Calls Tryz.prog 169 #[u,v] w fun e w'=>∃ a k cap a' k' cap',e=.returned (.tuple #[.slice a k cap,.slice a' k' cap'])∧RefV w' (.slice a k cap) D∧RefV w' (.slice a' k' cap') R∧Ext w w'):=hid fun w u v h1 h2=>by
  rw [hD,hR];exact rdiv_c u v _ _ K w h1 h2 SX.o.1 SX.o.2 (by have:=HK.o;omega) (den_pos q)
 have SD:Hid (Sm (K+1) D):=hid (by rw [hD];exact (SX.o.1.mono (by omega)).of_le (Nat.div_le_self _ _));have HD:=hid hD;have HR:=hid hR;clear hx sx hK hD hR;obtain ⟨W0,hW0,g0,hz0,B_X,B_Z⟩:=pro2s w #[.int .i64 s1,.slice a1 n1 c1,.slice a1' n1' c1'] #[.int .i64 0,.slice none 0 0,.slice none 0 0] 43 43;have HE:=hid g0;have HB_X:=hid B_X;have HB_Z:=hid B_Z;have ac:=cland HB_X.o.a3 (HB_Z.o.a3);have hr0:Ext W0 W0:=Below.refl _ _;clear g0 B_X B_Z 
 go_enter Tryz.func186,Tryz.ntmps186
 go_upto_region 1 with (fail)
 rw [←hW0];clear hW0;replace hvx:=hvx.ext HE.o;have hpx:=hvx.top;have g1:Ext W0 W0.drew:=Below.drew (Below.refl _ _);refine wp_region_held_drew (S:=Ext W0) (by kernel_rfl) (g1) (fun hHeld => ?_);generalize W0.drew=wD1 at *
 apply wts 0 6 rfl rfl (by kernel_rfl) (fun _ _ _ h=>h) hHeld
 ·intro w' hSw;go_simp<;>with_reducible rfl
 apply wts 1 7 rfl rfl (by kernel_rfl) (fun _ _ _ h=>h) hHeld
 ·intro w' hSw;go_simp<;>with_reducible rfl
 apply wts 2 8 rfl rfl (by kernel_rfl) (fun _ _ _ h=>h) hHeld
 ·intro w' hSw;go_simp<;>with_reducible rfl
 try simp only [Act.put,pA,pB,pC]
 refine wonc 3 9 128 #[.tmp 8] #[43] 41 (by kernel_rfl) rfl rfl (fun KK hKK => ?_);go_simp;refine (rbottom_c _ q _ (hvx.ext g1)).mono ?_;rintro e w2 ⟨d2a,d2n,d2c,rfl,k1,g2⟩;have hb1:=g1.trans g2
 try dsimp only
 refine hKK.out _ _ (hb1) (fun hHeld => ?_)
 try simp only [Act.put,pA,pB,pC]
 refine wonc 4 10 169 #[.tmp 7,.tmp 9] #[41,41] 193 (by kernel_rfl) rfl rfl (fun KK hKK => ?_);go_simp;refine (CD.o _ _ _ (hpx.ext hb1) k1).mono ?_;rintro e w3 ⟨da,dn,dc,ra,rn,rc,rfl,kd,kr,g3⟩;have hb2:=hb1.trans g3
 try dsimp only
 refine hKK.out _ _ (hb2) (fun hHeld => ?_);apply wts 5 5 rfl rfl (by kernel_rfl) (fun _ _ _ h=>h) hHeld
 ·intro w' hSw;go_simp<;>with_reducible rfl
 apply wts 6 11 rfl rfl (by kernel_rfl) (fun _ _ _ h=>h) hHeld
 ·intro w' hSw;go_simp<;>with_reducible rfl
 apply wts 7 12 rfl rfl (by kernel_rfl) (fun _ _ _ h=>h) hHeld
 ·intro w' hSw;go_simp<;>with_reducible rfl
 apply wts 8 3 rfl rfl (by kernel_rfl) (fun _ _ _ h=>h) hHeld
 ·intro w' hSw;go_simp<;>with_reducible rfl
 apply wts 9 4 rfl rfl (by kernel_rfl) (fun _ _ _ h=>h) hHeld
 ·intro w' hSw;go_simp<;>with_reducible rfl
 refine wpAnyH_done (by kernel_rfl) ?_ _;clear k1;have hlen:=kr.len0
 by_cases hq:q.num<0
 ·have hs:s1 = -1:=by rw [HSX.o];exact Int.sign_eq_neg_one_of_neg hq
  have hds:decide (s1<0)=true:=decide_eq_true (by omega);have HQ:=hid hq;have HS1:=hid hs;clear hs hq
  by_cases hr:R=0
  ·obtain rfl:rn=0:=hlen.2 hr;have HV:Hid (mkRat (s1*(D:Int)) 1=((q.floor:Int):Rat)):=hid (by rw [HSX.o];exact rfloor_neg q HQ.o D (by rw [←HR.o,←HD.o,if_pos hr];rfl));clear hlen hr
   go_upto_region 4 with (fail)
   go_upto_region 4 with (fail)
   have kc:=(Box.bt (z:=w.heap.size+1) HB_X.o (by omega) Box.n3);have g4:Ext w3 w3.drew:=Below.drew (Below.refl _ _);have hb3:=hb2.trans g4;refine wp_region_held_drew (S:=But W0 (w.heap.size+1)) (by kernel_rfl) (hb3.but) (fun hHeld => ?_);generalize w3.drew=wD4 at *
   apply wts 0 24 rfl rfl (by kernel_rfl) (fun _ _ _ h=>h) hHeld
   ·intro w' hSw;go_simp<;>with_reducible rfl
   apply wts 1 25 rfl rfl (by kernel_rfl) (fun _ _ _ h=>h) hHeld
   ·intro w' hSw;go_simp<;>with_reducible rfl
   apply wts 2 26 rfl rfl (by kernel_rfl) (fun _ _ _ h=>h) hHeld
   ·intro w' hSw;go_simp<;>with_reducible rfl
   try simp only [Act.put,pA,pB,pC]
   refine wonc 3 27 129 #[] #[] 41 (by kernel_rfl) rfl rfl (fun KK hKK => ?_);go_simp;refine (rone_c _).mono ?_;rintro e w5 ⟨o5a,o5n,o5c,rfl,k2,g5⟩;have hb4:=hb3.trans g5
   try dsimp only
   refine hKK.out _ _ (hb4.but) (fun hHeld => ?_)
   try simp only [Act.put,pA,pB,pC]
   refine wonc 4 28 117 #[.tmp 25,.tmp 26,.tmp 27] #[3,41,41] 43 (by kernel_rfl) rfl rfl (fun KK hKK => ?_);go_simp;refine (rmade_c _ _ _ _ 1 (K+2) _ H3X.o (kd.ext (g4.trans g5)) k2 (SD.o.mono (by omega)) (S1.o.mono (by omega)) (by have:=HK.o;omega) (by decide)).mono ?_;rintro e w6 ⟨v,rfl,k9,g6⟩;have hb5:=hb4.trans g6;obtain ⟨s9,a9,n9,c9,a9',n9',c9',rfl⟩:=k9.shape
   try dsimp only
   refine hKK.out _ _ (hb5.but) (fun hHeld => ?_)
   try simp only [Act.put,pA,pB,pC]
   refine wons 5 43 2 28 (by kernel_rfl) rfl rfl (fun KK hKK => ?_);obtain ⟨U6,U7,U8⟩:=(HB_Z.o.ext hb5).f3;go_simp;clear U6 U7 U8;obtain ⟨W7,hW7,g7,q7,B7,hy7,ho7⟩:=rsto3 (HE.o.trans hb5) (by omega) (HB_Z.o.ext hb5) (by decide) (.int .i64 s9) (.slice a9 n9 c9) (.slice a9' n9' c9');rw [←hW7];clear hW7;replace HB_Z:=hid B7;have hq7:But W0 (w.heap.size+1) W7:=But.sto (hb5.but) ho7
   try dsimp only
   refine hKK.out _ _ (hq7) (fun hHeld => ?_);refine wpAnyH_done (by kernel_rfl) ?_ _;have ac:=cland (ho7 _ _ _ (by omega) (HB_X.o.ext (g1.trans (g2.trans (g3.trans (g4.trans (g5.trans g6))))))).a3 (HB_Z.o.a3);have hr9:Ext W7 W7:=Below.refl _ _;go_wp2_with fail;obtain ⟨J10,J11,J12⟩:=HB_Z.o.c3;refine bodyPost_ret (v:=.agg #[.int .i64 s9,.slice a9 n9 c9,.slice a9' n9' c9']) (by simp [results,Tryz.results186,go_sem,J10,J11,J12]) rfl ⟨_,rfl,by rw [←HV.o];exact (k9.keepR q7),g7⟩
  ·have hrn:0<rn:=by
    rcases Nat.eq_zero_or_pos rn with h | h
    ·exact absurd (hlen.1 h) hr
    ·exact h
   have HV:Hid (mkRat (s1*((D+1:Nat):Int)) 1=((q.floor:Int):Rat)):=hid (by rw [HSX.o];exact rfloor_neg q HQ.o (D+1) (by rw [←HR.o,←HD.o,if_neg hr]));clear hlen hr;go_wp2_with fail;refine (rone_c _).mono ?_;rintro e w4 ⟨o4a,o4n,o4c,rfl,k2,g4⟩;have hb3:=hb2.trans g4;go_wp2_with fail;refine (rsum_c _ _ D 1 (K+1) _ (kd.ext g4) k2 SD.o S1.o (by have:=HK.o;omega)).mono ?_;rintro e w5 ⟨t5a,t5n,t5c,rfl,kt,g5⟩;have hb4:=hb3.trans g5;clear k2
   go_upto_region 4 with (fail)
   have kc:=(Box.bt (z:=w.heap.size+1) HB_X.o (by omega) Box.n3);have g6:Ext w5 w5.drew:=Below.drew (Below.refl _ _);have hb5:=hb4.trans g6;refine wp_region_held_drew (S:=But W0 (w.heap.size+1)) (by kernel_rfl) (hb5.but) (fun hHeld => ?_);generalize w5.drew=wD6 at *
   apply wts 0 24 rfl rfl (by kernel_rfl) (fun _ _ _ h=>h) hHeld
   ·intro w' hSw;go_simp<;>with_reducible rfl
   apply wts 1 25 rfl rfl (by kernel_rfl) (fun _ _ _ h=>h) hHeld
   ·intro w' hSw;go_simp<;>with_reducible rfl
   apply wts 2 26 rfl rfl (by kernel_rfl) (fun _ _ _ h=>h) hHeld
   ·intro w' hSw;go_simp<;>with_reducible rfl
   try simp only [Act.put,pA,pB,pC]
   refine wonc 3 27 129 #[] #[] 41 (by kernel_rfl) rfl rfl (fun KK hKK => ?_);go_simp;refine (rone_c _).mono ?_;rintro e w7 ⟨o7a,o7n,o7c,rfl,k2,g7⟩;have hb6:=hb5.trans g7
   try dsimp only
   refine hKK.out _ _ (hb6.but) (fun hHeld => ?_)
   try simp only [Act.put,pA,pB,pC]
   refine wonc 4 28 117 #[.tmp 25,.tmp 26,.tmp 27] #[3,41,41] 43 (by kernel_rfl) rfl rfl (fun KK hKK => ?_);go_simp;refine (rmade_c _ _ _ _ 1 (K+2) _ H3X.o (kt.ext (g6.trans g7)) k2 (SD.o.add S1.o) (S1.o.mono (by omega)) (by have:=HK.o;omega) (by decide)).mono ?_;rintro e w8 ⟨v,rfl,k9,g8⟩;have hb7:=hb6.trans g8;obtain ⟨s9,a9,n9,c9,a9',n9',c9',rfl⟩:=k9.shape
   try dsimp only
   refine hKK.out _ _ (hb7.but) (fun hHeld => ?_)
   try simp only [Act.put,pA,pB,pC]
   refine wons 5 43 2 28 (by kernel_rfl) rfl rfl (fun KK hKK => ?_);obtain ⟨U8,U9,U10⟩:=(HB_Z.o.ext hb7).f3;go_simp;clear U8 U9 U10;obtain ⟨W9,hW9,g9,q9,B9,hy9,ho9⟩:=rsto3 (HE.o.trans hb7) (by omega) (HB_Z.o.ext hb7) (by decide) (.int .i64 s9) (.slice a9 n9 c9) (.slice a9' n9' c9');rw [←hW9];clear hW9;replace HB_Z:=hid B9;have hq9:But W0 (w.heap.size+1) W9:=But.sto (hb7.but) ho9
   try dsimp only
   refine hKK.out _ _ (hq9) (fun hHeld => ?_);refine wpAnyH_done (by kernel_rfl) ?_ _;have ac:=cland (ho9 _ _ _ (by omega) (HB_X.o.ext (g1.trans (g2.trans (g3.trans (g4.trans (g5.trans (g6.trans (g7.trans g8))))))))).a3 (HB_Z.o.a3);have hr11:Ext W9 W9:=Below.refl _ _;go_wp2_with fail;obtain ⟨J12,J13,J14⟩:=HB_Z.o.c3;refine bodyPost_ret (v:=.agg #[.int .i64 s9,.slice a9 n9 c9,.slice a9' n9' c9']) (by simp [results,Tryz.results186,go_sem,J12,J13,J14]) rfl ⟨_,rfl,by rw [←HV.o];exact (k9.keepR q9),g9⟩
 ·have hds:decide (s1<0)=false:=decide_eq_false (by
   have h4:s1=q.num.sign:=HSX.o
   intro h5
   rcases H3X.o with h | h | h
   ·omega
   ·exact hq (Int.sign_eq_neg_one_iff_neg.1 (by rw [←h4];exact h))
   ·omega)
  have HV:Hid (mkRat (s1*(D:Int)) 1=((q.floor:Int):Rat)):=hid (by rw [HSX.o,HD.o];exact rfloor_pos q (by omega));clear hlen hq
  go_upto_region 4 with (fail)
  go_upto_region 4 with (fail)
  have kc:=(Box.bt (z:=w.heap.size+1) HB_X.o (by omega) Box.n3);have g4:Ext w3 w3.drew:=Below.drew (Below.refl _ _);have hb3:=hb2.trans g4;refine wp_region_held_drew (S:=But W0 (w.heap.size+1)) (by kernel_rfl) (hb3.but) (fun hHeld => ?_);generalize w3.drew=wD4 at *
  apply wts 0 24 rfl rfl (by kernel_rfl) (fun _ _ _ h=>h) hHeld
  ·intro w' hSw;go_simp<;>with_reducible rfl
  apply wts 1 25 rfl rfl (by kernel_rfl) (fun _ _ _ h=>h) hHeld
  ·intro w' hSw;go_simp<;>with_reducible rfl
  apply wts 2 26 rfl rfl (by kernel_rfl) (fun _ _ _ h=>h) hHeld
  ·intro w' hSw;go_simp<;>with_reducible rfl
  try simp only [Act.put,pA,pB,pC]
  refine wonc 3 27 129 #[] #[] 41 (by kernel_rfl) rfl rfl (fun KK hKK => ?_);go_simp;refine (rone_c _).mono ?_;rintro e w5 ⟨o5a,o5n,o5c,rfl,k2,g5⟩;have hb4:=hb3.trans g5
  try dsimp only
  refine hKK.out _ _ (hb4.but) (fun hHeld => ?_)
  try simp only [Act.put,pA,pB,pC]
  refine wonc 4 28 117 #[.tmp 25,.tmp 26,.tmp 27] #[3,41,41] 43 (by kernel_rfl) rfl rfl (fun KK hKK => ?_);go_simp;refine (rmade_c _ _ _ _ 1 (K+2) _ H3X.o (kd.ext (g4.trans g5)) k2 (SD.o.mono (by omega)) (S1.o.mono (by omega)) (by have:=HK.o;omega) (by decide)).mono ?_;rintro e w6 ⟨v,rfl,k9,g6⟩;have hb5:=hb4.trans g6;obtain ⟨s9,a9,n9,c9,a9',n9',c9',rfl⟩:=k9.shape
  try dsimp only
  refine hKK.out _ _ (hb5.but) (fun hHeld => ?_)
  try simp only [Act.put,pA,pB,pC]
  refine wons 5 43 2 28 (by kernel_rfl) rfl rfl (fun KK hKK => ?_);obtain ⟨U6,U7,U8⟩:=(HB_Z.o.ext hb5).f3;go_simp;clear U6 U7 U8;obtain ⟨W7,hW7,g7,q7,B7,hy7,ho7⟩:=rsto3 (HE.o.trans hb5) (by omega) (HB_Z.o.ext hb5) (by decide) (.int .i64 s9) (.slice a9 n9 c9) (.slice a9' n9' c9');rw [←hW7];clear hW7;replace HB_Z:=hid B7;have hq7:But W0 (w.heap.size+1) W7:=But.sto (hb5.but) ho7
  try dsimp only
  refine hKK.out _ _ (hq7) (fun hHeld => ?_);refine wpAnyH_done (by kernel_rfl) ?_ _;have ac:=cland (ho7 _ _ _ (by omega) (HB_X.o.ext (g1.trans (g2.trans (g3.trans (g4.trans (g5.trans g6))))))).a3 (HB_Z.o.a3);have hr9:Ext W7 W7:=Below.refl _ _;go_wp2_with fail;obtain ⟨J10,J11,J12⟩:=HB_Z.o.c3;refine bodyPost_ret (v:=.agg #[.int .i64 s9,.slice a9 n9 c9,.slice a9' n9' c9']) (by simp [results,Tryz.results186,go_sem,J10,J11,J12]) rfl ⟨_,rfl,by rw [←HV.o];exact (k9.keepR q7),g7⟩
theorem log_cmp {q:Rat} (h:0<q.num) (k:Int) (hk:k=(bl q.num.natAbs:Int)-bl q.den):IsLog q (if cmpQ q ((2:Rat)^k)<0 then k-1 else k):=by
 have h1:=log_is h k hk;have hc:=lt_p2 h (max k 0).toNat (max (-k) 0).toNat;rw [show ((max k 0).toNat:Int)-((max (-k) 0).toNat:Int)=k by omega] at hc
 by_cases h2:q<(2:Rat)^k
 ·rw [if_pos (hc.1 h2)] at h1;rw [if_pos (cmpQ_lt.2 h2)];exact h1
 ·rw [if_neg (fun e=>h2 (hc.2 e))] at h1;rw [if_neg (fun e=>h2 (cmpQ_lt.1 e))];exact h1
theorem Sm.bl {K n:Nat} (h:Sm K n):bl n≤K:=bl_le_of_lt h
theorem p2_sm {L:Nat} {k:Int} (h:k.natAbs<L):SmQ (2+L) ((2:Rat)^k):=by
 have:=(SmQ.int (K:=2) (n:=1) (by decide) (by decide)).mul_p2 k L h
 rwa [show ((1:Int):Rat)*(2:Rat)^k=(2:Rat)^k from by rw [show ((1:Int):Rat)=1 from rfl,Rat.one_mul]] at this
theorem rlog_c (x:Value) (q:Rat) (K:Nat) (w:World) (hx:RNumV w x q) (sx:SmQ K q) (hK:K≤300000) (h0:q≠0) :
  Calls Tryz.prog 124 #[x] w fun e w'=>∃ k:Int,e=.returned (.int .i64 k)∧Hid (IsLog (absQ q) k)∧Ext w w':=by
 obtain ⟨s1,a1,n1,c1,a1',n1',c1',rfl⟩:=hx.shape;have hvx:=hx;have HK:=hid hK;have SX:=hid sx;have HN:Hid (q.num≠0):=hid (fun e=>h0 (Rat.num_eq_zero.1 e));have hs0:(s1==0)=false:=by
  rw [hx.sign];exact beq_eq_false_iff_ne.2 (fun e=>HN.o (Int.sign_eq_zero_iff_zero.1 e))
 have HZ:Hid ((if q=0 then 0 else q.den)=q.den):=hid (if_neg h0);obtain ⟨M,hM⟩:∃ M,M=bl q.num.natAbs:=⟨_,rfl⟩;obtain ⟨N,hN⟩:∃ N,N=bl q.den:=⟨_,rfl⟩;have hM1:M≤K:=by rw [hM];exact sx.1.bl
 have hN1:N≤K:=by rw [hN];exact sx.2.bl
 obtain ⟨k,hk⟩:∃ k:Int,k=(M:Int)-(N:Int):=⟨_,rfl⟩;have hk1 : -300000≤k:=by omega
 have hk2:k≤300000:=by omega
 have hwk:IntKind.i64.wrap ((M:Int)-(N:Int))=k:=by rw [hk];exact IntWalk.i64_in _ (by omega)
 have CL1:Hid (∀ w u,RefV w u q.num.natAbs→Calls Tryz.prog 174 #[u] w fun e w'=>e=.returned (.int .i64 (M:Nat))∧Ext w w'):=hid fun w u h=>by rw [hM];exact rlength_c u _ K w h SX.o.1 HK.o
 have CL2:Hid (∀ w u,RefV w u q.den→Calls Tryz.prog 174 #[u] w fun e w'=>e=.returned (.int .i64 (N:Nat))∧Ext w w'):=hid fun w u h=>by rw [hN];exact rlength_c u _ K w h SX.o.2 HK.o
 have HL:Hid (IsLog (absQ q) (if cmpQ (absQ q) ((2:Rat)^k)<0 then k-1 else k)):=hid (log_cmp (absQ_num_pos HN.o) k (by rw [(absQ_parts q).1,(absQ_parts q).2,hk,hM,hN]));obtain ⟨cc,hcc⟩:∃ c,c=cmpQ (absQ q) ((2:Rat)^k):=⟨_,rfl⟩;have CT:Hid (∀ w,Calls Tryz.prog 60 #[.int .i64 k] w fun e w'=>∃ v,e=.returned v∧RNumV w' v ((2:Rat)^k)∧Ext w w'):=hid fun w=>rtwo_c k w (by omega) (by omega);have CC:Hid (∀ w u v,RNumV w u (absQ q)→RNumV w v ((2:Rat)^k)→Calls Tryz.prog 59 #[u,v] w fun e w'=>e=.returned (.int .i64 cc)∧Ext w w'):=hid fun w u v h1 h2=>by
  rw [hcc];exact rcmpq_c u v _ _ (K+300003) w h1 h2 (SX.o.absQ.mono (by omega)) ((p2_sm (L:=300001) (by omega)).mono (by omega)) (by have:=HK.o;omega)
 rw [←hcc] at HL;have hwk1:IntKind.i64.wrap (k-1)=k-1:=IntWalk.i64_in _ (by omega);clear hx sx hM hN hk hcc h0 hK;obtain ⟨W0,hW0,g0,hz0,B_X⟩:=pro1 w #[.int .i64 s1,.slice a1 n1 c1,.slice a1' n1' c1'] 43;have HE:=hid g0;have HB_X:=hid B_X;have ac:=HB_X.o.a3;have hr0:Ext W0 W0:=Below.refl _ _;clear g0 B_X 
 go_enter Tryz.func124,Tryz.ntmps124
 go_upto_region 1 with (fail)
 rw [←hW0];clear hW0;replace hvx:=hvx.ext HE.o;have hpx:=hvx.top;have hdx:=hvx.den;rw [HZ.o] at hdx
 go_upto_region 3 with (fail)
 have g1:Ext W0 W0.drew:=Below.drew (Below.refl _ _);refine wp_region_held_drew (S:=Ext W0) (by kernel_rfl) (g1) (fun hHeld => ?_);generalize W0.drew=wD1 at *
 apply wts 0 7 rfl rfl (by kernel_rfl) (fun _ _ _ h=>h) hHeld
 ·intro w' hSw;go_simp<;>with_reducible rfl
 apply wts 1 8 rfl rfl (by kernel_rfl) (fun _ _ _ h=>h) hHeld
 ·intro w' hSw;go_simp<;>with_reducible rfl
 apply wts 3 10 rfl rfl (by kernel_rfl) (fun _ _ _ h=>h) hHeld
 ·intro w' hSw;go_simp<;>with_reducible rfl
 apply wts 4 11 rfl rfl (by kernel_rfl) (fun _ _ _ h=>h) hHeld
 ·intro w' hSw;go_simp<;>with_reducible rfl
 try simp only [Act.put,pA,pB,pC]
 refine wonc 2 9 174 #[.tmp 8] #[41] 3 (by kernel_rfl) rfl rfl (fun KK hKK => ?_);go_simp;refine (CL1.o _ _ (hpx.ext g1)).mono ?_;rintro e w2 ⟨rfl,g2⟩;have hb1:=g1.trans g2
 try dsimp only
 refine hKK.out _ _ (hb1) (fun hHeld => ?_)
 try simp only [Act.put,pA,pB,pC]
 refine wonc 5 12 174 #[.tmp 11] #[41] 3 (by kernel_rfl) rfl rfl (fun KK hKK => ?_);go_simp;refine (CL2.o _ _ (hdx.ext hb1)).mono ?_;rintro e w3 ⟨rfl,g3⟩;have hb2:=hb1.trans g3
 try dsimp only
 refine hKK.out _ _ (hb2) (fun hHeld => ?_);apply wts 6 13 rfl rfl (by kernel_rfl) (fun _ _ _ h=>h) hHeld
 ·intro w' hSw;go_simp<;>with_reducible rfl
 apply wts 7 3 rfl rfl (by kernel_rfl) (fun _ _ _ h=>h) hHeld
 ·intro w' hSw;go_simp<;>with_reducible rfl
 refine wpAnyH_done (by kernel_rfl) ?_ _;clear hwk hM1 hN1;go_wp2_with fail;refine (rabs_c _ q _ (hvx.ext hb2)).mono ?_;rintro e w4 ⟨v4,rfl,k1,g4⟩;have hb3:=hb2.trans g4;go_wp2_with fail;refine (CT.o _).mono ?_;rintro e w5 ⟨v5,rfl,k2,g5⟩;have hb4:=hb3.trans g5;go_wp2_with fail;refine (CC.o _ _ _ (k1.ext g5) k2).mono ?_;rintro e w6 ⟨rfl,g6⟩;have hb5:=hb4.trans g6
 by_cases hc:cc<0
 ·have hd:decide (cc<0)=true:=decide_eq_true hc;rw [if_pos hc] at HL;clear hc;go_wp2_with fail;go_ret
  exact ⟨k-1,rfl,HL,(HE.o.trans hb5)⟩
 ·have hd:decide (cc<0)=false:=decide_eq_false hc;rw [if_neg hc] at HL;clear hc;go_wp2_with fail;go_ret
  exact ⟨k,rfl,HL,(HE.o.trans hb5)⟩
theorem dv_drop_le (B:Nat) (hB:0<B) (l:List Nat) (k:Nat) (h:k≤l.length):dv B (l.drop k)≤dv B l:=by
 rw [dv_take_drop B l k h];have h1:1*dv B (l.drop k)≤B^k*dv B (l.drop k):=Nat.mul_le_mul_right _ (Nat.pow_pos hB)
 omega
def TopI (s:Int) (l:List Nat) (k:Nat):Int:=s*(dv 1000000000 (l.drop k):Nat)
theorem TopI.step {s:Int} {l:List Nat} {j:Nat} (h:j<l.length):1000000000*TopI s l (j+1)+s*((l.getD j 0:Nat):Int)=TopI s l j:=by
 unfold TopI;rw [dv_drop 1000000000 l j h,Int.natCast_add,Int.natCast_mul,Int.mul_add,Int.mul_left_comm]
 exact Int.add_comm _ _
theorem TopI.range {s N:Int} {l:List Nat} (hs:s=1∨s = -1) (hN:N=s*(dv 1000000000 l:Nat)) (h0 : -9223372036854775808≤N) (h1:N<9223372036854775808) {j:Nat} (h:j≤l.length) : -9223372036854775808≤TopI s l j∧TopI s l j<9223372036854775808:=by
 have h2:=dv_drop_le 1000000000 (by decide) l j h;unfold TopI
 rcases hs with rfl | rfl<;>omega
theorem TopI.mid {s N:Int} {l:List Nat} (hs:s=1∨s = -1) (hN:N=s*(dv 1000000000 l:Nat)) (h0 : -9223372036854775808≤N) (h1:N<9223372036854775808) {j:Nat} (h:j<l.length) : -9223372036854775808≤1000000000*TopI s l (j+1)∧1000000000*TopI s l (j+1)<9223372036854775808:=by
 have h2:=TopI.range hs hN h0 h1 (Nat.le_of_lt h);have h3:=TopI.step (s:=s) h;have h4:=dv_drop 1000000000 l j h;unfold TopI at *
 rcases hs with rfl | rfl<;>omega
theorem i64w {n:Int} (h : -9223372036854775808≤n∧n<9223372036854775808):IntKind.i64.wrap n=n:=IntWalk.i64_in _ (by omega)
theorem rint64_c (x:Value) (N:Int) (w:World) (hx:RNumV w x (N:Rat)) (h0 : -9223372036854775808≤N) (h1:N<9223372036854775808) :
  Calls Tryz.prog 187 #[x] w fun e w'=>e=.returned (.tuple #[.int .i64 N,.int .i64 0])∧Ext w w':=by
 obtain ⟨s1,a1,n1,c1,a1',n1',c1',rfl⟩:=hx.shape;have hvx:=hx;have H0:=hid h0;have H1:=hid h1;have SB:Hid (∀ m:Int,-9223372036854775808≤m→m<9223372036854775808→SmQ 64 (m:Rat)):=hid fun m h1 h2=>SmQ.int (by decide) (by omega);have HSX:Hid (s1=N.sign):=hid (by rw [hx.sign,Rat.num_intCast]);obtain ⟨L,hL⟩:∃ L:Int,L = -9223372036854775808:=⟨_,rfl⟩;obtain ⟨U,hU⟩:∃ U:Int,U=9223372036854775807:=⟨_,rfl⟩;obtain ⟨e1,he1⟩:∃ e,e=cmpQ (N:Rat) (L:Rat):=⟨_,rfl⟩;obtain ⟨e2,he2⟩:∃ e,e=cmpQ (N:Rat) (U:Rat):=⟨_,rfl⟩;have hb1:decide (e1<0)=false:=decide_eq_false (by
  rw [he1,cmpQ_lt];intro h;have:=Rat.intCast_lt_intCast.1 h;omega)
 have hb2:decide (0<e2)=false:=decide_eq_false (by
  rw [he2,cmpQ_gt];intro h;have:=Rat.intCast_lt_intCast.1 h;omega)
 have CI:Hid (∀ w u,RNumV w u (N:Rat)→Calls Tryz.prog 57 #[u] w fun e w'=>e=.returned (.bool true)∧Ext w w'):=hid fun w u h=>by
  have h2:=risint_c u _ 64 w h (SB.o N H0.o H1.o) (by decide)
  rwa [decide_eq_true (Rat.den_intCast N)] at h2
 have CL:Hid (∀ w,Calls Tryz.prog 86 #[.int .i64 (-9223372036854775808)] w fun e w'=>∃ v,e=.returned v∧RNumV w' v (L:Rat)∧Ext w w'):=hid fun w=>by rw [hL];exact rint_c _ w (by decide) (by decide)
 have CU:Hid (∀ w,Calls Tryz.prog 86 #[.int .i64 9223372036854775807] w fun e w'=>∃ v,e=.returned v∧RNumV w' v (U:Rat)∧Ext w w'):=hid fun w=>by rw [hU];exact rint_c _ w (by decide) (by decide)
 have C1:Hid (∀ w u v,RNumV w u (N:Rat)→RNumV w v (L:Rat)→Calls Tryz.prog 59 #[u,v] w fun e w'=>e=.returned (.int .i64 e1)∧Ext w w'):=hid fun w u v h k=>by
  rw [he1];exact rcmpq_c u v _ _ 64 w h k (SB.o N H0.o H1.o) (SB.o L (by omega) (by omega)) (by decide)
 have C2:Hid (∀ w u v,RNumV w u (N:Rat)→RNumV w v (U:Rat)→Calls Tryz.prog 59 #[u,v] w fun e w'=>e=.returned (.int .i64 e2)∧Ext w w'):=hid fun w u v h k=>by
  rw [he2];exact rcmpq_c u v _ _ 64 w h k (SB.o N H0.o H1.o) (SB.o U (by omega) (by omega)) (by decide)
 clear hx h0 h1 hL hU he1 he2;obtain ⟨W0,hW0,g0,hz0,B_X⟩:=pro1 w #[.int .i64 s1,.slice a1 n1 c1,.slice a1' n1' c1'] 43;have HE:=hid g0;have HB_X:=hid B_X;have ac:=HB_X.o.a3;have hr0:Ext W0 W0:=Below.refl _ _;clear g0 B_X 
 go_enter Tryz.func187,Tryz.ntmps187
 go_upto_region 1 with (fail)
 rw [←hW0];clear hW0;replace hvx:=hvx.ext HE.o;go_wp2_with fail;refine (CI.o _ _ hvx).mono ?_;rintro e w1 ⟨rfl,g1⟩
 go_upto_region 3 with (fail)
 have g2:Ext w1 w1.drew:=Below.drew (Below.refl _ _);have hb1:=g1.trans g2;refine wp_region_held_drew (S:=Ext W0) (by kernel_rfl) (hb1) (fun hHeld => ?_);generalize w1.drew=wD2 at *
 apply wts 0 9 rfl rfl (by kernel_rfl) (fun _ _ _ h=>h) hHeld
 ·intro w' hSw;go_simp<;>with_reducible rfl
 try simp only [Act.put,pA,pB,pC]
 refine wonc 1 10 86 #[.const (Value.int IntKind.i64 (-9223372036854775808))] #[2] 43 (by kernel_rfl) rfl rfl (fun KK hKK => ?_);go_simp;refine (CL.o _).mono ?_;rintro e w3 ⟨v3,rfl,k1,g3⟩;have hb2:=hb1.trans g3
 try dsimp only
 refine hKK.out _ _ (hb2) (fun hHeld => ?_)
 try simp only [Act.put,pA,pB,pC]
 refine wonc 2 11 59 #[.tmp 9,.tmp 10] #[43,43] 3 (by kernel_rfl) rfl rfl (fun KK hKK => ?_);go_simp;refine (C1.o _ _ _ (hvx.ext hb2) k1).mono ?_;rintro e w4 ⟨rfl,g4⟩;have hb3:=hb2.trans g4
 try dsimp only
 refine hKK.out _ _ (hb3) (fun hHeld => ?_);apply wts 3 12 rfl rfl (by kernel_rfl) (fun _ _ _ h=>h) hHeld
 ·intro w' hSw;go_simp<;>with_reducible rfl
 apply wts 4 13 rfl rfl (by kernel_rfl) (fun _ _ _ h=>h) hHeld
 ·intro w' hSw;go_simp<;>with_reducible rfl
 apply wts 5 14 rfl rfl (by kernel_rfl) (fun _ _ _ h=>h) hHeld
 ·intro w' hSw;go_simp<;>with_reducible rfl
 try simp only [Act.put,pA,pB,pC]
 refine won 6 { dst:=some 15,op:=Op.call { callee:=Callee.value (Operand.func 86),args:=#[Operand.const (Value.int IntKind.i64 9223372036854775807)],argTypes:=#[2] },type:=43,pos := "",after:=#[],guard:=some (4,false) } (by kernel_rfl) rfl rfl (fun KK hKK => ?_);go_simp;refine (CU.o _).mono ?_;rintro e w5 ⟨v5,rfl,k2,g5⟩;have hb4:=hb3.trans g5
 try dsimp only
 refine hKK.out _ _ (hb4) (fun hHeld => ?_)
 try simp only [Act.put,pA,pB,pC]
 refine won 7 { dst:=some 16,op:=Op.call { callee:=Callee.value (Operand.func 59),args:=#[Operand.tmp 14,Operand.tmp 15],argTypes:=#[43,43] },type:=3,pos := "",after:=#[],guard:=some (4,false) } (by kernel_rfl) rfl rfl (fun KK hKK => ?_);go_simp;refine (C2.o _ _ _ (hvx.ext hb4) k2).mono ?_;rintro e w6 ⟨rfl,g6⟩;have hb5:=hb4.trans g6
 try dsimp only
 refine hKK.out _ _ (hb5) (fun hHeld => ?_);apply wts 8 17 rfl rfl (by kernel_rfl) (fun _ _ _ h=>h) hHeld
 ·intro w' hSw;go_simp<;>with_reducible rfl
 apply wts 9 18 rfl rfl (by kernel_rfl) (fun _ _ _ h=>h) hHeld
 ·intro w' hSw;go_simp<;>with_reducible rfl
 refine wpAnyH_done (by kernel_rfl) ?_ _;clear k1 k2 CI CL CU C1 C2;have HE:=hid (HE.o.trans hb5);replace HB_X:=hid (HB_X.o.ext hb5);replace hvx:=(hvx.ext hb5);replace ac:=hb5.cl ac;have hr6:Ext w6 w6:=Below.refl _ _;have hpx:=hvx.top;rw [Rat.num_intCast] at hpx;obtain ⟨aa,ba,oa,na,ca,l,hal,h1a,h2a,h3a,h4a,h5a,h6a,h7a,h8a⟩:=hpx.open;obtain ⟨rfl,rfl,rfl⟩:a1=aa∧n1=na∧c1=ca:=by simpa using hal
 have HNV:Hid (N=s1*(dv 1000000000 l:Nat)):=hid (by rw [h6a.o,HSX.o,Int.sign_mul_natAbs]);have HLN:Hid (n1≤3):=hid (by
  have h9:l.length≤3:=rlen_le h5a.o (by rw [h6a.o];have:=H0.o;have:=H1.o;omega);rw [h3a.o] at h9;exact h9)
 have hn3:n1≤3:=HLN.o;have HNA:Hid (dv 1000000000 l=N.natAbs):=hid h6a.o;clear hal h2a hpx h6a h8a hb1 hb2;go_wp2_with fail
 go_loopg [4,5] n1 (fun g v i wx=>∃ z:Int,v=.int .i64 z∧i=.int .i64 ((g:Int)-1)∧g≤n1∧Hid (z=TopI s1 l g)∧Hid (Ext w6 wx))
 case atStart=>exact ⟨0,rfl,by go_num,Nat.le_refl _,hid (by unfold TopI;rw [List.drop_eq_nil_of_le (by rw [h3a.o];exact Nat.le_refl _),dv_nil];simp),hid (Below.refl _ _)⟩
 case round =>
  obtain ⟨z,rfl,rfl,hgn,HZ,HEr⟩:=hrel;have HXr:=hid (HB_X.o.ext HEr.o);have HEw:=hid (HE.o.trans HEr.o)
  rcases Nat.eq_zero_or_pos gk with hk0 | hk0
  ·subst hk0;have hd0:decide ((0:Int)≤((0:Nat):Int)-1)=false:=by decide
   have HZN:Hid (z=N):=hid (by rw [HZ.o,HNV.o];unfold TopI;rw [List.drop_zero]);go_wp2_with fail;rw [HZN.o];go_ret2
   exact ⟨rfl,HEw.o⟩
  ·obtain ⟨j,rfl⟩:∃ j,gk=j+1:=⟨gk-1,by omega⟩;have ej:(((j+1:Nat):Int)-1)=(j:Int):=by omega
   rw [ej];clear ej;obtain ⟨d,hd2⟩:∃ d,d=l.getD j 0:=⟨_,rfl⟩;have hcell:wr.cell? ⟨ba,oa+j,none⟩=some (.int .i64 d):=by rw [hd2];exact HEr.o.cell (h7a.o j (by omega))
   have hlt:d<1000000000:=by rw [hd2];exact h5a.o.dig.get (by decide) _
   obtain rfl:=h4a.o (by omega);have hjl:j<l.length:=by rw [h3a.o];omega
   have hs:s1=1∨s1 = -1:=by
    have h5:=HNV.o;have h6:0<dv 1000000000 l:=h5a.o.dv_pos (by decide) (fun e=>by rw [e] at hjl;simp at hjl);have h7:=HSX.o
    rcases Int.lt_trichotomy N 0 with h | h | h
    ·right;rw [h7];exact Int.sign_eq_neg_one_of_neg h
    ·have h8:=HNA.o;omega
    ·left;rw [h7];exact Int.sign_eq_one_of_pos h
   have r1:=TopI.range hs HNV.o H0.o H1.o (j:=j) (by omega);have r2:=TopI.mid hs HNV.o H0.o H1.o hjl;have r3:=TopI.step (s:=s1) hjl;rw [←hd2] at r3;rw [←HZ.o] at r2 r3;have r4 : -9223372036854775808≤s1*(d:Int)∧s1*(d:Int)<9223372036854775808:=by rcases hs with rfl | rfl<;>omega
   obtain ⟨z2,hz2⟩:∃ z2,z2=TopI s1 l j:=⟨_,rfl⟩;rw [←hz2] at r1 r3;have HZ2:=hid hz2;have e1:IntKind.i64.wrap (1000000000*z)=1000000000*z:=i64w r2;have e2:IntKind.i64.wrap (s1*(d:Int))=s1*(d:Int):=i64w r4;have e3:IntKind.i64.wrap (1000000000*z+s1*(d:Int))=z2:=by rw [r3];exact i64w r1
   have hd0:decide ((0:Int)≤(j:Int))=true:=decide_eq_true (by omega);have i1:(0:Int)≤(j:Int):=by omega
   have i2:(j:Int)<(n1:Int):=by omega
   clear hs r1 r2 r3 r4 hz2 hd2 hjl;obtain ⟨wq,rfl⟩:∃ x,x=wr:=⟨_,rfl⟩
   go_upto_region 9 with (fail)
   have HB_X:=HXr;have HE:=HEw;have ac:=HB_X.o.a3;have hr7:Ext wq wq:=Below.refl _ _;have mc0:∀ w',Ext wq w'→w'.cell? ⟨ba,oa+j,none⟩=some (.int .i64 (d:Nat)):=fun w' h=>h.cell hcell;have g7:Ext wq wq.drew:=Below.drew (Below.refl _ _);refine wp_region_held_drew (S:=Ext wq) (by kernel_rfl) (g7) (fun hHeld => ?_);generalize wq.drew=wD7 at *
   apply wts 0 27 rfl rfl (by kernel_rfl) (fun _ _ _ h=>h) hHeld
   ·intro w' hSw;go_simp<;>with_reducible rfl
   apply wts 1 28 rfl rfl (by kernel_rfl) (fun _ _ _ h=>h) hHeld
   ·intro w' hSw;go_simp<;>with_reducible rfl
   apply wts 2 29 rfl rfl (by kernel_rfl) (fun _ _ _ h=>h) hHeld
   ·intro w' hSw;go_simp<;>with_reducible rfl
   apply wts 3 30 rfl rfl (by kernel_rfl) (fun _ _ _ h=>h) hHeld
   ·intro w' hSw;go_simp<;>with_reducible rfl
   apply wts 4 31 rfl rfl (by kernel_rfl) (fun _ _ _ h=>h) hHeld
   ·intro w' hSw;go_simp<;>with_reducible rfl
   apply wts 5 32 rfl rfl (by kernel_rfl) (fun _ _ _ h=>h) hHeld
   ·intro w' hSw;go_simp<;>with_reducible rfl
   apply wts 6 33 rfl rfl (by kernel_rfl) (fun _ _ _ h=>h) hHeld
   ·intro w' hSw;go_simp<;>with_reducible rfl
   apply wts 7 34 rfl rfl (by kernel_rfl) (fun _ _ _ h=>h) hHeld
   ·intro w' hSw;go_simp<;>with_reducible rfl
   apply wts 8 35 rfl rfl (by kernel_rfl) (fun _ _ _ h=>h) hHeld
   ·intro w' hSw;go_simp<;>with_reducible rfl
   apply wts 9 36 rfl rfl (by kernel_rfl) (fun _ _ _ h=>h) hHeld
   ·intro w' hSw;go_simp<;>with_reducible rfl
   apply wts 10 37 rfl rfl (by kernel_rfl) (fun _ _ _ h=>h) hHeld
   ·intro w' hSw;go_simp<;>with_reducible rfl
   apply wts 11 4 rfl rfl (by kernel_rfl) (fun _ _ _ h=>h) hHeld
   ·intro w' hSw;go_simp<;>with_reducible rfl
   refine wpAnyH_done (by kernel_rfl) ?_ _;go_wp2_with fail
   go_roundg j
   case measure=>exact Nat.lt_succ_self j
   case rel=>exact ⟨z2,rfl,by go_num,by omega,HZ2,hid (HEr.o.trans g7)⟩
theorem rint_i (m:Int) (k:Nat) (w:World) (hm:m=(k:Int)) (hk:k<9223372036854775808) :
  Calls Tryz.prog 86 #[.int .i64 m] w fun e w'=>∃ v,e=.returned v∧RNumV w' v ((k:Nat):Rat)∧Ext w w':=by
 subst hm;exact rint_c (k:Int) w (by omega) (by omega)
theorem nat_sm {K n:Nat} (h:n<2^K):SmQ (K+1) ((n:Nat):Rat):=SmQ.nat (by omega) (Nat.lt_of_lt_of_le h (Nat.pow_le_pow_right (by decide) (by omega)))
theorem nat_up (n k:Nat):((n:Nat):Rat)*(2:Rat)^(k:Int)=((n*2^k:Nat):Rat):=by rw [p2_nat,Rat.natCast_mul]
theorem runsigned_c (n:Nat) (w:World) (h:n<18446744073709551616) :
  Calls Tryz.prog 155 #[.int .u64 (n:Nat)] w fun e w'=>∃ v,e=.returned v∧RNumV w' v ((n:Nat):Rat)∧Ext w w':=by
 have HN:=hid h;have HV:Hid (((n/4294967296:Nat):Rat)*(2:Rat)^(32:Int)+((n%4294967296:Nat):Rat)=((n:Nat):Rat)):=hid (by
  rw [show (32:Int)=((32:Nat):Int) from rfl,nat_up,←Rat.natCast_add]
  congr 1
  omega)
 clear h;obtain ⟨W0,hW0,g0,hz0,B_Z⟩:=pro1 w #[.int .i64 0,.slice none 0 0,.slice none 0 0] 43;have HE:=hid g0;have HB_Z:=hid B_Z;have ac:=HB_Z.o.a3;have hr0:Ext W0 W0:=Below.refl _ _;clear g0 B_Z 
 go_enter Tryz.func155,Tryz.ntmps155
 go_upto_region 1 with (fail)
 rw [←hW0];clear hW0;go_wp2_with fail;refine (rint_i _ (n/4294967296) _ (by rw [w64r _ (by have:=HN.o;omega)];omega) (by have:=HN.o;omega)).mono ?_;rintro e w1 ⟨v1,rfl,k1,g1⟩;go_wp2_with fail;refine (rshiftq_c _ _ 64 32 _ k1 (nat_sm (show n/4294967296<2^63 by have:=HN.o;omega)) (by decide) (by decide) (by decide)).mono ?_;rintro e w2 ⟨v2,rfl,k2,g2⟩;have hb1:=g1.trans g2;go_wp2_with fail;refine (rint_i _ (n%4294967296) _ (by omega) (by have:=HN.o;omega)).mono ?_;rintro e w3 ⟨v3,rfl,k3,g3⟩;have hb2:=hb1.trans g3;go_wp2_with fail;refine (raddq_c _ _ _ _ 200 _ (k2.ext g3) k3 (((nat_sm (show n/4294967296<2^63 by have:=HN.o;omega)).mul_p2 32 33 (by decide)).mono (by decide)) ((nat_sm (show n%4294967296<2^63 by omega)).mono (by decide)) (by decide)).mono ?_;rintro e w4 ⟨v,rfl,k9,g4⟩;have hb3:=hb2.trans g4;obtain ⟨s9,a9,n9,c9,a9',n9',c9',rfl⟩:=k9.shape;obtain ⟨U4,U5,U6⟩:=(HB_Z.o.ext hb3).f3;go_wp2_with fail;clear U4 U5 U6;obtain ⟨W5,hW5,g5,q5,B5,hy5,ho5⟩:=rsto3 (HE.o.trans hb3) (by omega) (HB_Z.o.ext hb3) (by decide) (.int .i64 s9) (.slice a9 n9 c9) (.slice a9' n9' c9');rw [←hW5];clear hW5;replace HB_Z:=hid B5;obtain ⟨J7,J8,J9⟩:=HB_Z.o.c3;refine bodyPost_ret (v:=.agg #[.int .i64 s9,.slice a9 n9 c9,.slice a9' n9' c9']) (by simp [results,Tryz.results155,go_sem,J7,J8,J9]) rfl ⟨_,rfl,by rw [←HV.o];exact (k9.keepR q5),g5⟩
theorem rbits_hl (h l:Nat) (w:World) (hh:h<18446744073709551616) (hl:l<18446744073709551616) :
  Calls Tryz.prog 90 #[.agg #[.int .u64 (h:Nat),.int .u64 (l:Nat)]] w fun e w'=>∃ v,e=.returned v∧RNumV w' v ((h*2^64+l:Nat):Rat)∧Ext w w':=by
 have HH:=hid hh;have HL:=hid hl;have HV:Hid (((h:Nat):Rat)*(2:Rat)^(64:Int)+((l:Nat):Rat)=((h*2^64+l:Nat):Rat)):=hid (by
  rw [show (64:Int)=((64:Nat):Int) from rfl,nat_up,←Rat.natCast_add])
 clear hh hl;obtain ⟨W0,hW0,g0,hz0,B_X,B_Z⟩:=pro2s w #[.int .u64 (h:Nat),.int .u64 (l:Nat)] #[.int .i64 0,.slice none 0 0,.slice none 0 0] 29 43;have HE:=hid g0;have HB_X:=hid B_X;have HB_Z:=hid B_Z;have ac:=cland HB_X.o.a2 (HB_Z.o.a3);have hr0:Ext W0 W0:=Below.refl _ _;clear g0 B_X B_Z 
 go_enter Tryz.func90,Tryz.ntmps90
 go_upto_region 1 with (fail)
 rw [←hW0];clear hW0;have kc:=(Box.bt (z:=w.heap.size+1) HB_X.o (by omega) Box.n2);have g1:Ext W0 W0.drew:=Below.drew (Below.refl _ _);refine wp_region_held_drew (S:=But W0 (w.heap.size+1)) (by kernel_rfl) (g1.but) (fun hHeld => ?_);generalize W0.drew=wD1 at *
 apply wts 0 3 rfl rfl (by kernel_rfl) (fun _ _ _ h=>h) hHeld
 ·intro w' hSw;go_simp<;>with_reducible rfl
 apply wts 1 4 rfl rfl (by kernel_rfl) (fun _ _ _ h=>h) hHeld
 ·intro w' hSw;go_simp<;>with_reducible rfl
 apply wts 4 7 rfl rfl (by kernel_rfl) (fun _ _ _ h=>h) hHeld
 ·intro w' hSw;go_simp<;>with_reducible rfl
 apply wts 5 8 rfl rfl (by kernel_rfl) (fun _ _ _ h=>h) hHeld
 ·intro w' hSw;go_simp<;>with_reducible rfl
 try simp only [Act.put,pA,pB,pC]
 refine wonc 2 5 155 #[.tmp 4] #[27] 43 (by kernel_rfl) rfl rfl (fun KK hKK => ?_);go_simp;refine (runsigned_c h _ HH.o).mono ?_;rintro e w2 ⟨v2,rfl,k1,g2⟩;have hb1:=g1.trans g2
 try dsimp only
 refine hKK.out _ _ (hb1.but) (fun hHeld => ?_)
 try simp only [Act.put,pA,pB,pC]
 refine wonc 3 6 125 #[.tmp 5,.const (Value.int IntKind.i64 64)] #[43,3] 43 (by kernel_rfl) rfl rfl (fun KK hKK => ?_);go_simp;refine (rshiftq_c _ _ 65 64 _ k1 (nat_sm HH.o) (by decide) (by decide) (by decide)).mono ?_;rintro e w3 ⟨v3,rfl,k2,g3⟩;have hb2:=hb1.trans g3
 try dsimp only
 refine hKK.out _ _ (hb2.but) (fun hHeld => ?_)
 try simp only [Act.put,pA,pB,pC]
 refine wonc 6 9 155 #[.tmp 8] #[27] 43 (by kernel_rfl) rfl rfl (fun KK hKK => ?_);go_simp;refine (runsigned_c l _ HL.o).mono ?_;rintro e w4 ⟨v4,rfl,k3,g4⟩;have hb3:=hb2.trans g4
 try dsimp only
 refine hKK.out _ _ (hb3.but) (fun hHeld => ?_)
 try simp only [Act.put,pA,pB,pC]
 refine wonc 7 10 61 #[.tmp 6,.tmp 9] #[43,43] 43 (by kernel_rfl) rfl rfl (fun KK hKK => ?_);go_simp;refine (raddq_c _ _ _ _ 200 _ (k2.ext g4) k3 (((nat_sm (K:=64) HH.o).mul_p2 64 65 (by decide)).mono (by decide)) ((nat_sm (K:=64) HL.o).mono (by decide)) (by decide)).mono ?_;rintro e w5 ⟨v,rfl,k9,g5⟩;have hb4:=hb3.trans g5;obtain ⟨s9,a9,n9,c9,a9',n9',c9',rfl⟩:=k9.shape
 try dsimp only
 refine hKK.out _ _ (hb4.but) (fun hHeld => ?_)
 try simp only [Act.put,pA,pB,pC]
 refine wons 8 43 2 10 (by kernel_rfl) rfl rfl (fun KK hKK => ?_);obtain ⟨U5,U6,U7⟩:=(HB_Z.o.ext hb4).f3;go_simp;clear U5 U6 U7;obtain ⟨W6,hW6,g6,q6,B6,hy6,ho6⟩:=rsto3 (HE.o.trans hb4) (by omega) (HB_Z.o.ext hb4) (by decide) (.int .i64 s9) (.slice a9 n9 c9) (.slice a9' n9' c9');rw [←hW6];clear hW6;replace HB_Z:=hid B6;have hq6:But W0 (w.heap.size+1) W6:=But.sto (hb4.but) ho6
 try dsimp only
 refine hKK.out _ _ (hq6) (fun hHeld => ?_);refine wpAnyH_done (by kernel_rfl) ?_ _;have ac:=cland (ho6 _ _ _ (by omega) (HB_X.o.ext (g1.trans (g2.trans (g3.trans (g4.trans g5)))))).a2 (HB_Z.o.a3);have hr8:Ext W6 W6:=Below.refl _ _;go_wp2_with fail;obtain ⟨J9,J10,J11⟩:=HB_Z.o.c3;refine bodyPost_ret (v:=.agg #[.int .i64 s9,.slice a9 n9 c9,.slice a9' n9' c9']) (by simp [results,Tryz.results90,go_sem,J9,J10,J11]) rfl ⟨_,rfl,by rw [←HV.o];exact (k9.keepR q6),g6⟩
theorem rbits_c (n:Nat) (w:World) (hn:n<340282366920938463463374607431768211456):Calls Tryz.prog 90 #[Word n] w fun e w'=>∃ v,e=.returned v∧RNumV w' v ((n:Nat):Rat)∧Ext w w':=by
 have h:=rbits_hl (n/18446744073709551616) (n%18446744073709551616) w (by omega) (by omega);rw [show n/18446744073709551616*2^64+n%18446744073709551616=n from by omega] at h
 exact h
theorem rpart_c (x:Value) (N fr b:Nat) (f g:Int) (w:World) (hx:RNumV w x ((N:Nat):Rat)) (hN:N<2^200) (hf:f=(fr:Int)) (hg:g=(b:Int)) (hf1:fr≤1000) (hg1:b≤1000) :
  Calls Tryz.prog 146 #[x,.int .i64 f,.int .i64 g] w fun e w'=>∃ v,e=.returned v∧RNumV w' v ((N/2^fr%2^b:Nat):Rat)∧Ext w w':=by
 obtain ⟨s1,a1,n1,c1,a1',n1',c1',rfl⟩:=hx.shape;have hvx:=hx;have f0:0≤f:=by omega
 have f1:f≤1000:=by omega
 have g0:0≤g:=by omega
 have g1':g≤1000:=by omega
 obtain ⟨M,hM⟩:∃ M,M=N/2^fr:=⟨_,rfl⟩;have SN:Hid (SmQ 201 ((N:Nat):Rat)):=hid (nat_sm hN);have SM:Hid (SmQ 201 ((M:Nat):Rat)):=hid (nat_sm (by rw [hM];exact Nat.lt_of_le_of_lt (Nat.div_le_self _ _) hN));have SD:Hid (SmQ 201 ((M/2^b:Nat):Rat)):=hid (nat_sm (by rw [hM];exact Nat.lt_of_le_of_lt (Nat.le_trans (Nat.div_le_self _ _) (Nat.div_le_self _ _)) hN));have SB:Hid (SmQ 201 ((M/2^b*2^b:Nat):Rat)):=hid (nat_sm (by rw [hM];exact Nat.lt_of_le_of_lt (Nat.le_trans (Nat.div_mul_le_self _ _) (Nat.div_le_self _ _)) hN));have V1:Hid ((((N:Nat):Rat)*(2:Rat)^(-f)).floor=((M:Nat):Int)):=hid (by rw [hf,hM,nat_floor_half]);have V2:Hid ((((M:Nat):Rat)*(2:Rat)^(-g)).floor=((M/2^b:Nat):Int)):=hid (by rw [hg,nat_floor_half]);have V3:Hid (((M/2^b:Nat):Rat)*(2:Rat)^g=((M/2^b*2^b:Nat):Rat)):=hid (by rw [hg,nat_up]);have V4:Hid (((M:Nat):Rat)-((M/2^b*2^b:Nat):Rat)=((N/2^fr%2^b:Nat):Rat)):=hid (by
  rw [←hM];have h1:M=M/2^b*2^b+M%2^b:=by have:=Nat.div_add_mod M (2^b);rw [Nat.mul_comm];omega
  have h2:((M:Nat):Rat)=((M/2^b*2^b:Nat):Rat)+((M%2^b:Nat):Rat):=by rw [←Rat.natCast_add,←h1]
  rw [h2];grind)
 have CS1:Hid (∀ w u,RNumV w u ((N:Nat):Rat)→Calls Tryz.prog 125 #[u,.int .i64 (-f)] w fun e w'=>∃ v,e=.returned v∧RNumV w' v (((N:Nat):Rat)*(2:Rat)^(-f))∧Ext w w'):=hid fun w u h=>rshiftq_c u _ 201 (-f) w h SN.o (by omega) (by omega) (by decide);have CF1:Hid (∀ w u,RNumV w u (((N:Nat):Rat)*(2:Rat)^(-f))→Calls Tryz.prog 186 #[u] w fun e w'=>∃ v,e=.returned v∧RNumV w' v ((M:Nat):Rat)∧Ext w w'):=hid fun w u h=>by
  have h2:=rfloor_c u _ 1202 w h ((SN.o.mul_p2 (-f) 1001 (by omega)).mono (by decide)) (by decide);rw [V1.o] at h2;exact h2
 have CS2:Hid (∀ w u,RNumV w u ((M:Nat):Rat)→Calls Tryz.prog 125 #[u,.int .i64 (-g)] w fun e w'=>∃ v,e=.returned v∧RNumV w' v (((M:Nat):Rat)*(2:Rat)^(-g))∧Ext w w'):=hid fun w u h=>rshiftq_c u _ 201 (-g) w h SM.o (by omega) (by omega) (by decide);have CF2:Hid (∀ w u,RNumV w u (((M:Nat):Rat)*(2:Rat)^(-g))→Calls Tryz.prog 186 #[u] w fun e w'=>∃ v,e=.returned v∧RNumV w' v ((M/2^b:Nat):Rat)∧Ext w w'):=hid fun w u h=>by
  have h2:=rfloor_c u _ 1202 w h ((SM.o.mul_p2 (-g) 1001 (by omega)).mono (by decide)) (by decide);rw [V2.o] at h2;exact h2
 have CS3:Hid (∀ w u,RNumV w u ((M/2^b:Nat):Rat)→Calls Tryz.prog 125 #[u,.int .i64 g] w fun e w'=>∃ v,e=.returned v∧RNumV w' v ((M/2^b*2^b:Nat):Rat)∧Ext w w'):=hid fun w u h=>by
  have h2:=rshiftq_c u _ 201 g w h SD.o (by omega) (by omega) (by decide);rw [V3.o] at h2;exact h2
 have CD:Hid (∀ w u v,RNumV w u ((M:Nat):Rat)→RNumV w v ((M/2^b*2^b:Nat):Rat)→Calls Tryz.prog 89 #[u,v] w fun e w'=>∃ v,e=.returned v∧RNumV w' v ((N/2^fr%2^b:Nat):Rat)∧Ext w w'):=hid fun w u v h1 h2=>by
  have h3:=rsubq_c u v _ _ 201 w h1 h2 SM.o SB.o (by decide);rw [V4.o] at h3;exact h3
 clear hx hN hf hg hM hf1 hg1;obtain ⟨W0,hW0,g0,hz0,B_X,B_Z⟩:=pro2s w #[.int .i64 s1,.slice a1 n1 c1,.slice a1' n1' c1'] #[.int .i64 0,.slice none 0 0,.slice none 0 0] 43 43;have HE:=hid g0;have HB_X:=hid B_X;have HB_Z:=hid B_Z;have ac:=cland HB_X.o.a3 (HB_Z.o.a3);have hr0:Ext W0 W0:=Below.refl _ _;clear g0 B_X B_Z 
 go_enter Tryz.func146,Tryz.ntmps146
 go_upto_region 1 with (fail)
 rw [←hW0];clear hW0;replace hvx:=hvx.ext HE.o;go_wp2_with fail;refine (CS1.o _ _ hvx).mono ?_;rintro e w1 ⟨v1,rfl,k1,g1⟩;go_wp2_with fail;refine (CF1.o _ _ k1).mono ?_;rintro e w2 ⟨v2,rfl,k2,g2⟩;have hb1:=g1.trans g2;obtain ⟨s2,a2,n2,c2,a2',n2',c2',rfl⟩:=k2.shape;have gA:=hb1.trans (Ext.alloc w2 (.cells #[.int .i64 s2,.slice a2 n2 c2,.slice a2' n2' c2'] 43))
 go_upto_region 2 with (fail)
 clear gA;have hs2:=(g1.trans g2).size;obtain ⟨W3,hW3,g3,hy3,B_Q⟩:=pro1 w2 #[.int .i64 s2,.slice a2 n2 c2,.slice a2' n2' c2'] 43;rw [←hW3];clear hW3;have hb3:=hb1.trans g3;have HB_Q:=hid B_Q;clear B_Q;have he4:=(HE.o.trans hb3);replace ac:=hb3.cl ac;have hr5:Ext W3 W3:=Below.refl _ _;replace ac:=cland ac HB_Q.o.a3;clear k1;have hwg:IntKind.i64.wrap (-g) = -g:=IntWalk.i64_in _ (by omega);have kc:=(Box.bt (z:=w.heap.size+1) HB_Q.o (by omega) Box.n3);have g4:Ext W3 W3.drew:=Below.drew (Below.refl _ _);refine wp_region_held_drew (S:=But W3 (w.heap.size+1)) (by kernel_rfl) (g4.but) (fun hHeld => ?_);generalize W3.drew=wD4 at *
 apply wts 0 13 rfl rfl (by kernel_rfl) (fun _ _ _ h=>h) hHeld
 ·intro w' hSw;go_simp<;>with_reducible rfl
 apply wts 1 14 rfl rfl (by kernel_rfl) (fun _ _ _ h=>h) hHeld
 ·intro w' hSw;go_simp<;>with_reducible rfl
 apply wts 2 15 rfl rfl (by kernel_rfl) (fun _ _ _ h=>h) hHeld
 ·intro w' hSw;go_simp<;>with_reducible rfl
 apply wts 3 16 rfl rfl (by kernel_rfl) (fun _ _ _ h=>h) hHeld
 ·intro w' hSw;go_simp<;>with_reducible rfl
 apply wts 6 19 rfl rfl (by kernel_rfl) (fun _ _ _ h=>h) hHeld
 ·intro w' hSw;go_simp<;>with_reducible rfl
 try simp only [Act.put,pA,pB,pC]
 refine wonc 4 17 125 #[.tmp 14,.tmp 16] #[43,3] 43 (by kernel_rfl) rfl rfl (fun KK hKK => ?_);go_simp;refine (CS2.o _ _ ((k2.ext g3).ext g4)).mono ?_;rintro e w5 ⟨v5,rfl,k3,g5⟩;have hb6:=g4.trans g5
 try dsimp only
 refine hKK.out _ _ (hb6.but) (fun hHeld => ?_)
 try simp only [Act.put,pA,pB,pC]
 refine wonc 5 18 186 #[.tmp 17] #[43] 43 (by kernel_rfl) rfl rfl (fun KK hKK => ?_);go_simp;refine (CF2.o _ _ k3).mono ?_;rintro e w6 ⟨v6,rfl,k4,g6⟩;have hb7:=hb6.trans g6
 try dsimp only
 refine hKK.out _ _ (hb7.but) (fun hHeld => ?_)
 try simp only [Act.put,pA,pB,pC]
 refine wonc 7 20 125 #[.tmp 18,.tmp 19] #[43,3] 43 (by kernel_rfl) rfl rfl (fun KK hKK => ?_);go_simp;refine (CS3.o _ _ k4).mono ?_;rintro e w7 ⟨v7,rfl,k5,g7⟩;have hb8:=hb7.trans g7
 try dsimp only
 refine hKK.out _ _ (hb8.but) (fun hHeld => ?_)
 try simp only [Act.put,pA,pB,pC]
 refine wonc 8 21 89 #[.tmp 13,.tmp 20] #[43,43] 43 (by kernel_rfl) rfl rfl (fun KK hKK => ?_);go_simp;refine (CD.o _ _ _ ((k2.ext g3).ext hb8) k5).mono ?_;rintro e w8 ⟨v8,rfl,k9,g8⟩;have hb9:=hb8.trans g8;obtain ⟨s9,a9,n9,c9,a9',n9',c9',rfl⟩:=k9.shape
 try dsimp only
 refine hKK.out _ _ (hb9.but) (fun hHeld => ?_)
 try simp only [Act.put,pA,pB,pC]
 refine wons 9 43 6 21 (by kernel_rfl) rfl rfl (fun KK hKK => ?_);obtain ⟨U10,U11,U12⟩:=((HB_Z.o.ext (g1.trans (g2.trans g3))).ext hb9).f3;go_simp;clear U10 U11 U12;obtain ⟨W9,hW9,g9,q9,B9,hy9,ho9⟩:=rsto3 (he4.trans hb9) (by omega) ((HB_Z.o.ext (g1.trans (g2.trans g3))).ext hb9) (by decide) (.int .i64 s9) (.slice a9 n9 c9) (.slice a9' n9' c9');rw [←hW9];clear hW9;replace HB_Z:=hid B9;have hq9:But W3 (w.heap.size+1) W9:=But.sto (hb9.but) ho9
 try dsimp only
 refine hKK.out _ _ (hq9) (fun hHeld => ?_);refine wpAnyH_done (by kernel_rfl) ?_ _;have ac:=cland (ho9 _ _ _ (by omega) (HB_X.o.ext (g1.trans (g2.trans (g3.trans (g4.trans (g5.trans (g6.trans (g7.trans g8))))))))).a3 (cland HB_Z.o.a3 ((ho9 _ _ _ (by omega) (HB_Q.o.ext (g4.trans (g5.trans (g6.trans (g7.trans g8)))))).a3));have hr13:Ext W9 W9:=Below.refl _ _;go_wp2_with fail;obtain ⟨J14,J15,J16⟩:=HB_Z.o.c3;refine bodyPost_ret (v:=.agg #[.int .i64 s9,.slice a9 n9 c9,.slice a9' n9' c9']) (by simp [results,Tryz.results146,go_sem,J14,J15,J16]) rfl ⟨_,rfl,(k9.keepR q9),g9⟩
theorem rsmall_c (x:Value) (k:Nat) (w:World) (hx:RNumV w x ((k:Nat):Rat)) (hk:k<4294967296) :
  Calls Tryz.prog 147 #[x] w fun e w'=>e=.returned (.int .u64 (k:Nat))∧Ext w w':=by
 obtain ⟨s1,a1,n1,c1,a1',n1',c1',rfl⟩:=hx.shape;have hvx:=hx;clear hx;obtain ⟨W0,hW0,g0,hz0,B_X⟩:=pro1 w #[.int .i64 s1,.slice a1 n1 c1,.slice a1' n1' c1'] 43;have HE:=hid g0;have HB_X:=hid B_X;have ac:=HB_X.o.a3;have hr0:Ext W0 W0:=Below.refl _ _;clear g0 B_X 
 go_enter Tryz.func147,Tryz.ntmps147
 go_upto_region 1 with (fail)
 rw [←hW0];clear hW0;replace hvx:=hvx.ext HE.o;go_wp2_with fail;refine (rint64_c _ (k:Int) _ hvx (by omega) (by omega)).mono ?_;rintro e w1 ⟨rfl,g1⟩;go_wp2_with fail;go_ret
 exact ⟨rfl,(HE.o.trans g1)⟩
theorem rpacked_c (x:Value) (N:Nat) (w:World) (hx:RNumV w x ((N:Nat):Rat)) (hN:N<340282366920938463463374607431768211456) :
  Calls Tryz.prog 88 #[x] w fun e w'=>e=.returned (Word N)∧Ext w w':=by
 obtain ⟨s1,a1,n1,c1,a1',n1',c1',rfl⟩:=hx.shape;have hvx:=hx;have HN:=hid hN;have HN2:Hid (N<2^200):=hid (by omega);obtain ⟨p3,hp3⟩:∃ p,p=N/2^96%2^32:=⟨_,rfl⟩;obtain ⟨p2,hp2⟩:∃ p,p=N/2^64%2^32:=⟨_,rfl⟩;obtain ⟨p1,hp1⟩:∃ p,p=N/2^32%2^32:=⟨_,rfl⟩;obtain ⟨p0,hp0⟩:∃ p,p=N/2^0%2^32:=⟨_,rfl⟩;have l3:p3<4294967296:=by rw [hp3];exact Nat.mod_lt _ (by decide)
 have l2:p2<4294967296:=by rw [hp2];exact Nat.mod_lt _ (by decide)
 have l1:p1<4294967296:=by rw [hp1];exact Nat.mod_lt _ (by decide)
 have l0:p0<4294967296:=by rw [hp0];exact Nat.mod_lt _ (by decide)
 have CP:Hid (∀ w u (f:Int) (fr:Nat),f=(fr:Int)→fr≤1000→RNumV w u ((N:Nat):Rat)→Calls Tryz.prog 146 #[u,.int .i64 f,.int .i64 32] w fun e w'=>∃ v,e=.returned v∧RNumV w' v ((N/2^fr%2^32:Nat):Rat)∧Ext w w'):=hid fun w u f fr h1 h2 h3=>rpart_c u N fr 32 f 32 w h3 HN2.o h1 rfl h2 (by decide);have C3:Hid (∀ w u,RNumV w u ((N:Nat):Rat)→Calls Tryz.prog 146 #[u,.int .i64 96,.int .i64 32] w fun e w'=>∃ v,e=.returned v∧RNumV w' v ((p3:Nat):Rat)∧Ext w w'):=hid fun w u h=>by rw [hp3];exact CP.o w u 96 96 rfl (by decide) h
 have C2:Hid (∀ w u,RNumV w u ((N:Nat):Rat)→Calls Tryz.prog 146 #[u,.int .i64 64,.int .i64 32] w fun e w'=>∃ v,e=.returned v∧RNumV w' v ((p2:Nat):Rat)∧Ext w w'):=hid fun w u h=>by rw [hp2];exact CP.o w u 64 64 rfl (by decide) h
 have C1:Hid (∀ w u,RNumV w u ((N:Nat):Rat)→Calls Tryz.prog 146 #[u,.int .i64 32,.int .i64 32] w fun e w'=>∃ v,e=.returned v∧RNumV w' v ((p1:Nat):Rat)∧Ext w w'):=hid fun w u h=>by rw [hp1];exact CP.o w u 32 32 rfl (by decide) h
 have C0:Hid (∀ w u,RNumV w u ((N:Nat):Rat)→Calls Tryz.prog 146 #[u,.int .i64 0,.int .i64 32] w fun e w'=>∃ v,e=.returned v∧RNumV w' v ((p0:Nat):Rat)∧Ext w w'):=hid fun w u h=>by rw [hp0];exact CP.o w u 0 0 rfl (by decide) h
 have HW:Hid (Word N=.agg #[.int .u64 (IntKind.u64.wrap (IntKind.u64.wrap ((p3:Int)*4294967296)+p2)),.int .u64 (IntKind.u64.wrap (IntKind.u64.wrap ((p1:Int)*4294967296)+p0))]):=hid (by
  unfold Word;rw [show IntKind.u64.wrap (IntKind.u64.wrap ((p3:Int)*4294967296)+p2)=((p3*4294967296+p2:Nat):Int) from by rw [w64,w64];omega,show IntKind.u64.wrap (IntKind.u64.wrap ((p1:Int)*4294967296)+p0)=((p1*4294967296+p0:Nat):Int) from by rw [w64,w64];omega];rw [show N/18446744073709551616=p3*4294967296+p2 from by omega,show N%18446744073709551616=p1*4294967296+p0 from by omega])
 clear hx hN hp3 hp2 hp1 hp0 CP HN HN2;obtain ⟨W0,hW0,g0,hz0,B_X,B_Z⟩:=pro2s w #[.int .i64 s1,.slice a1 n1 c1,.slice a1' n1' c1'] #[.int .u64 0,.int .u64 0] 43 29;have HE:=hid g0;have HB_X:=hid B_X;have HB_Z:=hid B_Z;have ac:=cland HB_X.o.a3 (HB_Z.o.a2);have hr0:Ext W0 W0:=Below.refl _ _;clear g0 B_X B_Z 
 go_enter Tryz.func88,Tryz.ntmps88
 go_upto_region 1 with (fail)
 rw [←hW0];clear hW0;replace hvx:=hvx.ext HE.o;have kc:=(Box.bt (z:=w.heap.size+1) HB_X.o (by omega) Box.n3);have g1:Ext W0 W0.drew:=Below.drew (Below.refl _ _);refine wp_region_held_drew (S:=But W0 (w.heap.size+1)) (by kernel_rfl) (g1.but) (fun hHeld => ?_);generalize W0.drew=wD1 at *
 apply wts 0 3 rfl rfl (by kernel_rfl) (fun _ _ _ h=>h) hHeld
 ·intro w' hSw;go_simp<;>with_reducible rfl
 apply wts 4 7 rfl rfl (by kernel_rfl) (fun _ _ _ h=>h) hHeld
 ·intro w' hSw;go_simp<;>with_reducible rfl
 apply wts 8 11 rfl rfl (by kernel_rfl) (fun _ _ _ h=>h) hHeld
 ·intro w' hSw;go_simp<;>with_reducible rfl
 apply wts 12 15 rfl rfl (by kernel_rfl) (fun _ _ _ h=>h) hHeld
 ·intro w' hSw;go_simp<;>with_reducible rfl
 try simp only [Act.put,pA,pB,pC]
 refine wonc 1 4 146 #[.tmp 3,.const (Value.int IntKind.i64 96),.const (Value.int IntKind.i64 32)] #[43,3,3] 43 (by kernel_rfl) rfl rfl (fun KK hKK => ?_);go_simp;refine (C3.o _ _ (hvx.ext g1)).mono ?_;rintro e w2 ⟨v2,rfl,k3,g2⟩;have hb1:=g1.trans g2
 try dsimp only
 refine hKK.out _ _ (hb1.but) (fun hHeld => ?_)
 try simp only [Act.put,pA,pB,pC]
 refine wonc 2 5 147 #[.tmp 4] #[43] 27 (by kernel_rfl) rfl rfl (fun KK hKK => ?_);go_simp;refine (rsmall_c _ p3 _ k3 l3).mono ?_;rintro e w3 ⟨rfl,g3⟩;have hb2:=hb1.trans g3
 try dsimp only
 refine hKK.out _ _ (hb2.but) (fun hHeld => ?_);apply wts 3 6 rfl rfl (by kernel_rfl) (fun _ _ _ h=>h) hHeld
 ·intro w' hSw;go_simp<;>with_reducible rfl
 try simp only [Act.put,pA,pB,pC]
 refine wonc 5 8 146 #[.tmp 7,.const (Value.int IntKind.i64 64),.const (Value.int IntKind.i64 32)] #[43,3,3] 43 (by kernel_rfl) rfl rfl (fun KK hKK => ?_);go_simp;refine (C2.o _ _ (hvx.ext hb2)).mono ?_;rintro e w4 ⟨v4,rfl,k2,g4⟩;have hb3:=hb2.trans g4
 try dsimp only
 refine hKK.out _ _ (hb3.but) (fun hHeld => ?_)
 try simp only [Act.put,pA,pB,pC]
 refine wonc 6 9 147 #[.tmp 8] #[43] 27 (by kernel_rfl) rfl rfl (fun KK hKK => ?_);go_simp;refine (rsmall_c _ p2 _ k2 l2).mono ?_;rintro e w5 ⟨rfl,g5⟩;have hb4:=hb3.trans g5
 try dsimp only
 refine hKK.out _ _ (hb4.but) (fun hHeld => ?_);apply wts 7 10 rfl rfl (by kernel_rfl) (fun _ _ _ h=>h) hHeld
 ·intro w' hSw;go_simp<;>with_reducible rfl
 try simp only [Act.put,pA,pB,pC]
 refine wonc 9 12 146 #[.tmp 11,.const (Value.int IntKind.i64 32),.const (Value.int IntKind.i64 32)] #[43,3,3] 43 (by kernel_rfl) rfl rfl (fun KK hKK => ?_);go_simp;refine (C1.o _ _ (hvx.ext hb4)).mono ?_;rintro e w6 ⟨v6,rfl,k1,g6⟩;have hb5:=hb4.trans g6
 try dsimp only
 refine hKK.out _ _ (hb5.but) (fun hHeld => ?_)
 try simp only [Act.put,pA,pB,pC]
 refine wonc 10 13 147 #[.tmp 12] #[43] 27 (by kernel_rfl) rfl rfl (fun KK hKK => ?_);go_simp;refine (rsmall_c _ p1 _ k1 l1).mono ?_;rintro e w7 ⟨rfl,g7⟩;have hb6:=hb5.trans g7
 try dsimp only
 refine hKK.out _ _ (hb6.but) (fun hHeld => ?_);apply wts 11 14 rfl rfl (by kernel_rfl) (fun _ _ _ h=>h) hHeld
 ·intro w' hSw;go_simp<;>with_reducible rfl
 try simp only [Act.put,pA,pB,pC]
 refine wonc 13 16 146 #[.tmp 15,.const (Value.int IntKind.i64 0),.const (Value.int IntKind.i64 32)] #[43,3,3] 43 (by kernel_rfl) rfl rfl (fun KK hKK => ?_);go_simp;refine (C0.o _ _ (hvx.ext hb6)).mono ?_;rintro e w8 ⟨v8,rfl,k0,g8⟩;have hb7:=hb6.trans g8
 try dsimp only
 refine hKK.out _ _ (hb7.but) (fun hHeld => ?_)
 try simp only [Act.put,pA,pB,pC]
 refine wonc 14 17 147 #[.tmp 16] #[43] 27 (by kernel_rfl) rfl rfl (fun KK hKK => ?_);go_simp;refine (rsmall_c _ p0 _ k0 l0).mono ?_;rintro e w9 ⟨rfl,g9⟩;have hb8:=hb7.trans g9
 try dsimp only
 refine hKK.out _ _ (hb8.but) (fun hHeld => ?_);apply wts 15 18 rfl rfl (by kernel_rfl) (fun _ _ _ h=>h) hHeld
 ·intro w' hSw;go_simp<;>with_reducible rfl
 apply wts 16 19 rfl rfl (by kernel_rfl) (fun _ _ _ h=>h) hHeld
 ·intro w' hSw;go_simp<;>with_reducible rfl
 try simp only [Act.put,pA,pB,pC]
 refine wons 17 29 2 19 (by kernel_rfl) rfl rfl (fun KK hKK => ?_);obtain ⟨U9,U10⟩:=(HB_Z.o.ext hb8).f2;go_simp;clear U9 U10;obtain ⟨W10,hW10,g10,q10,B10,hy10,ho10⟩:=rsto2 (HE.o.trans hb8) (by omega) (HB_Z.o.ext hb8) (by decide) (.int .u64 (IntKind.u64.wrap (IntKind.u64.wrap ((p3:Int)*4294967296)+p2))) (.int .u64 (IntKind.u64.wrap (IntKind.u64.wrap ((p1:Int)*4294967296)+p0)));rw [←hW10];clear hW10;replace HB_Z:=hid B10;have hq10:But W0 (w.heap.size+1) W10:=But.sto (hb8.but) ho10
 try dsimp only
 refine hKK.out _ _ (hq10) (fun hHeld => ?_);refine wpAnyH_done (by kernel_rfl) ?_ _;have ac:=cland (ho10 _ _ _ (by omega) (HB_X.o.ext (g1.trans (g2.trans (g3.trans (g4.trans (g5.trans (g6.trans (g7.trans (g8.trans g9)))))))))).a3 (HB_Z.o.a2);have hr11:Ext W10 W10:=Below.refl _ _;go_wp2_with fail;rw [HW.o];obtain ⟨J12,J13⟩:=HB_Z.o.c2;refine bodyPost_ret (v:=.agg #[.int .u64 (IntKind.u64.wrap (IntKind.u64.wrap ((p3:Int)*4294967296)+p2)),.int .u64 (IntKind.u64.wrap (IntKind.u64.wrap ((p1:Int)*4294967296)+p0))]) (by simp [results,Tryz.results88,go_sem,J12,J13]) rfl ⟨rfl,g10⟩
def flipW (E P n:Nat):Nat:=if 2^(E+P-1)≤n then n-2^(E+P-1) else n+2^(E+P-1)
theorem cmpQ_nat (m n:Nat):cmpQ ((m:Nat):Rat) ((n:Nat):Rat)=if m<n then -1 else if n<m then 1 else 0:=by
 unfold cmpQ;simp only [Rat.natCast_lt_natCast]
theorem nat_sub {m n:Nat} (h:n≤m):((m:Nat):Rat)-((n:Nat):Rat)=((m-n:Nat):Rat):=by
 have e:((m:Nat):Rat)=((m-n:Nat):Rat)+((n:Nat):Rat):=by rw [←Rat.natCast_add];congr 1;omega
 rw [e];grind
theorem nat_add (m n:Nat):((m:Nat):Rat)+((n:Nat):Rat)=((m+n:Nat):Rat):=(Rat.natCast_add m n).symm
theorem rflip_hl (E P h l:Nat) (w:World) (hF:Fmt E P) (hh:h<18446744073709551616) (hl:l<18446744073709551616) (hn:h*2^64+l<2^(E+P)) :
  Calls Tryz.prog 32 #[.agg #[.int .i64 (E:Nat),.int .i64 (P:Nat)],.agg #[.int .u64 (h:Nat),.int .u64 (l:Nat)]] w fun e w'=>e=.returned (Word (flipW E P (h*2^64+l)))∧Ext w w':=by
 obtain ⟨hE1,hE2,hP1,hP2,hEP⟩:=hF;have HH:=hid hh;have HL:=hid hl;obtain ⟨k,hk⟩:∃ k,k=E+P-1:=⟨_,rfl⟩;obtain ⟨n,hn'⟩:∃ n,n=h*2^64+l:=⟨_,rfl⟩;obtain ⟨S,hS⟩:∃ S,S=2^k:=⟨_,rfl⟩;have hk1:k≤200:=by omega
 have hki:(E:Int)+(P:Int)-1=(k:Int):=by omega
 have hE:E+P=k+1:=by omega
 have hnS:n<S+S:=by rw [hn',hS,←Nat.two_mul,←Nat.pow_succ'];rw [hE] at hn;exact hn
 have hS128:S≤2^127:=by rw [hS];exact Nat.pow_le_pow_right (by decide) (by omega)
 have HST:=hid hS128;have HNS:=hid hnS;have HFL:Hid (flipW E P (h*2^64+l)=if S≤n then n-S else n+S):=hid (by unfold flipW;rw [←hn',←hk,←hS]);have SN:Hid (SmQ 201 ((n:Nat):Rat)):=hid (nat_sm (by omega));have SS:Hid (SmQ 201 ((S:Nat):Rat)):=hid (nat_sm (by omega));have CT:Hid (∀ w,Calls Tryz.prog 60 #[.int .i64 ((E:Int)+(P:Int)-1)] w fun e w'=>∃ v,e=.returned v∧RNumV w' v ((S:Nat):Rat)∧Ext w w'):=hid fun w=>by
  have h2:=rtwo_c (k:Int) w (by omega) (by omega);rw [p2_nat,←hS,←hki] at h2;exact h2
 have CB:Hid (∀ w,Calls Tryz.prog 90 #[.agg #[.int .u64 (h:Nat),.int .u64 (l:Nat)]] w fun e w'=>∃ v,e=.returned v∧RNumV w' v ((n:Nat):Rat)∧Ext w w'):=hid fun w=>by
  rw [hn'];exact rbits_hl h l w HH.o HL.o
 have CC:Hid (∀ w u v,RNumV w u ((n:Nat):Rat)→RNumV w v ((S:Nat):Rat)→Calls Tryz.prog 59 #[u,v] w fun e w'=>e=.returned (.int .i64 (if n<S then -1 else if S<n then 1 else 0))∧Ext w w'):=hid fun w u v h1 h2=>by
  have h3:=rcmpq_c u v _ _ 201 w h1 h2 SN.o SS.o (by decide);rw [cmpQ_nat] at h3;exact h3
 clear hh hl hn hn' hS hk hki hE hnS hS128;obtain ⟨W0,hW0,g0,hz0,B_F,B_W,B_Z⟩:=pro3s w #[.int .i64 (E:Nat),.int .i64 (P:Nat)] #[.int .u64 (h:Nat),.int .u64 (l:Nat)] #[.int .u64 0,.int .u64 0] 23 29 29;have HE:=hid g0;have HB_F:=hid B_F;have HB_W:=hid B_W;have HB_Z:=hid B_Z;have ac:=cland HB_F.o.a2 (cland HB_W.o.a2 (HB_Z.o.a2));have hr0:Ext W0 W0:=Below.refl _ _;clear g0 B_F B_W B_Z 
 go_enter Tryz.func32,Tryz.ntmps32
 go_upto_region 1 with (fail)
 rw [←hW0];clear hW0;go_wp2_with fail;refine (CT.o _).mono ?_;rintro e w1 ⟨v1,rfl,k1,g1⟩;obtain ⟨s1,a1,n1,c1,a1',n1',c1',rfl⟩:=k1.shape;have gA:=g1.trans (Ext.alloc w1 (.cells #[.int .i64 s1,.slice a1 n1 c1,.slice a1' n1' c1'] 43));go_wp2_with fail;clear gA;have hs1:=g1.size;obtain ⟨W2,hW2,g2,hy2,B_S⟩:=pro1 w1 #[.int .i64 s1,.slice a1 n1 c1,.slice a1' n1' c1'] 43;rw [←hW2];clear hW2;have hb2:=g1.trans g2;have HB_S:=hid B_S;clear B_S;have he3:=(HE.o.trans hb2);replace ac:=hb2.cl ac;have hr4:Ext W2 W2:=Below.refl _ _;replace ac:=cland ac HB_S.o.a3;refine (CB.o _).mono ?_;rintro e w3 ⟨v3,rfl,k2,g3⟩;obtain ⟨s2,a2,n2,c2,a2',n2',c2',rfl⟩:=k2.shape;have gA:=g3.trans (Ext.alloc w3 (.cells #[.int .i64 s2,.slice a2 n2 c2,.slice a2' n2' c2'] 43));go_wp2_with fail;clear gA;have hs5:=g3.size;obtain ⟨W4,hW4,g4,hy4,B_N⟩:=pro1 w3 #[.int .i64 s2,.slice a2 n2 c2,.slice a2' n2' c2'] 43;rw [←hW4];clear hW4;have hb6:=g3.trans g4;have HB_N:=hid B_N;clear B_N;have he7:=(he3.trans hb6);replace ac:=hb6.cl ac;have hr8:Ext W4 W4:=Below.refl _ _;replace ac:=cland ac HB_N.o.a3;refine (CC.o _ _ _ (k2.ext g4) (k1.ext (g2.trans (g3.trans g4)))).mono ?_;rintro e w5 ⟨rfl,g5⟩
 rcases Nat.lt_or_ge n S with hlt | hge
 ·rw [if_pos hlt];have hd:decide ((0:Int) ≤ -1)=false:=by decide
  have HR:Hid (flipW E P (h*2^64+l)=n+S):=hid (by rw [HFL.o,if_neg (by omega)]);have HLT:=hid hlt;clear hlt;go_wp2_with fail;refine (raddq_c _ _ _ _ 201 _ ((k2.ext g4).ext g5) ((k1.ext (g2.trans (g3.trans g4))).ext g5) SN.o SS.o (by decide)).mono ?_;rintro e w6 ⟨v6,rfl,k3,g6⟩;have hb9:=g5.trans g6;rw [nat_add] at k3;go_wp2_with fail;refine (rpacked_c _ (n+S) _ k3 (by have:=HLT.o;have:=HST.o;omega)).mono ?_;rintro e w7 ⟨rfl,g7⟩;have hb10:=hb9.trans g7;obtain ⟨r0,r1,er⟩:=Word.shape (n+S);have ER:=hid er;clear er;rw [ER.o];obtain ⟨U11,U12⟩:=((HB_Z.o.ext (g1.trans (g2.trans (g3.trans g4)))).ext hb10).f2;go_wp2_with fail;clear U11 U12;obtain ⟨W8,hW8,g8,q8,B8,hy8,ho8⟩:=rsto2 (he7.trans hb10) (by omega) ((HB_Z.o.ext (g1.trans (g2.trans (g3.trans g4)))).ext hb10) (by decide) (.int .u64 (r0:Nat)) (.int .u64 (r1:Nat));rw [←hW8];clear hW8;replace HB_Z:=hid B8;obtain ⟨J13,J14⟩:=HB_Z.o.c2;refine bodyPost_ret (v:=.agg #[.int .u64 (r0:Nat),.int .u64 (r1:Nat)]) (by simp [results,Tryz.results32,go_sem,J13,J14]) rfl ⟨by rw [HR.o,ER.o],g8⟩
 ·obtain ⟨cc,hcc⟩:∃ c,c=(if n<S then -1 else if S<n then 1 else 0:Int):=⟨_,rfl⟩;rw [←hcc];have hd:decide ((0:Int)≤cc)=true:=decide_eq_true (by rw [hcc,if_neg (by omega)];split<;>omega);have HR:Hid (flipW E P (h*2^64+l)=n-S):=hid (by rw [HFL.o,if_pos hge]);have HGE:=hid hge;clear hge hcc;go_wp2_with fail;refine (rsubq_c _ _ _ _ 201 _ ((k2.ext g4).ext g5) ((k1.ext (g2.trans (g3.trans g4))).ext g5) SN.o SS.o (by decide)).mono ?_;rintro e w6 ⟨v6,rfl,k3,g6⟩;have hb9:=g5.trans g6;rw [nat_sub HGE.o] at k3;go_wp2_with fail;refine (rpacked_c _ (n-S) _ k3 (by have:=HNS.o;have:=HST.o;omega)).mono ?_;rintro e w7 ⟨rfl,g7⟩;have hb10:=hb9.trans g7;obtain ⟨r0,r1,er⟩:=Word.shape (n-S);have ER:=hid er;clear er;rw [ER.o];obtain ⟨U11,U12⟩:=((HB_Z.o.ext (g1.trans (g2.trans (g3.trans g4)))).ext hb10).f2;go_wp2_with fail;clear U11 U12;obtain ⟨W8,hW8,g8,q8,B8,hy8,ho8⟩:=rsto2 (he7.trans hb10) (by omega) ((HB_Z.o.ext (g1.trans (g2.trans (g3.trans g4)))).ext hb10) (by decide) (.int .u64 (r0:Nat)) (.int .u64 (r1:Nat));rw [←hW8];clear hW8;replace HB_Z:=hid B8;obtain ⟨J13,J14⟩:=HB_Z.o.c2;refine bodyPost_ret (v:=.agg #[.int .u64 (r0:Nat),.int .u64 (r1:Nat)]) (by simp [results,Tryz.results32,go_sem,J13,J14]) rfl ⟨by rw [HR.o,ER.o],g8⟩
theorem rflip_c (E P n:Nat) (w:World) (hF:Fmt E P) (hn:n<2^(E+P)):Calls Tryz.prog 32 #[.agg #[.int .i64 (E:Nat),.int .i64 (P:Nat)],Word n] w fun e w'=>e=.returned (Word (flipW E P n))∧Ext w w':=by
 have h128:n<340282366920938463463374607431768211456:=by
  refine Nat.lt_of_lt_of_le hn (Nat.le_trans (Nat.pow_le_pow_right (by decide) (show E+P≤124 from ?_)) (by decide));obtain ⟨_,_,_,_,_⟩:=hF;omega
 have e:n/18446744073709551616*2^64+n%18446744073709551616=n:=by omega
 have h:=rflip_hl E P (n/18446744073709551616) (n%18446744073709551616) w hF (by omega) (by omega) (by rw [e];exact hn);rw [e] at h
 exact h
theorem rcheck_c (E P:Int) (w:World) :
  Calls Tryz.prog 51 #[.agg #[.int .i64 E,.int .i64 P]] w fun e w'=>e=.returned (.int .i64 (fmtZ E P))∧Ext w w':=by
 obtain ⟨z,hz⟩:∃ z,z=fmtZ E P:=⟨_,rfl⟩;have HZ:=hid hz;rw [←HZ.o];clear hz;obtain ⟨W0,hW0,g0,hz0,B_F⟩:=pro1 w #[.int .i64 E,.int .i64 P] 23;have HE:=hid g0;have HB_F:=hid B_F;have ac:=HB_F.o.a2;have hr0:Ext W0 W0:=Below.refl _ _;clear g0 B_F 
 go_enter Tryz.func51,Tryz.ntmps51
 go_upto_region 1 with (fail)
 rw [←hW0];clear hW0
 by_cases hE:E<2
 ·have hd1:decide (E<2)=true:=decide_eq_true hE;have HC:=hid hE;go_wp2_with fail;go_ret
  exact ⟨(by show Ending.returned (.int .i64 2)=_;rw [HZ.o];unfold fmtZ;rw [if_neg (by have:=HC.o;unfold Fmt;omega)]),HE.o⟩
 ·by_cases hE:11<E
  ·have hd1:decide (E<2)=false:=decide_eq_false (by omega);have hd2:decide (11<E)=true:=decide_eq_true hE;have HC:=hid hE;go_wp2_with fail;go_ret
   exact ⟨(by show Ending.returned (.int .i64 2)=_;rw [HZ.o];unfold fmtZ;rw [if_neg (by have:=HC.o;unfold Fmt;omega)]),HE.o⟩
  ·by_cases hE:P<2
   ·have hd1:decide (E<2)=false:=decide_eq_false (by omega);have hd2:decide (11<E)=false:=decide_eq_false (by omega);have hd3:decide (P<2)=true:=decide_eq_true hE;have HC:=hid hE;go_wp2_with fail;go_ret
    exact ⟨(by show Ending.returned (.int .i64 2)=_;rw [HZ.o];unfold fmtZ;rw [if_neg (by have:=HC.o;unfold Fmt;omega)]),HE.o⟩
   ·by_cases hE:113<P
    ·have hd1:decide (E<2)=false:=decide_eq_false (by omega);have hd2:decide (11<E)=false:=decide_eq_false (by omega);have hd3:decide (P<2)=false:=decide_eq_false (by omega);have hd4:decide (113<P)=true:=decide_eq_true hE;have HC:=hid hE;go_wp2_with fail;go_ret
     exact ⟨(by show Ending.returned (.int .i64 2)=_;rw [HZ.o];unfold fmtZ;rw [if_neg (by have:=HC.o;unfold Fmt;omega)]),HE.o⟩
    ·by_cases hE:E+P<5
     ·have hd1:decide (E<2)=false:=decide_eq_false (by omega);have hd2:decide (11<E)=false:=decide_eq_false (by omega);have hd3:decide (P<2)=false:=decide_eq_false (by omega);have hd4:decide (113<P)=false:=decide_eq_false (by omega);have hd5:decide (E+P<5)=true:=decide_eq_true hE;have HC:=hid hE;go_wp2_with fail;go_ret
      exact ⟨(by show Ending.returned (.int .i64 2)=_;rw [HZ.o];unfold fmtZ;rw [if_neg (by have:=HC.o;unfold Fmt;omega)]),HE.o⟩
     ·have hd1:decide (E<2)=false:=decide_eq_false (by omega);have hd2:decide (11<E)=false:=decide_eq_false (by omega);have hd3:decide (P<2)=false:=decide_eq_false (by omega);have hd4:decide (113<P)=false:=decide_eq_false (by omega);have hd5:decide (E+P<5)=false:=decide_eq_false (by omega);have HC:Hid (Fmt E P):=hid (by unfold Fmt;omega);go_wp2_with fail;go_ret
      exact ⟨(by show Ending.returned (.int .i64 0)=_;rw [HZ.o];unfold fmtZ;rw [if_pos HC.o]),HE.o⟩
def askZ (E P m:Int):Int:=if 0≤m∧m≤4 then fmtZ E P else 2
theorem rasked_c (E P m:Int) (w:World) :
  Calls Tryz.prog 144 #[.agg #[.int .i64 E,.int .i64 P],.int .i64 m] w fun e w'=>e=.returned (.int .i64 (askZ E P m))∧Ext w w':=by
 obtain ⟨W0,hW0,g0,hz0,B_F⟩:=pro1 w #[.int .i64 E,.int .i64 P] 23;have HE:=hid g0;have HB_F:=hid B_F;have ac:=HB_F.o.a2;have hr0:Ext W0 W0:=Below.refl _ _;clear g0 B_F 
 go_enter Tryz.func144,Tryz.ntmps144
 go_upto_region 1 with (fail)
 rw [←hW0];clear hW0
 rcases (show m<0∨4<m∨(0≤m∧m≤4) by omega) with hm | hm | hm
 ·have HR:Hid (askZ E P m=2):=hid (by unfold askZ;rw [if_neg (by omega)]);have hd1:decide (m<0)=true:=decide_eq_true hm;clear hm;go_wp2_with fail;go_ret
  exact ⟨by rw [HR.o];rfl,HE.o⟩
 ·have HR:Hid (askZ E P m=2):=hid (by unfold askZ;rw [if_neg (by omega)]);have hd1:decide (m<0)=false:=decide_eq_false (by omega);have hd2:decide (4<m)=true:=decide_eq_true hm;clear hm;go_wp2_with fail;go_ret
  exact ⟨by rw [HR.o];rfl,HE.o⟩
 ·have HR:Hid (askZ E P m=fmtZ E P):=hid (by unfold askZ;rw [if_pos (by omega)]);have hd1:decide (m<0)=false:=decide_eq_false (by omega);have hd2:decide (4<m)=false:=decide_eq_false (by omega);obtain ⟨z,hz⟩:∃ z,z=fmtZ E P:=⟨_,rfl⟩;rw [←hz] at HR;have CC:Hid (∀ w,Calls Tryz.prog 51 #[.agg #[.int .i64 E,.int .i64 P]] w fun e w'=>e=.returned (.int .i64 z)∧Ext w w'):=hid fun w=>by rw [hz];exact rcheck_c E P w
  clear hm hz;go_wp2_with fail;refine (CC.o _).mono ?_;rintro e w1 ⟨rfl,g1⟩;go_wp2_with fail;go_ret
  exact ⟨by rw [HR.o];rfl,(HE.o.trans g1)⟩
theorem rbias_c (E P:Nat) (w:World) (hF:Fmt E P) :
  Calls Tryz.prog 126 #[.agg #[.int .i64 (E:Nat),.int .i64 (P:Nat)]] w fun e w'=>e=.returned (.int .i64 (bias E:Nat))∧Ext w w':=by
 obtain ⟨hE1,hE2,_,_,_⟩:=hF;obtain ⟨b,hb⟩:∃ b,b=bias E:=⟨_,rfl⟩;rw [←hb];have HB:=hid hb;clear hb;obtain ⟨W0,hW0,g0,hz0,B_F⟩:=pro1 w #[.int .i64 (E:Nat),.int .i64 (P:Nat)] 23;have HE:=hid g0;have HB_F:=hid B_F;have ac:=HB_F.o.a2;have hr0:Ext W0 W0:=Below.refl _ _;clear g0 B_F 
 go_enter Tryz.func126,Tryz.ntmps126
 go_upto_region 1 with (fail)
 rw [←hW0];clear hW0;go_wp2_with fail
 go_loopg [3,4] (E-1) (fun g x i wx=>∃ j:Nat,x=.int .i64 ((2^j:Nat):Int)∧i=.int .i64 ((j+1:Nat):Int)∧g+j+1=E∧Hid (Ext W0 wx))
 case atStart=>exact ⟨0,rfl,rfl,by omega,hid (Below.refl _ _)⟩
 case round =>
  obtain ⟨j,rfl,rfl,hj,HEr⟩:=hrel;have HXr:=hid (HB_F.o.ext HEr.o);obtain ⟨y0,y1⟩:=HXr.o.c2;have hp:2^j≤2^11:=Nat.pow_le_pow_right (by decide) (by omega);obtain ⟨p,hp2⟩:∃ p,p=2^j:=⟨_,rfl⟩;rw [←hp2] at hp ⊢;have HP:=hid hp2;clear hp2;have hp3:p≤2048:=hp;clear hp
  rcases Nat.eq_zero_or_pos gk with h0 | h0
  ·have hd:decide (j+1<E)=false:=decide_eq_false (by omega);have hd2:decide (((j:Int)+1)<(E:Int))=false:=decide_eq_false (by omega);have HJ:=hid hj;have HG:=hid h0;clear h0;go_wp2_with fail;go_ret
   exact ⟨(by rw [HB.o];unfold bias;rw [show E-1=j by have:=HJ.o;have:=HG.o;omega,←HP.o];show Ending.returned (.int .i64 ((p:Int)-1))=_;have h7:0<p:=(by rw [HP.o];exact Nat.pow_pos (by decide));rw [show ((p-1:Nat):Int)=(p:Int)-1 from (by omega)]),HE.o.trans HEr.o⟩
  ·have hd:decide (j+1<E)=true:=decide_eq_true (by omega);have hd2:decide (((j:Int)+1)<(E:Int))=true:=decide_eq_true (by omega);go_wp2_with fail
   go_roundg (gk-1)
   case measure=>omega
   case rel=>exact ⟨j+1,vint (by rw [Nat.pow_succ,←HP.o];omega),by go_num,by omega,HEr⟩
theorem rleast_c (E P:Nat) (w:World) (hF:Fmt E P) :
  Calls Tryz.prog 87 #[.agg #[.int .i64 (E:Nat),.int .i64 (P:Nat)]] w fun e w'=>∃ v,e=.returned v∧RNumV w' v ((2:Rat)^(2-(bias E:Int)-P))∧Ext w w':=by
 obtain ⟨b,hb⟩:∃ b,b=bias E:=⟨_,rfl⟩;rw [←hb];have hb1:b≤1023:=by rw [hb];exact (fmt_bounds hF).2.2.1
 have CB:Hid (∀ w,Calls Tryz.prog 126 #[.agg #[.int .i64 (E:Nat),.int .i64 (P:Nat)]] w fun e w'=>e=.returned (.int .i64 (b:Nat))∧Ext w w'):=hid fun w=>by rw [hb];exact rbias_c E P w hF
 obtain ⟨hE1,hE2,hP1,hP2,hEP⟩:=hF;clear hb;have hw1:IntKind.i64.wrap (2-(b:Int))=2-(b:Int):=IntWalk.i64_in _ (by omega);have hw2:IntKind.i64.wrap (2-(b:Int)-(P:Int))=2-(b:Int)-(P:Int):=IntWalk.i64_in _ (by omega);have CT:Hid (∀ w,Calls Tryz.prog 60 #[.int .i64 (2-(b:Int)-(P:Int))] w fun e w'=>∃ v,e=.returned v∧RNumV w' v ((2:Rat)^(2-(b:Int)-P))∧Ext w w'):=hid fun w=>rtwo_c _ w (by omega) (by omega);obtain ⟨W0,hW0,g0,hz0,B_F,B_Z⟩:=pro2s w #[.int .i64 (E:Nat),.int .i64 (P:Nat)] #[.int .i64 0,.slice none 0 0,.slice none 0 0] 23 43;have HE:=hid g0;have HB_F:=hid B_F;have HB_Z:=hid B_Z;have ac:=cland HB_F.o.a2 (HB_Z.o.a3);have hr0:Ext W0 W0:=Below.refl _ _;clear g0 B_F B_Z 
 go_enter Tryz.func87,Tryz.ntmps87
 go_upto_region 1 with (fail)
 rw [←hW0];clear hW0;have kc:=(Box.bt (z:=w.heap.size+1) HB_F.o (by omega) Box.n2);have g1:Ext W0 W0.drew:=Below.drew (Below.refl _ _);refine wp_region_held_drew (S:=But W0 (w.heap.size+1)) (by kernel_rfl) (g1.but) (fun hHeld => ?_);generalize W0.drew=wD1 at *
 apply wts 0 3 rfl rfl (by kernel_rfl) (fun _ _ _ h=>h) hHeld
 ·intro w' hSw;go_simp<;>with_reducible rfl
 apply wts 3 6 rfl rfl (by kernel_rfl) (fun _ _ _ h=>h) hHeld
 ·intro w' hSw;go_simp<;>with_reducible rfl
 apply wts 4 7 rfl rfl (by kernel_rfl) (fun _ _ _ h=>h) hHeld
 ·intro w' hSw;go_simp<;>with_reducible rfl
 try simp only [Act.put,pA,pB,pC]
 refine wonc 1 4 126 #[.tmp 3] #[23] 3 (by kernel_rfl) rfl rfl (fun KK hKK => ?_);go_simp;refine (CB.o _).mono ?_;rintro e w2 ⟨rfl,g2⟩;have hb1:=g1.trans g2
 try dsimp only
 refine hKK.out _ _ (hb1.but) (fun hHeld => ?_);apply wts 2 5 rfl rfl (by kernel_rfl) (fun _ _ _ h=>h) hHeld
 ·intro w' hSw;go_simp<;>with_reducible rfl
 apply wts 5 8 rfl rfl (by kernel_rfl) (fun _ _ _ h=>h) hHeld
 ·intro w' hSw;go_simp<;>with_reducible rfl
 try simp only [Act.put,pA,pB,pC]
 refine wonc 6 9 60 #[.tmp 8] #[3] 43 (by kernel_rfl) rfl rfl (fun KK hKK => ?_);go_simp;refine (CT.o _).mono ?_;rintro e w3 ⟨v3,rfl,k9,g3⟩;have hb2:=hb1.trans g3;obtain ⟨s9,a9,n9,c9,a9',n9',c9',rfl⟩:=k9.shape
 try dsimp only
 refine hKK.out _ _ (hb2.but) (fun hHeld => ?_)
 try simp only [Act.put,pA,pB,pC]
 refine wons 7 43 2 9 (by kernel_rfl) rfl rfl (fun KK hKK => ?_);obtain ⟨U3,U4,U5⟩:=(HB_Z.o.ext hb2).f3;go_simp;clear U3 U4 U5;obtain ⟨W4,hW4,g4,q4,B4,hy4,ho4⟩:=rsto3 (HE.o.trans hb2) (by omega) (HB_Z.o.ext hb2) (by decide) (.int .i64 s9) (.slice a9 n9 c9) (.slice a9' n9' c9');rw [←hW4];clear hW4;replace HB_Z:=hid B4;have hq4:But W0 (w.heap.size+1) W4:=But.sto (hb2.but) ho4
 try dsimp only
 refine hKK.out _ _ (hq4) (fun hHeld => ?_);refine wpAnyH_done (by kernel_rfl) ?_ _;have ac:=cland (ho4 _ _ _ (by omega) (HB_F.o.ext (g1.trans (g2.trans g3)))).a2 (HB_Z.o.a3);have hr6:Ext W4 W4:=Below.refl _ _;go_wp2_with fail;obtain ⟨J7,J8,J9⟩:=HB_Z.o.c3;refine bodyPost_ret (v:=.agg #[.int .i64 s9,.slice a9 n9 c9,.slice a9' n9' c9']) (by simp [results,Tryz.results87,go_sem,J7,J8,J9]) rfl ⟨_,rfl,(k9.keepR q4),g4⟩
theorem rnormal_c (E P:Nat) (w:World) (hF:Fmt E P) :
  Calls Tryz.prog 173 #[.agg #[.int .i64 (E:Nat),.int .i64 (P:Nat)]] w fun e w'=>∃ v,e=.returned v∧RNumV w' v ((2:Rat)^(1-(bias E:Int)))∧Ext w w':=by
 obtain ⟨b,hb⟩:∃ b,b=bias E:=⟨_,rfl⟩;rw [←hb];have hb1:b≤1023:=by rw [hb];exact (fmt_bounds hF).2.2.1
 have CB:Hid (∀ w,Calls Tryz.prog 126 #[.agg #[.int .i64 (E:Nat),.int .i64 (P:Nat)]] w fun e w'=>e=.returned (.int .i64 (b:Nat))∧Ext w w'):=hid fun w=>by rw [hb];exact rbias_c E P w hF
 obtain ⟨hE1,hE2,hP1,hP2,hEP⟩:=hF;clear hb;have CT:Hid (∀ w,Calls Tryz.prog 60 #[.int .i64 (1-(b:Int))] w fun e w'=>∃ v,e=.returned v∧RNumV w' v ((2:Rat)^(1-(b:Int)))∧Ext w w'):=hid fun w=>rtwo_c _ w (by omega) (by omega);obtain ⟨W0,hW0,g0,hz0,B_F,B_Z⟩:=pro2s w #[.int .i64 (E:Nat),.int .i64 (P:Nat)] #[.int .i64 0,.slice none 0 0,.slice none 0 0] 23 43;have HE:=hid g0;have HB_F:=hid B_F;have HB_Z:=hid B_Z;have ac:=cland HB_F.o.a2 (HB_Z.o.a3);have hr0:Ext W0 W0:=Below.refl _ _;clear g0 B_F B_Z 
 go_enter Tryz.func173,Tryz.ntmps173
 go_upto_region 1 with (fail)
 rw [←hW0];clear hW0;go_wp2_with fail;refine (CB.o _).mono ?_;rintro e w1 ⟨rfl,g1⟩;go_wp2_with fail;refine (CT.o _).mono ?_;rintro e w2 ⟨v2,rfl,k9,g2⟩;have hb1:=g1.trans g2;obtain ⟨s9,a9,n9,c9,a9',n9',c9',rfl⟩:=k9.shape;obtain ⟨U2,U3,U4⟩:=(HB_Z.o.ext hb1).f3;go_wp2_with fail;clear U2 U3 U4;obtain ⟨W3,hW3,g3,q3,B3,hy3,ho3⟩:=rsto3 (HE.o.trans hb1) (by omega) (HB_Z.o.ext hb1) (by decide) (.int .i64 s9) (.slice a9 n9 c9) (.slice a9' n9' c9');rw [←hW3];clear hW3;replace HB_Z:=hid B3;obtain ⟨J5,J6,J7⟩:=HB_Z.o.c3;refine bodyPost_ret (v:=.agg #[.int .i64 s9,.slice a9 n9 c9,.slice a9' n9' c9']) (by simp [results,Tryz.results173,go_sem,J5,J6,J7]) rfl ⟨_,rfl,(k9.keepR q3),g3⟩
theorem rgreatest_c (E P:Nat) (w:World) (hF:Fmt E P) :
  Calls Tryz.prog 151 #[.agg #[.int .i64 (E:Nat),.int .i64 (P:Nat)]] w fun e w'=>∃ v,e=.returned v∧RNumV w' v (grQ P (bias E))∧Ext w w':=by
 obtain ⟨b,hb⟩:∃ b,b=bias E:=⟨_,rfl⟩;rw [←hb];have hb1:b≤1023:=by rw [hb];exact (fmt_bounds hF).2.2.1
 have CB:Hid (∀ w,Calls Tryz.prog 126 #[.agg #[.int .i64 (E:Nat),.int .i64 (P:Nat)]] w fun e w'=>e=.returned (.int .i64 (b:Nat))∧Ext w w'):=hid fun w=>by rw [hb];exact rbias_c E P w hF
 obtain ⟨hE1,hE2,hP1,hP2,hEP⟩:=hF;clear hb;have hw1:IntKind.i64.wrap ((b:Int)-(P:Int))=(b:Int)-(P:Int):=IntWalk.i64_in _ (by omega);have hw2:IntKind.i64.wrap ((b:Int)-(P:Int)+1)=(b:Int)-(P:Int)+1:=IntWalk.i64_in _ (by omega);have hlt:2^P<2^200:=Nat.pow_lt_pow_right (by decide) (by omega);have hp0:0<2^P:=Nat.pow_pos (by decide);obtain ⟨N,hN⟩:∃ N,N=2^P:=⟨_,rfl⟩;rw [←hN] at hlt hp0;have SN:Hid (SmQ 201 ((N:Nat):Rat)):=hid (nat_sm hlt);have S1:Hid (SmQ 201 ((1:Nat):Rat)):=hid (nat_sm (Nat.lt_of_le_of_lt hp0 hlt));have SM:Hid (SmQ 201 ((N-1:Nat):Rat)):=hid (nat_sm (Nat.lt_of_le_of_lt (Nat.sub_le _ _) hlt));have CT:Hid (∀ w,Calls Tryz.prog 60 #[.int .i64 (P:Nat)] w fun e w'=>∃ v,e=.returned v∧RNumV w' v ((N:Nat):Rat)∧Ext w w'):=hid fun w=>by
  have h:=rtwo_c (P:Int) w (by omega) (by omega);rw [p2_nat,←hN] at h;exact h
 have CS:Hid (∀ w u v,RNumV w u ((N:Nat):Rat)→RNumV w v ((1:Nat):Rat)→Calls Tryz.prog 89 #[u,v] w fun e w'=>∃ v,e=.returned v∧RNumV w' v ((N-1:Nat):Rat)∧Ext w w'):=hid fun w u v h1 h2=>by
  have h:=rsubq_c u v _ _ 201 w h1 h2 SN.o S1.o (by decide);rw [nat_sub hp0] at h;exact h
 have CSH:Hid (∀ w u,RNumV w u ((N-1:Nat):Rat)→Calls Tryz.prog 125 #[u,.int .i64 ((b:Int)-(P:Int)+1)] w fun e w'=>∃ v,e=.returned v∧RNumV w' v (grQ P b)∧Ext w w'):=hid fun w u h1=>by
  have h:=rshiftq_c u _ 201 ((b:Int)-(P:Int)+1) w h1 SM.o (by omega) (by omega) (by decide);unfold grQ;rw [←hN];exact h
 have CI:Hid (∀ w,Calls Tryz.prog 86 #[.int .i64 1] w fun e w'=>∃ v,e=.returned v∧RNumV w' v ((1:Nat):Rat)∧Ext w w'):=hid fun w=>rint_i 1 1 w rfl (by decide);clear hlt hp0 hN;obtain ⟨W0,hW0,g0,hz0,B_F,B_Z⟩:=pro2s w #[.int .i64 (E:Nat),.int .i64 (P:Nat)] #[.int .i64 0,.slice none 0 0,.slice none 0 0] 23 43;have HE:=hid g0;have HB_F:=hid B_F;have HB_Z:=hid B_Z;have ac:=cland HB_F.o.a2 (HB_Z.o.a3);have hr0:Ext W0 W0:=Below.refl _ _;clear g0 B_F B_Z 
 go_enter Tryz.func151,Tryz.ntmps151
 go_upto_region 1 with (fail)
 rw [←hW0];clear hW0;go_wp2_with fail;refine (CT.o _).mono ?_;rintro e w1 ⟨v1,rfl,k1,g1⟩;go_wp2_with fail;refine (CI.o _).mono ?_;rintro e w2 ⟨v2,rfl,k2,g2⟩;have hb1:=g1.trans g2;go_wp2_with fail;refine (CS.o _ _ _ (k1.ext g2) k2).mono ?_;rintro e w3 ⟨v3,rfl,k3,g3⟩;have hb2:=hb1.trans g3;obtain ⟨s3,a3,n3,c3,a3',n3',c3',rfl⟩:=k3.shape;clear k1 k2;have gA:=hb2.trans (Ext.alloc w3 (.cells #[.int .i64 s3,.slice a3 n3 c3,.slice a3' n3' c3'] 43))
 go_upto_region 2 with (fail)
 clear gA;have hs3:=(g1.trans (g2.trans g3)).size;obtain ⟨W4,hW4,g4,hy4,B_M⟩:=pro1 w3 #[.int .i64 s3,.slice a3 n3 c3,.slice a3' n3' c3'] 43;rw [←hW4];clear hW4;have hb4:=hb2.trans g4;have HB_M:=hid B_M;clear B_M;have he5:=(HE.o.trans hb4);replace ac:=hb4.cl ac;have hr6:Ext W4 W4:=Below.refl _ _;replace ac:=cland ac HB_M.o.a3;have kc:=cland (Box.bt (z:=w.heap.size+1) (HB_F.o.ext (g1.trans (g2.trans (g3.trans g4)))) (by omega) Box.n2) ((Box.bt (z:=w.heap.size+1) HB_M.o (by omega) Box.n3));have g5:Ext W4 W4.drew:=Below.drew (Below.refl _ _);refine wp_region_held_drew (S:=But W4 (w.heap.size+1)) (by kernel_rfl) (g5.but) (fun hHeld => ?_);generalize W4.drew=wD5 at *
 apply wts 0 9 rfl rfl (by kernel_rfl) (fun _ _ _ h=>h) hHeld
 ·intro w' hSw;go_simp<;>with_reducible rfl
 apply wts 1 10 rfl rfl (by kernel_rfl) (fun _ _ _ h=>h) hHeld
 ·intro w' hSw;go_simp<;>with_reducible rfl
 apply wts 3 12 rfl rfl (by kernel_rfl) (fun _ _ _ h=>h) hHeld
 ·intro w' hSw;go_simp<;>with_reducible rfl
 apply wts 4 13 rfl rfl (by kernel_rfl) (fun _ _ _ h=>h) hHeld
 ·intro w' hSw;go_simp<;>with_reducible rfl
 try simp only [Act.put,pA,pB,pC]
 refine wonc 2 11 126 #[.tmp 10] #[23] 3 (by kernel_rfl) rfl rfl (fun KK hKK => ?_);go_simp;refine (CB.o _).mono ?_;rintro e w6 ⟨rfl,g6⟩;have hb7:=g5.trans g6
 try dsimp only
 refine hKK.out _ _ (hb7.but) (fun hHeld => ?_);apply wts 5 14 rfl rfl (by kernel_rfl) (fun _ _ _ h=>h) hHeld
 ·intro w' hSw;go_simp<;>with_reducible rfl
 apply wts 6 15 rfl rfl (by kernel_rfl) (fun _ _ _ h=>h) hHeld
 ·intro w' hSw;go_simp<;>with_reducible rfl
 try simp only [Act.put,pA,pB,pC]
 refine wonc 7 16 125 #[.tmp 9,.tmp 15] #[43,3] 43 (by kernel_rfl) rfl rfl (fun KK hKK => ?_);go_simp;refine (CSH.o _ _ ((k3.ext g4).ext hb7)).mono ?_;rintro e w7 ⟨v7,rfl,k9,g7⟩;have hb8:=hb7.trans g7;obtain ⟨s9,a9,n9,c9,a9',n9',c9',rfl⟩:=k9.shape
 try dsimp only
 refine hKK.out _ _ (hb8.but) (fun hHeld => ?_)
 try simp only [Act.put,pA,pB,pC]
 refine wons 8 43 2 16 (by kernel_rfl) rfl rfl (fun KK hKK => ?_);obtain ⟨U9,U10,U11⟩:=((HB_Z.o.ext (g1.trans (g2.trans (g3.trans g4)))).ext hb8).f3;go_simp;clear U9 U10 U11;obtain ⟨W8,hW8,g8,q8,B8,hy8,ho8⟩:=rsto3 (he5.trans hb8) (by omega) ((HB_Z.o.ext (g1.trans (g2.trans (g3.trans g4)))).ext hb8) (by decide) (.int .i64 s9) (.slice a9 n9 c9) (.slice a9' n9' c9');rw [←hW8];clear hW8;replace HB_Z:=hid B8;have hq8:But W4 (w.heap.size+1) W8:=But.sto (hb8.but) ho8
 try dsimp only
 refine hKK.out _ _ (hq8) (fun hHeld => ?_);refine wpAnyH_done (by kernel_rfl) ?_ _;have ac:=cland (ho8 _ _ _ (by omega) (HB_F.o.ext (g1.trans (g2.trans (g3.trans (g4.trans (g5.trans (g6.trans g7)))))))).a2 (cland HB_Z.o.a3 ((ho8 _ _ _ (by omega) (HB_M.o.ext (g5.trans (g6.trans g7)))).a3));have hr12:Ext W8 W8:=Below.refl _ _;go_wp2_with fail;obtain ⟨J13,J14,J15⟩:=HB_Z.o.c3;refine bodyPost_ret (v:=.agg #[.int .i64 s9,.slice a9 n9 c9,.slice a9' n9' c9']) (by simp [results,Tryz.results151,go_sem,J13,J14,J15]) rfl ⟨_,rfl,(k9.keepR q8),g8⟩
theorem rbelow_c (E P:Nat) (x:Value) (q:Rat) (K:Nat) (w:World) (hF:Fmt E P) (hx:RNumV w x q) (sx:SmQ K q) (hK:K≤1000000) :
  Calls Tryz.prog 123 #[.agg #[.int .i64 (E:Nat),.int .i64 (P:Nat)],x] w fun e w'=>e=.returned (.bool (decide (absQ q<(2:Rat)^(1-(bias E:Int)))))∧Ext w w':=by
 obtain ⟨s1,a1,n1,c1,a1',n1',c1',rfl⟩:=hx.shape;have hvx:=hx;have HF:=hid hF;obtain ⟨b,hb⟩:∃ b,b=decide (absQ q<(2:Rat)^(1-(bias E:Int))):=⟨_,rfl⟩;have HB:=hid hb;rw [←HB.o];obtain ⟨cc,hcc⟩:∃ c,c=cmpQ (absQ q) ((2:Rat)^(1-(bias E:Int))):=⟨_,rfl⟩;have hd:decide (cc<0)=b:=by rw [hb,decide_eq_decide,hcc];exact cmpQ_lt
 have CC:Hid (∀ w u v,RNumV w u (absQ q)→RNumV w v ((2:Rat)^(1-(bias E:Int)))→Calls Tryz.prog 59 #[u,v] w fun e w'=>e=.returned (.int .i64 cc)∧Ext w w'):=hid fun w u v h1 h2=>by
  rw [hcc];exact rcmpq_c u v _ _ (K+2000) w h1 h2 (sx.absQ.mono (by omega)) ((p2_sm (L:=1025) (by have:=(fmt_bounds hF).2.2.1;omega)).mono (by omega)) (by omega)
 clear hx hb hcc sx hK hF;obtain ⟨W0,hW0,g0,hz0,B_F,B_X⟩:=pro2s w #[.int .i64 (E:Nat),.int .i64 (P:Nat)] #[.int .i64 s1,.slice a1 n1 c1,.slice a1' n1' c1'] 23 43;have HE:=hid g0;have HB_F:=hid B_F;have HB_X:=hid B_X;have ac:=cland HB_F.o.a2 (HB_X.o.a3);have hr0:Ext W0 W0:=Below.refl _ _;clear g0 B_F B_X 
 go_enter Tryz.func123,Tryz.ntmps123
 go_upto_region 1 with (fail)
 rw [←hW0];clear hW0;replace hvx:=hvx.ext HE.o;have g1:Ext W0 W0.drew:=Below.drew (Below.refl _ _);refine wp_region_held_drew (S:=Ext W0) (by kernel_rfl) (g1) (fun hHeld => ?_);generalize W0.drew=wD1 at *
 apply wts 0 5 rfl rfl (by kernel_rfl) (fun _ _ _ h=>h) hHeld
 ·intro w' hSw;go_simp<;>with_reducible rfl
 apply wts 2 7 rfl rfl (by kernel_rfl) (fun _ _ _ h=>h) hHeld
 ·intro w' hSw;go_simp<;>with_reducible rfl
 try simp only [Act.put,pA,pB,pC]
 refine wonc 1 6 55 #[.tmp 5] #[43] 43 (by kernel_rfl) rfl rfl (fun KK hKK => ?_);go_simp;refine (rabs_c _ q _ (hvx.ext g1)).mono ?_;rintro e w2 ⟨v2,rfl,k1,g2⟩;have hb1:=g1.trans g2
 try dsimp only
 refine hKK.out _ _ (hb1) (fun hHeld => ?_)
 try simp only [Act.put,pA,pB,pC]
 refine wonc 3 8 173 #[.tmp 7] #[23] 43 (by kernel_rfl) rfl rfl (fun KK hKK => ?_);go_simp;refine (rnormal_c E P _ HF.o).mono ?_;rintro e w3 ⟨v3,rfl,k2,g3⟩;have hb2:=hb1.trans g3
 try dsimp only
 refine hKK.out _ _ (hb2) (fun hHeld => ?_)
 try simp only [Act.put,pA,pB,pC]
 refine wonc 4 9 59 #[.tmp 6,.tmp 8] #[43,43] 3 (by kernel_rfl) rfl rfl (fun KK hKK => ?_);go_simp;refine (CC.o _ _ _ (k1.ext g3) k2).mono ?_;rintro e w4 ⟨rfl,g4⟩;have hb3:=hb2.trans g4
 try dsimp only
 refine hKK.out _ _ (hb3) (fun hHeld => ?_);apply wts 5 10 rfl rfl (by kernel_rfl) (fun _ _ _ h=>h) hHeld
 ·intro w' hSw;go_simp<;>with_reducible rfl
 apply wts 6 4 rfl rfl (by kernel_rfl) (fun _ _ _ h=>h) hHeld
 ·intro w' hSw;go_simp<;>with_reducible rfl
 refine wpAnyH_done (by kernel_rfl) ?_ _;go_wp2_with fail;go_ret
 exact ⟨rfl,(HE.o.trans hb3)⟩
theorem grQ_smF {E P:Nat} (hF:Fmt E P):SmQ 2000 (grQ P (bias E)):=by
 obtain ⟨h1,h2,h3,h4,h5⟩:=fmt_bounds hF;have h6:2^P≤2^113:=Nat.pow_le_pow_right (by decide) (by omega);unfold grQ
 exact ((nat_sm (K:=113) (n:=2^P-1) (by have:0<2^P:=Nat.pow_pos (by decide);omega)).mul_p2 _ 1200 (by omega)).mono (by decide)
theorem rtimes_c (x y:Value) (q r:Rat) (K:Nat) (w:World) (hx:RNumV w x q) (hy:RNumV w y r) (sx:SmQ K q) (sy:SmQ K r) (hK:K≤10000000) :
  Calls Tryz.prog 148 #[x,y] w fun e w'=>∃ v,e=.returned v∧RNumV w' v (q*r)∧Ext w w':=by
 obtain ⟨s1,a1,n1,c1,a1',n1',c1',rfl⟩:=hx.shape;obtain ⟨s2,a2,n2,c2,a2',n2',c2',rfl⟩:=hy.shape;have hvx:=hx;have hvy:=hy;clear hx hy;obtain ⟨W0,hW0,g0,hz0,B_X,B_Y,B_Z⟩:=pro3s w #[.int .i64 s1,.slice a1 n1 c1,.slice a1' n1' c1'] #[.int .i64 s2,.slice a2 n2 c2,.slice a2' n2' c2'] #[.int .i64 0,.slice none 0 0,.slice none 0 0] 43 43 43;have HE:=hid g0;have HB_X:=hid B_X;have HB_Y:=hid B_Y;have HB_Z:=hid B_Z;have ac:=cland HB_X.o.a3 (cland HB_Y.o.a3 (HB_Z.o.a3));have hr0:Ext W0 W0:=Below.refl _ _;clear g0 B_X B_Y B_Z 
 go_enter Tryz.func148,Tryz.ntmps148
 go_upto_region 1 with (fail)
 rw [←hW0];clear hW0;replace hvx:=hvx.ext HE.o;replace hvy:=hvy.ext HE.o;go_wp2_with fail;refine (rmulq_c _ _ q r K _ hvx hvy sx sy hK).mono ?_;rintro e w1 ⟨v1,rfl,k9,g1⟩;obtain ⟨s9,a9,n9,c9,a9',n9',c9',rfl⟩:=k9.shape;obtain ⟨U1,U2,U3⟩:=(HB_Z.o.ext g1).f3;go_wp2_with fail;clear U1 U2 U3;obtain ⟨W2,hW2,g2,q2,B2,hy2,ho2⟩:=rsto3 (HE.o.trans g1) (by omega) (HB_Z.o.ext g1) (by decide) (.int .i64 s9) (.slice a9 n9 c9) (.slice a9' n9' c9');rw [←hW2];clear hW2;replace HB_Z:=hid B2;obtain ⟨J4,J5,J6⟩:=HB_Z.o.c3;refine bodyPost_ret (v:=.agg #[.int .i64 s9,.slice a9 n9 c9,.slice a9' n9' c9']) (by simp [results,Tryz.results148,go_sem,J4,J5,J6]) rfl ⟨_,rfl,(k9.keepR q2),g2⟩
theorem rover_c (x y:Value) (q r:Rat) (K:Nat) (w:World) (hx:RNumV w x q) (hy:RNumV w y r) (sx:SmQ K q) (sy:SmQ K r) (hK:K≤10000000) (hr:r≠0) :
  Calls Tryz.prog 121 #[x,y] w fun e w'=>∃ v,e=.returned v∧RNumV w' v (q/r)∧Ext w w':=by
 obtain ⟨s1,a1,n1,c1,a1',n1',c1',rfl⟩:=hx.shape;obtain ⟨s2,a2,n2,c2,a2',n2',c2',rfl⟩:=hy.shape;have hvx:=hx;have hvy:=hy;clear hx hy;have HR:=hid hr;clear hr;obtain ⟨W0,hW0,g0,hz0,B_X,B_Y,B_Z⟩:=pro3s w #[.int .i64 s1,.slice a1 n1 c1,.slice a1' n1' c1'] #[.int .i64 s2,.slice a2 n2 c2,.slice a2' n2' c2'] #[.int .i64 0,.slice none 0 0,.slice none 0 0] 43 43 43;have HE:=hid g0;have HB_X:=hid B_X;have HB_Y:=hid B_Y;have HB_Z:=hid B_Z;have ac:=cland HB_X.o.a3 (cland HB_Y.o.a3 (HB_Z.o.a3));have hr0:Ext W0 W0:=Below.refl _ _;clear g0 B_X B_Y B_Z 
 go_enter Tryz.func121,Tryz.ntmps121
 go_upto_region 1 with (fail)
 rw [←hW0];clear hW0;replace hvx:=hvx.ext HE.o;replace hvy:=hvy.ext HE.o;go_wp2_with fail;refine (rquoq_c _ _ q r K _ hvx hvy sx sy hK HR.o).mono ?_;rintro e w1 ⟨v1,rfl,k9,g1⟩;obtain ⟨s9,a9,n9,c9,a9',n9',c9',rfl⟩:=k9.shape;have gA:=g1.trans (Ext.alloc w1 (.cells #[.int .i64 s9,.slice a9 n9 c9,.slice a9' n9' c9'] 43))
 go_upto_region 2 with (fail)
 clear gA;have hs1:=g1.size;obtain ⟨W2,hW2,g2,hy2,B_Q⟩:=pro1 w1 #[.int .i64 s9,.slice a9 n9 c9,.slice a9' n9' c9'] 43;rw [←hW2];clear hW2;have hb2:=g1.trans g2;have HB_Q:=hid B_Q;clear B_Q;have he3:=(HE.o.trans hb2);replace ac:=hb2.cl ac;have hr4:Ext W2 W2:=Below.refl _ _;replace ac:=cland ac HB_Q.o.a3;obtain ⟨U5,U6,U7⟩:=(HB_Z.o.ext (g1.trans g2)).f3;go_wp2_with fail;clear U5 U6 U7;obtain ⟨W3,hW3,g3,q3,B3,hy3,ho3⟩:=rsto3 he3 (by omega) (HB_Z.o.ext (g1.trans g2)) (by decide) (.int .i64 s9) (.slice a9 n9 c9) (.slice a9' n9' c9');rw [←hW3];clear hW3;replace HB_Z:=hid B3;obtain ⟨J8,J9,J10⟩:=HB_Z.o.c3;refine bodyPost_ret (v:=.agg #[.int .i64 s9,.slice a9 n9 c9,.slice a9' n9' c9']) (by simp [results,Tryz.results121,go_sem,J8,J9,J10]) rfl ⟨_,rfl,((k9.ext g2).keepR q3),g3⟩
theorem ris_c (E P n:Nat) (w:World) (hF:Fmt E P) (hn:n<340282366920938463463374607431768211456) :
  Calls Tryz.prog 145 #[.agg #[.int .i64 (E:Nat),.int .i64 (P:Nat)],Word n] w fun e w'=>e=.returned (.bool (decide (n<2^(E+P))))∧Ext w w':=by
 obtain ⟨h,l,er⟩:=Word.shape n;have HF:=hid hF;have CW:Hid (∀ w,Calls Tryz.prog 90 #[.agg #[.int .u64 (h:Nat),.int .u64 (l:Nat)]] w fun e w'=>∃ v,e=.returned v∧RNumV w' v ((n:Nat):Rat)∧Ext w w'):=hid fun w=>by
  rw [←er];exact rbits_c n w hn
 obtain ⟨k,hk⟩:∃ k,k=E+P:=⟨_,rfl⟩;have hk2:k≤124:=by rw [hk];exact (fmt_bounds hF).2.2.2.1
 have hlt:2^k≤2^124:=Nat.pow_le_pow_right (by decide) hk2;obtain ⟨N,hN⟩:∃ N,N=2^k:=⟨_,rfl⟩;rw [←hN] at hlt;obtain ⟨b,hb⟩:∃ b,b=decide (n<2^(E+P)):=⟨_,rfl⟩;have HB:=hid hb;rw [←HB.o,er];have hki:(E:Int)+(P:Int)=(k:Int):=by omega
 obtain ⟨cc,hcc⟩:∃ c,c=cmpQ ((n:Nat):Rat) ((N:Nat):Rat):=⟨_,rfl⟩;have hd:decide (cc<0)=b:=by rw [hb,←hk,←hN,decide_eq_decide,hcc,cmpQ_lt,Rat.natCast_lt_natCast]
 have CC:Hid (∀ w u v,RNumV w u ((n:Nat):Rat)→RNumV w v ((N:Nat):Rat)→Calls Tryz.prog 59 #[u,v] w fun e w'=>e=.returned (.int .i64 cc)∧Ext w w'):=hid fun w u v h1 h2=>by
  rw [hcc];exact rcmpq_c u v _ _ 201 w h1 h2 (nat_sm (by omega)) (nat_sm (by omega)) (by decide)
 have CT:Hid (∀ w,Calls Tryz.prog 60 #[.int .i64 ((E:Int)+(P:Int))] w fun e w'=>∃ v,e=.returned v∧RNumV w' v ((N:Nat):Rat)∧Ext w w'):=hid fun w=>by
  have h2:=rtwo_c (k:Int) w (by omega) (by omega);rw [p2_nat,←hN,←hki] at h2;exact h2
 have hE:E≤11:=(fmt_bounds hF).1.2;have hP:P≤113:=(fmt_bounds hF).2.1.2;have hw:IntKind.i64.wrap ((E:Int)+(P:Int))=(E:Int)+(P:Int):=IntWalk.i64_in _ (by omega);clear hF hn er hk hk2 hlt hN hb hki hcc;obtain ⟨W0,hW0,g0,hz0,B_F,B_W⟩:=pro2s w #[.int .i64 (E:Nat),.int .i64 (P:Nat)] #[.int .u64 (h:Nat),.int .u64 (l:Nat)] 23 29;have HE:=hid g0;have HB_F:=hid B_F;have HB_W:=hid B_W;have ac:=cland HB_F.o.a2 (HB_W.o.a2);have hr0:Ext W0 W0:=Below.refl _ _;clear g0 B_F B_W 
 go_enter Tryz.func145,Tryz.ntmps145
 go_upto_region 1 with (fail)
 rw [←hW0];clear hW0;have g1:Ext W0 W0.drew:=Below.drew (Below.refl _ _);refine wp_region_held_drew (S:=Ext W0) (by kernel_rfl) (g1) (fun hHeld => ?_);generalize W0.drew=wD1 at *
 apply wts 0 5 rfl rfl (by kernel_rfl) (fun _ _ _ h=>h) hHeld
 ·intro w' hSw;go_simp<;>with_reducible rfl
 apply wts 2 7 rfl rfl (by kernel_rfl) (fun _ _ _ h=>h) hHeld
 ·intro w' hSw;go_simp<;>with_reducible rfl
 apply wts 3 8 rfl rfl (by kernel_rfl) (fun _ _ _ h=>h) hHeld
 ·intro w' hSw;go_simp<;>with_reducible rfl
 apply wts 4 9 rfl rfl (by kernel_rfl) (fun _ _ _ h=>h) hHeld
 ·intro w' hSw;go_simp<;>with_reducible rfl
 apply wts 5 10 rfl rfl (by kernel_rfl) (fun _ _ _ h=>h) hHeld
 ·intro w' hSw;go_simp<;>with_reducible rfl
 apply wts 6 11 rfl rfl (by kernel_rfl) (fun _ _ _ h=>h) hHeld
 ·intro w' hSw;go_simp<;>with_reducible rfl
 try simp only [Act.put,pA,pB,pC]
 refine wonc 1 6 90 #[.tmp 5] #[29] 43 (by kernel_rfl) rfl rfl (fun KK hKK => ?_);go_simp;refine (CW.o _).mono ?_;rintro e w2 ⟨v2,rfl,k1,g2⟩;have hb1:=g1.trans g2
 try dsimp only
 refine hKK.out _ _ (hb1) (fun hHeld => ?_)
 try simp only [Act.put,pA,pB,pC]
 refine wonc 7 12 60 #[.tmp 11] #[3] 43 (by kernel_rfl) rfl rfl (fun KK hKK => ?_);go_simp;refine (CT.o _).mono ?_;rintro e w3 ⟨v3,rfl,k2,g3⟩;have hb2:=hb1.trans g3
 try dsimp only
 refine hKK.out _ _ (hb2) (fun hHeld => ?_)
 try simp only [Act.put,pA,pB,pC]
 refine wonc 8 13 59 #[.tmp 6,.tmp 12] #[43,43] 3 (by kernel_rfl) rfl rfl (fun KK hKK => ?_);go_simp;refine (CC.o _ _ _ (k1.ext g3) k2).mono ?_;rintro e w4 ⟨rfl,g4⟩;have hb3:=hb2.trans g4
 try dsimp only
 refine hKK.out _ _ (hb3) (fun hHeld => ?_);apply wts 9 14 rfl rfl (by kernel_rfl) (fun _ _ _ h=>h) hHeld
 ·intro w' hSw;go_simp<;>with_reducible rfl
 apply wts 10 4 rfl rfl (by kernel_rfl) (fun _ _ _ h=>h) hHeld
 ·intro w' hSw;go_simp<;>with_reducible rfl
 refine wpAnyH_done (by kernel_rfl) ?_ _;go_wp2_with fail;go_ret
 exact ⟨rfl,(HE.o.trans hb3)⟩
theorem rtop_c (E P:Nat) (w:World) (hF:Fmt E P) :
  Calls Tryz.prog 63 #[.agg #[.int .i64 (E:Nat),.int .i64 (P:Nat)]] w fun e w'=>e=.returned (.int .i64 ((2^E-1:Nat):Int))∧Ext w w':=by
 obtain ⟨b,hb⟩:∃ b,b=bias E:=⟨_,rfl⟩;have CB:Hid (∀ w,Calls Tryz.prog 126 #[.agg #[.int .i64 (E:Nat),.int .i64 (P:Nat)]] w fun e w'=>e=.returned (.int .i64 (b:Nat))∧Ext w w'):=hid fun w=>by rw [hb];exact rbias_c E P w hF
 obtain ⟨t,ht⟩:∃ t,t=2^E-1:=⟨_,rfl⟩;have HT:Hid (2*(b:Int)+1=(t:Int)):=hid (by
  have h1:2^E=2*2^(E-1):=by rw [←Nat.pow_succ'];congr 1;have:=(fmt_bounds hF).1.1;omega
  have h2:0<2^(E-1):=Nat.pow_pos (by decide);rw [ht,hb];unfold bias;omega)
 have hb1:b≤1023:=by rw [hb];exact (fmt_bounds hF).2.2.1
 rw [←ht];clear hF hb ht;obtain ⟨W0,hW0,g0,hz0,B_F⟩:=pro1 w #[.int .i64 (E:Nat),.int .i64 (P:Nat)] 23;have HE:=hid g0;have HB_F:=hid B_F;have ac:=HB_F.o.a2;have hr0:Ext W0 W0:=Below.refl _ _;clear g0 B_F 
 go_enter Tryz.func63,Tryz.ntmps63
 go_upto_region 1 with (fail)
 rw [←hW0];clear hW0;go_wp2_with fail;refine (CB.o _).mono ?_;rintro e w1 ⟨rfl,g1⟩;go_wp2_with fail;go_ret
 exact ⟨(by show Ending.returned (.int .i64 (2*(b:Int)+1))=_;rw [HT.o]),(HE.o.trans g1)⟩
def RNumBox (w:World) (g:Nat) (q:Rat):Prop:=∃ (s:Int) (a:Option Addr) (n c:Nat) (a':Option Addr) (n' c':Nat),Box w g #[.int .i64 s,.slice a n c,.slice a' n' c'] 43∧RNumV w (.agg #[.int .i64 s,.slice a n c,.slice a' n' c']) q
def codeN (E P:Nat) (neg:Bool) (f r:Nat):Nat:=(if neg then 2^(E+P-1) else 0)+(r+f*2^(P-1))
theorem rcoded_c (E P:Nat) (neg:Bool) (f r:Nat) (x:Value) (w:World) (hF:Fmt E P) (hx:RNumV w x ((r:Nat):Rat)) (hf:f≤4096) (hr:r<2^115) (hc:codeN E P neg f r<340282366920938463463374607431768211456) :
  Calls Tryz.prog 62 #[.agg #[.int .i64 (E:Nat),.int .i64 (P:Nat)],.bool neg,.int .i64 (f:Nat),x] w fun e w'=>e=.returned (Word (codeN E P neg f r))∧Ext w w':=by
 obtain ⟨s1,a1,n1,c1,a1',n1',c1',rfl⟩:=hx.shape;have hvx:=hx;obtain ⟨hE,hP,_,hEP,_⟩:=fmt_bounds hF;obtain ⟨M,hM⟩:∃ M,M=r+f*2^(P-1):=⟨_,rfl⟩;obtain ⟨G,hG⟩:∃ G,G=f*2^(P-1):=⟨_,rfl⟩;obtain ⟨S,hS⟩:∃ S,S=2^(E+P-1):=⟨_,rfl⟩;have hp1:2^(P-1)≤2^112:=Nat.pow_le_pow_right (by decide) (by omega);have hG1:G≤4096*2^112:=by rw [hG];exact Nat.mul_le_mul hf hp1
 have hS1:S≤2^123:=by rw [hS];exact Nat.pow_le_pow_right (by decide) (by omega)
 have hMG:M=G+r:=by rw [hM,hG];omega
 have SR:Hid (SmQ 201 ((r:Nat):Rat)):=hid (nat_sm (by omega));have SF:Hid (SmQ 201 ((f:Nat):Rat)):=hid (nat_sm (by omega));have SG:Hid (SmQ 201 ((G:Nat):Rat)):=hid (nat_sm (by omega));have SM:Hid (SmQ 201 ((M:Nat):Rat)):=hid (nat_sm (by omega));have SS:Hid (SmQ 201 ((S:Nat):Rat)):=hid (nat_sm (by omega));have hwp:IntKind.i64.wrap ((P:Int)-1)=(P:Int)-1:=IntWalk.i64_in _ (by omega);have hwe:IntKind.i64.wrap ((E:Int)+(P:Int))=(E:Int)+(P:Int):=IntWalk.i64_in _ (by omega);have hwf:IntKind.i64.wrap ((E:Int)+(P:Int)-1)=(E:Int)+(P:Int)-1:=IntWalk.i64_in _ (by omega);have hE2:E≤11:=hE.2;have hP1:2≤P:=hP.1;have hP2:P≤113:=hP.2;have CI:Hid (∀ w,Calls Tryz.prog 86 #[.int .i64 (f:Nat)] w fun e w'=>∃ v,e=.returned v∧RNumV w' v ((f:Nat):Rat)∧Ext w w'):=hid fun w=>rint_i _ f w rfl (by omega);have CS:Hid (∀ w u,RNumV w u ((f:Nat):Rat)→Calls Tryz.prog 125 #[u,.int .i64 ((P:Int)-1)] w fun e w'=>∃ v,e=.returned v∧RNumV w' v ((G:Nat):Rat)∧Ext w w'):=hid fun w u h=>by
  have h2:=rshiftq_c u _ 201 ((P:Int)-1) w h SF.o (by omega) (by omega) (by decide);rw [show (P:Int)-1=((P-1:Nat):Int) by omega,nat_up,←hG] at h2;rw [show (P:Int)-1=((P-1:Nat):Int) by omega];exact h2
 have CA:Hid (∀ w u v,RNumV w u ((G:Nat):Rat)→RNumV w v ((r:Nat):Rat)→Calls Tryz.prog 61 #[u,v] w fun e w'=>∃ v,e=.returned v∧RNumV w' v ((M:Nat):Rat)∧Ext w w'):=hid fun w u v h k=>by
  have h2:=raddq_c u v _ _ 201 w h k SG.o SR.o (by decide);rw [nat_add,←hMG] at h2;exact h2
 have CT:Hid (∀ w,Calls Tryz.prog 60 #[.int .i64 ((E:Int)+(P:Int)-1)] w fun e w'=>∃ v,e=.returned v∧RNumV w' v ((S:Nat):Rat)∧Ext w w'):=hid fun w=>by
  have h2:=rtwo_c ((E+P-1:Nat):Int) w (by omega) (by omega);rw [p2_nat,←hS] at h2;rw [show (E:Int)+(P:Int)-1=((E+P-1:Nat):Int) by omega];exact h2
 have CB:Hid (∀ w u v,RNumV w u ((M:Nat):Rat)→RNumV w v ((S:Nat):Rat)→Calls Tryz.prog 61 #[u,v] w fun e w'=>∃ v,e=.returned v∧RNumV w' v ((M+S:Nat):Rat)∧Ext w w'):=hid fun w u v h k=>by
  have h2:=raddq_c u v _ _ 201 w h k SM.o SS.o (by decide);rw [nat_add] at h2;exact h2
 have HC:Hid (codeN E P neg f r=(if neg then S else 0)+M):=hid (by unfold codeN;rw [hM,hS]);have HCB:=hid hc;rw [HC.o] at HCB;obtain ⟨c,hcc⟩:∃ c,c=codeN E P neg f r:=⟨_,rfl⟩;rw [←hcc];rw [←hcc] at HC;clear hF hx hf hr hc hM hG hS hp1 hG1 hS1 hMG hE hP hEP hcc;obtain ⟨W0,hW0,g0,hz0,B_F,B_X,B_Z⟩:=pro3s w #[.int .i64 (E:Nat),.int .i64 (P:Nat)] #[.int .i64 s1,.slice a1 n1 c1,.slice a1' n1' c1'] #[.int .u64 0,.int .u64 0] 23 43 29;have HE:=hid g0;have HB_F:=hid B_F;have HB_X:=hid B_X;have HB_Z:=hid B_Z;have ac:=cland HB_F.o.a2 (cland HB_X.o.a3 (HB_Z.o.a2));have hr0:Ext W0 W0:=Below.refl _ _;clear g0 B_F B_X B_Z 
 go_enter Tryz.func62,Tryz.ntmps62
 go_upto_region 1 with (fail)
 rw [←hW0];clear hW0;replace hvx:=hvx.ext HE.o
 go_cut [9] (fun sv wx=>∃ g:Nat,sv=.pointer (some ⟨g,0,none⟩)∧Hid (Ext W0 wx)∧W0.heap.size≤g∧RNumBox wx g (((M:Nat):Rat)))
 case first =>
  have g1:Ext W0 W0.drew:=Below.drew (Below.refl _ _);refine wp_region_held_drew (S:=Ext W0) (by kernel_rfl) (g1) (fun hHeld => ?_);generalize W0.drew=wD1 at *
  apply wts 0 10 rfl rfl (by kernel_rfl) (fun _ _ _ h=>h) hHeld
  ·intro w' hSw;go_simp<;>with_reducible rfl
  apply wts 2 12 rfl rfl (by kernel_rfl) (fun _ _ _ h=>h) hHeld
  ·intro w' hSw;go_simp<;>with_reducible rfl
  apply wts 3 13 rfl rfl (by kernel_rfl) (fun _ _ _ h=>h) hHeld
  ·intro w' hSw;go_simp<;>with_reducible rfl
  apply wts 4 14 rfl rfl (by kernel_rfl) (fun _ _ _ h=>h) hHeld
  ·intro w' hSw;go_simp<;>with_reducible rfl
  apply wts 6 16 rfl rfl (by kernel_rfl) (fun _ _ _ h=>h) hHeld
  ·intro w' hSw;go_simp<;>with_reducible rfl
  try simp only [Act.put,pA,pB,pC]
  refine wpAnyH_ready (rs:=[1,8]) (by kernel_rfl) (by simp) ?_;refine consb 1 { dst:=some 11,op:=Op.call { callee:=Callee.value (Operand.func 86),args:=#[Operand.tmp 10],argTypes:=#[2] },type:=43,pos := "",after:=#[],guard:=none } rfl rfl (fun KK hKK => ?_) (consb 8 { dst:=some 9,op:=Op.alloc 43,type:=0,pos := "",after:=#[],guard:=none } rfl rfl (fun KK hKK => ?_) (AllReadyH.nil))
  ·go_simp;refine (CI.o _).mono ?_;rintro e w2 ⟨v2,rfl,k1,g2⟩;have hb1:=g1.trans g2
   try dsimp only
   refine hKK.out _ _ (hb1) (fun hHeld => ?_)
   try simp only [Act.put,pA,pB,pC]
   refine wpAnyH_ready (rs:=[5,8]) (by kernel_rfl) (by simp) ?_;refine consb 5 { dst:=some 15,op:=Op.call { callee:=Callee.value (Operand.func 125),args:=#[Operand.tmp 11,Operand.tmp 14],argTypes:=#[43,3] },type:=43,pos := "",after:=#[],guard:=none } rfl rfl (fun KK hKK => ?_) (consb 8 { dst:=some 9,op:=Op.alloc 43,type:=0,pos := "",after:=#[],guard:=none } rfl rfl (fun KK hKK => ?_) (AllReadyH.nil))
   ·go_simp;refine (CS.o _ _ k1).mono ?_;rintro e w3 ⟨v3,rfl,k2,g3⟩;have hb2:=hb1.trans g3
    try dsimp only
    refine hKK.out _ _ (hb2) (fun hHeld => ?_)
    try simp only [Act.put,pA,pB,pC]
    refine wpAnyH_ready (rs:=[7,8]) (by kernel_rfl) (by simp) ?_;refine consb 7 { dst:=some 17,op:=Op.call { callee:=Callee.value (Operand.func 61),args:=#[Operand.tmp 15,Operand.tmp 16],argTypes:=#[43,43] },type:=43,pos := "",after:=#[],guard:=none } rfl rfl (fun KK hKK => ?_) (consb 8 { dst:=some 9,op:=Op.alloc 43,type:=0,pos := "",after:=#[],guard:=none } rfl rfl (fun KK hKK => ?_) (AllReadyH.nil))
    ·go_simp;refine (CA.o _ _ _ k2 (hvx.ext hb2)).mono ?_;rintro e w4 ⟨v4,rfl,k9,g4⟩;have hb3:=hb2.trans g4;obtain ⟨s9,a9,n9,c9,a9',n9',c9',rfl⟩:=k9.shape
     try dsimp only
     refine hKK.out _ _ (hb3) (fun hHeld => ?_)
     try simp only [Act.put,pA,pB,pC]
     refine won 8 { dst:=some 9,op:=Op.alloc 43,type:=0,pos := "",after:=#[],guard:=none } (by kernel_rfl) rfl rfl (fun KK hKK => ?_);go_simp;have hs4:=(g1.trans (g2.trans (g3.trans g4))).size;obtain ⟨W5,hW5,g5,hy5,B_N⟩:=pro1 w4 #[.int .i64 0,.slice none 0 0,.slice none 0 0] 43;rw [←hW5];clear hW5;have hleN:=hb3.size;have hb5:=hb3.trans g5;have HB_N:=hid B_N;clear B_N;have hzN:=hb5.size
     try dsimp only
     refine hKK.out _ _ (hb5) (fun hHeld => ?_)
     try simp only [Act.put,pA,pB,pC]
     refine wons 9 43 9 17 (by kernel_rfl) rfl rfl (fun KK hKK => ?_);obtain ⟨J9,J10,J11⟩:=HB_N.o.c3;obtain ⟨U6,U7,U8⟩:=HB_N.o.f3;go_simp;clear U6 U7 U8 J9 J10 J11;obtain ⟨W6,hW6,g6,q6,B6,hy6,ho6⟩:=rsto3 hb5 (by omega) HB_N.o (by decide) (.int .i64 s9) (.slice a9 n9 c9) (.slice a9' n9' c9');rw [←hW6];clear hW6;replace HB_N:=hid B6
     try dsimp only
     refine hKK.out _ _ (g6) (fun hHeld => ?_);refine wpAnyH_done (by kernel_rfl) ?_ _;go_wp2_with fail;go_meet
     exact ⟨_,rfl,hid g6,hleN,_,_,_,_,_,_,_,HB_N.o,((k9.ext g5).keepR q6)⟩
    ·go_simp;have hs3:=(g1.trans (g2.trans g3)).size;obtain ⟨W4,hW4,g4,hy4,B_N⟩:=pro1 w3 #[.int .i64 0,.slice none 0 0,.slice none 0 0] 43;rw [←hW4];clear hW4;have hleN:=hb2.size;have hb4:=hb2.trans g4;have HB_N:=hid B_N;clear B_N;have hzN:=hb4.size
     try dsimp only
     refine hKK.out _ _ (hb4) (fun hHeld => ?_)
     try simp only [Act.put,pA,pB,pC]
     refine wonc 7 17 61 #[.tmp 15,.tmp 16] #[43,43] 43 (by kernel_rfl) rfl rfl (fun KK hKK => ?_);go_simp;refine (CA.o _ _ _ (k2.ext g4) (hvx.ext hb4)).mono ?_;rintro e w5 ⟨v5,rfl,k9,g5⟩;have hb5:=hb4.trans g5;obtain ⟨s9,a9,n9,c9,a9',n9',c9',rfl⟩:=k9.shape
     try dsimp only
     refine hKK.out _ _ (hb5) (fun hHeld => ?_)
     try simp only [Act.put,pA,pB,pC]
     refine wons 9 43 9 17 (by kernel_rfl) rfl rfl (fun KK hKK => ?_);obtain ⟨J9,J10,J11⟩:=(HB_N.o.ext g5).c3;obtain ⟨U6,U7,U8⟩:=(HB_N.o.ext g5).f3;go_simp;clear U6 U7 U8 J9 J10 J11;obtain ⟨W6,hW6,g6,q6,B6,hy6,ho6⟩:=rsto3 hb5 (by omega) (HB_N.o.ext g5) (by decide) (.int .i64 s9) (.slice a9 n9 c9) (.slice a9' n9' c9');rw [←hW6];clear hW6;replace HB_N:=hid B6
     try dsimp only
     refine hKK.out _ _ (g6) (fun hHeld => ?_);refine wpAnyH_done (by kernel_rfl) ?_ _;go_wp2_with fail;go_meet
     exact ⟨_,rfl,hid g6,hleN,_,_,_,_,_,_,_,HB_N.o,(k9.keepR q6)⟩
   ·go_simp;have hs2:=(g1.trans g2).size;obtain ⟨W3,hW3,g3,hy3,B_N⟩:=pro1 w2 #[.int .i64 0,.slice none 0 0,.slice none 0 0] 43;rw [←hW3];clear hW3;have hleN:=hb1.size;have hb3:=hb1.trans g3;have HB_N:=hid B_N;clear B_N;have hzN:=hb3.size
    try dsimp only
    refine hKK.out _ _ (hb3) (fun hHeld => ?_)
    try simp only [Act.put,pA,pB,pC]
    refine wonc 5 15 125 #[.tmp 11,.tmp 14] #[43,3] 43 (by kernel_rfl) rfl rfl (fun KK hKK => ?_);go_simp;refine (CS.o _ _ (k1.ext g3)).mono ?_;rintro e w4 ⟨v4,rfl,k2,g4⟩;have hb4:=hb3.trans g4
    try dsimp only
    refine hKK.out _ _ (hb4) (fun hHeld => ?_)
    try simp only [Act.put,pA,pB,pC]
    refine wonc 7 17 61 #[.tmp 15,.tmp 16] #[43,43] 43 (by kernel_rfl) rfl rfl (fun KK hKK => ?_);go_simp;refine (CA.o _ _ _ k2 (hvx.ext hb4)).mono ?_;rintro e w5 ⟨v5,rfl,k9,g5⟩;have hb5:=hb4.trans g5;obtain ⟨s9,a9,n9,c9,a9',n9',c9',rfl⟩:=k9.shape
    try dsimp only
    refine hKK.out _ _ (hb5) (fun hHeld => ?_)
    try simp only [Act.put,pA,pB,pC]
    refine wons 9 43 9 17 (by kernel_rfl) rfl rfl (fun KK hKK => ?_);obtain ⟨J9,J10,J11⟩:=(HB_N.o.ext (g4.trans g5)).c3;obtain ⟨U6,U7,U8⟩:=(HB_N.o.ext (g4.trans g5)).f3;go_simp;clear U6 U7 U8 J9 J10 J11;obtain ⟨W6,hW6,g6,q6,B6,hy6,ho6⟩:=rsto3 hb5 (by omega) (HB_N.o.ext (g4.trans g5)) (by decide) (.int .i64 s9) (.slice a9 n9 c9) (.slice a9' n9' c9');rw [←hW6];clear hW6;replace HB_N:=hid B6
    try dsimp only
    refine hKK.out _ _ (g6) (fun hHeld => ?_);refine wpAnyH_done (by kernel_rfl) ?_ _;go_wp2_with fail;go_meet
    exact ⟨_,rfl,hid g6,hleN,_,_,_,_,_,_,_,HB_N.o,(k9.keepR q6)⟩
  ·go_simp;have hs1:=g1.size;obtain ⟨W2,hW2,g2,hy2,B_N⟩:=pro1 wD1 #[.int .i64 0,.slice none 0 0,.slice none 0 0] 43;rw [←hW2];clear hW2;have hleN:=g1.size;have hb2:=g1.trans g2;have HB_N:=hid B_N;clear B_N;have hzN:=hb2.size
   try dsimp only
   refine hKK.out _ _ (hb2) (fun hHeld => ?_)
   try simp only [Act.put,pA,pB,pC]
   refine wonc 1 11 86 #[.tmp 10] #[2] 43 (by kernel_rfl) rfl rfl (fun KK hKK => ?_);go_simp;refine (CI.o _).mono ?_;rintro e w3 ⟨v3,rfl,k1,g3⟩;have hb3:=hb2.trans g3
   try dsimp only
   refine hKK.out _ _ (hb3) (fun hHeld => ?_)
   try simp only [Act.put,pA,pB,pC]
   refine wonc 5 15 125 #[.tmp 11,.tmp 14] #[43,3] 43 (by kernel_rfl) rfl rfl (fun KK hKK => ?_);go_simp;refine (CS.o _ _ k1).mono ?_;rintro e w4 ⟨v4,rfl,k2,g4⟩;have hb4:=hb3.trans g4
   try dsimp only
   refine hKK.out _ _ (hb4) (fun hHeld => ?_)
   try simp only [Act.put,pA,pB,pC]
   refine wonc 7 17 61 #[.tmp 15,.tmp 16] #[43,43] 43 (by kernel_rfl) rfl rfl (fun KK hKK => ?_);go_simp;refine (CA.o _ _ _ k2 (hvx.ext hb4)).mono ?_;rintro e w5 ⟨v5,rfl,k9,g5⟩;have hb5:=hb4.trans g5;obtain ⟨s9,a9,n9,c9,a9',n9',c9',rfl⟩:=k9.shape
   try dsimp only
   refine hKK.out _ _ (hb5) (fun hHeld => ?_)
   try simp only [Act.put,pA,pB,pC]
   refine wons 9 43 9 17 (by kernel_rfl) rfl rfl (fun KK hKK => ?_);obtain ⟨J9,J10,J11⟩:=(HB_N.o.ext (g3.trans (g4.trans g5))).c3;obtain ⟨U6,U7,U8⟩:=(HB_N.o.ext (g3.trans (g4.trans g5))).f3;go_simp;clear U6 U7 U8 J9 J10 J11;obtain ⟨W6,hW6,g6,q6,B6,hy6,ho6⟩:=rsto3 hb5 (by omega) (HB_N.o.ext (g3.trans (g4.trans g5))) (by decide) (.int .i64 s9) (.slice a9 n9 c9) (.slice a9' n9' c9');rw [←hW6];clear hW6;replace HB_N:=hid B6
   try dsimp only
   refine hKK.out _ _ (g6) (fun hHeld => ?_);refine wpAnyH_done (by kernel_rfl) ?_ _;go_wp2_with fail;go_meet
   exact ⟨_,rfl,hid g6,hleN,_,_,_,_,_,_,_,HB_N.o,(k9.keepR q6)⟩
 case rest =>
  obtain ⟨gN,rfl,gx7,hg7,s7,a7,n7,c7,a7',n7',c7',B7,kv7⟩:=hcut;obtain ⟨wc7,rfl⟩:∃ x,x=wc:=⟨_,rfl⟩;have HB_N:=hid B7;clear B7;have he13:=(HE.o.trans gx7.o);replace ac:=gx7.o.cl ac;have hr14:Ext wc7 wc7:=Below.refl _ _;replace ac:=cland ac HB_N.o.a3
  cases neg
  ·have HR:Hid (c=M):=hid (by rw [HC.o];simp);go_wp2_with fail;refine (rpacked_c _ (M) _ kv7 (by have:=HCB.o;simp at this;omega)).mono ?_;rintro e w8 ⟨rfl,g8⟩;obtain ⟨r0,r1,er⟩:=Word.shape (M);have ER:=hid er;clear er;rw [ER.o];obtain ⟨U15,U16⟩:=((HB_Z.o.ext gx7.o).ext g8).f2;go_wp2_with fail;clear U15 U16;obtain ⟨W9,hW9,g9,q9,B9,hy9,ho9⟩:=rsto2 (he13.trans g8) (by omega) ((HB_Z.o.ext gx7.o).ext g8) (by decide) (.int .u64 (r0:Nat)) (.int .u64 (r1:Nat));rw [←hW9];clear hW9;replace HB_Z:=hid B9;obtain ⟨J17,J18⟩:=HB_Z.o.c2;refine bodyPost_ret (v:=.agg #[.int .u64 (r0:Nat),.int .u64 (r1:Nat)]) (by simp [results,Tryz.results62,go_sem,J17,J18]) rfl ⟨by rw [HR.o,ER.o],g9⟩
  ·go_upto_region 3 with (fail)
   have kc:=(Box.bt (z:=gN) (HB_F.o.ext gx7.o) (by omega) Box.n2);have g8:Ext wc7 wc7.drew:=Below.drew (Below.refl _ _);refine wp_region_held_drew (S:=But wc7 (gN)) (by kernel_rfl) (g8.but) (fun hHeld => ?_);generalize wc7.drew=wD8 at *
   apply wts 1 20 rfl rfl (by kernel_rfl) (fun _ _ _ h=>h) hHeld
   ·intro w' hSw;go_simp<;>with_reducible rfl
   apply wts 2 21 rfl rfl (by kernel_rfl) (fun _ _ _ h=>h) hHeld
   ·intro w' hSw;go_simp<;>with_reducible rfl
   apply wts 3 22 rfl rfl (by kernel_rfl) (fun _ _ _ h=>h) hHeld
   ·intro w' hSw;go_simp<;>with_reducible rfl
   apply wts 4 23 rfl rfl (by kernel_rfl) (fun _ _ _ h=>h) hHeld
   ·intro w' hSw;go_simp<;>with_reducible rfl
   apply wts 5 24 rfl rfl (by kernel_rfl) (fun _ _ _ h=>h) hHeld
   ·intro w' hSw;go_simp<;>with_reducible rfl
   apply wts 6 25 rfl rfl (by kernel_rfl) (fun _ _ _ h=>h) hHeld
   ·intro w' hSw;go_simp<;>with_reducible rfl
   try simp only [Act.put,pA,pB,pC]
   refine wpAnyH_ready (rs:=[0,7]) (by kernel_rfl) (by simp) ?_;refine consb 0 { dst:=some 19,op:=Op.load 43 (Operand.tmp 9),type:=43,pos := "",after:=#[],guard:=none } rfl rfl (fun KK hKK => ?_) (consb 7 { dst:=some 26,op:=Op.call { callee:=Callee.value (Operand.func 60),args:=#[Operand.tmp 25],argTypes:=#[3] },type:=43,pos := "",after:=#[],guard:=none } rfl rfl (fun KK hKK => ?_) (AllReadyH.nil))
   ·obtain ⟨J15,J16,J17⟩:=(HB_N.o.ext g8).c3;go_simp;clear J15 J16 J17
    try dsimp only
    refine hKK.out _ _ (g8.but) (fun hHeld => ?_)
    try simp only [Act.put,pA,pB,pC]
    refine wonc 7 26 60 #[.tmp 25] #[3] 43 (by kernel_rfl) rfl rfl (fun KK hKK => ?_);go_simp;refine (CT.o _).mono ?_;rintro e w9 ⟨v9,rfl,k1,g9⟩;have hb18:=g8.trans g9
    try dsimp only
    refine hKK.out _ _ (hb18.but) (fun hHeld => ?_)
    try simp only [Act.put,pA,pB,pC]
    refine wonc 8 27 61 #[.tmp 19,.tmp 26] #[43,43] 43 (by kernel_rfl) rfl rfl (fun KK hKK => ?_);go_simp;refine (CB.o _ _ _ (kv7.ext hb18) k1).mono ?_;rintro e w10 ⟨v10,rfl,k8,g10⟩;have hb19:=hb18.trans g10;obtain ⟨s8,a8,n8,c8,a8',n8',c8',rfl⟩:=k8.shape
    try dsimp only
    refine hKK.out _ _ (hb19.but) (fun hHeld => ?_)
    try simp only [Act.put,pA,pB,pC]
    refine wons 9 43 9 27 (by kernel_rfl) rfl rfl (fun KK hKK => ?_);obtain ⟨U20,U21,U22⟩:=(HB_N.o.ext hb19).f3;go_simp;clear U20 U21 U22;obtain ⟨W11,hW11,g11,q11,B11,hy11,ho11⟩:=rsto3 (he13.trans hb19) (by omega) (HB_N.o.ext hb19) (by decide) (.int .i64 s8) (.slice a8 n8 c8) (.slice a8' n8' c8');rw [←hW11];clear hW11;replace HB_N:=hid B11;have hq11:But wc7 (gN) W11:=But.sto (hb19.but) ho11
    try dsimp only
    refine hKK.out _ _ (hq11) (fun hHeld => ?_);refine wpAnyH_done (by kernel_rfl) ?_ _;have HR:Hid (c=M+S):=hid (by rw [HC.o];simp;omega);have ac:=cland (ho11 _ _ _ (by omega) (HB_F.o.ext (gx7.o.trans (g8.trans (g9.trans g10))))).a2 (cland (ho11 _ _ _ (by omega) (HB_X.o.ext (gx7.o.trans (g8.trans (g9.trans g10))))).a3 (cland (ho11 _ _ _ (by omega) (HB_Z.o.ext (gx7.o.trans (g8.trans (g9.trans g10))))).a2 (HB_N.o.a3)));have hr23:Ext W11 W11:=Below.refl _ _;go_wp2_with fail;refine (rpacked_c _ (M+S) _ (k8.keepR q11) (by have:=HCB.o;simp at this;omega)).mono ?_;rintro e w12 ⟨rfl,g12⟩;obtain ⟨r0,r1,er⟩:=Word.shape (M+S);have ER:=hid er;clear er;rw [ER.o];obtain ⟨U24,U25⟩:=((ho11 _ _ _ (by omega) (HB_Z.o.ext (gx7.o.trans (g8.trans (g9.trans g10))))).ext g12).f2;go_wp2_with fail;clear U24 U25;obtain ⟨W13,hW13,g13,q13,B13,hy13,ho13⟩:=rsto2 (g11.trans g12) (by omega) ((ho11 _ _ _ (by omega) (HB_Z.o.ext (gx7.o.trans (g8.trans (g9.trans g10))))).ext g12) (by decide) (.int .u64 (r0:Nat)) (.int .u64 (r1:Nat));rw [←hW13];clear hW13;replace HB_Z:=hid B13;obtain ⟨J26,J27⟩:=HB_Z.o.c2;refine bodyPost_ret (v:=.agg #[.int .u64 (r0:Nat),.int .u64 (r1:Nat)]) (by simp [results,Tryz.results62,go_sem,J26,J27]) rfl ⟨by rw [HR.o,ER.o],g13⟩
   ·go_simp;refine (CT.o _).mono ?_;rintro e w9 ⟨v9,rfl,k1,g9⟩;have hb15:=g8.trans g9
    try dsimp only
    refine hKK.out _ _ (hb15.but) (fun hHeld => ?_)
    try simp only [Act.put,pA,pB,pC]
    refine won 0 { dst:=some 19,op:=Op.load 43 (Operand.tmp 9),type:=43,pos := "",after:=#[],guard:=none } (by kernel_rfl) rfl rfl (fun KK hKK => ?_);obtain ⟨J16,J17,J18⟩:=(HB_N.o.ext hb15).c3;go_simp;clear J16 J17 J18
    try dsimp only
    refine hKK.out _ _ (hb15.but) (fun hHeld => ?_)
    try simp only [Act.put,pA,pB,pC]
    refine wonc 8 27 61 #[.tmp 19,.tmp 26] #[43,43] 43 (by kernel_rfl) rfl rfl (fun KK hKK => ?_);go_simp;refine (CB.o _ _ _ (kv7.ext hb15) k1).mono ?_;rintro e w10 ⟨v10,rfl,k8,g10⟩;have hb19:=hb15.trans g10;obtain ⟨s8,a8,n8,c8,a8',n8',c8',rfl⟩:=k8.shape
    try dsimp only
    refine hKK.out _ _ (hb19.but) (fun hHeld => ?_)
    try simp only [Act.put,pA,pB,pC]
    refine wons 9 43 9 27 (by kernel_rfl) rfl rfl (fun KK hKK => ?_);obtain ⟨U20,U21,U22⟩:=(HB_N.o.ext hb19).f3;go_simp;clear U20 U21 U22;obtain ⟨W11,hW11,g11,q11,B11,hy11,ho11⟩:=rsto3 (he13.trans hb19) (by omega) (HB_N.o.ext hb19) (by decide) (.int .i64 s8) (.slice a8 n8 c8) (.slice a8' n8' c8');rw [←hW11];clear hW11;replace HB_N:=hid B11;have hq11:But wc7 (gN) W11:=But.sto (hb19.but) ho11
    try dsimp only
    refine hKK.out _ _ (hq11) (fun hHeld => ?_);refine wpAnyH_done (by kernel_rfl) ?_ _;have HR:Hid (c=M+S):=hid (by rw [HC.o];simp;omega);have ac:=cland (ho11 _ _ _ (by omega) (HB_F.o.ext (gx7.o.trans (g8.trans (g9.trans g10))))).a2 (cland (ho11 _ _ _ (by omega) (HB_X.o.ext (gx7.o.trans (g8.trans (g9.trans g10))))).a3 (cland (ho11 _ _ _ (by omega) (HB_Z.o.ext (gx7.o.trans (g8.trans (g9.trans g10))))).a2 (HB_N.o.a3)));have hr23:Ext W11 W11:=Below.refl _ _;go_wp2_with fail;refine (rpacked_c _ (M+S) _ (k8.keepR q11) (by have:=HCB.o;simp at this;omega)).mono ?_;rintro e w12 ⟨rfl,g12⟩;obtain ⟨r0,r1,er⟩:=Word.shape (M+S);have ER:=hid er;clear er;rw [ER.o];obtain ⟨U24,U25⟩:=((ho11 _ _ _ (by omega) (HB_Z.o.ext (gx7.o.trans (g8.trans (g9.trans g10))))).ext g12).f2;go_wp2_with fail;clear U24 U25;obtain ⟨W13,hW13,g13,q13,B13,hy13,ho13⟩:=rsto2 (g11.trans g12) (by omega) ((ho11 _ _ _ (by omega) (HB_Z.o.ext (gx7.o.trans (g8.trans (g9.trans g10))))).ext g12) (by decide) (.int .u64 (r0:Nat)) (.int .u64 (r1:Nat));rw [←hW13];clear hW13;replace HB_Z:=hid B13;obtain ⟨J26,J27⟩:=HB_Z.o.c2;refine bodyPost_ret (v:=.agg #[.int .u64 (r0:Nat),.int .u64 (r1:Nat)]) (by simp [results,Tryz.results62,go_sem,J26,J27]) rfl ⟨by rw [HR.o,ER.o],g13⟩
end Go.Proofs.YtopmjkkjlagfcaaGreatDoor
