/- The reference's numbers: Neg, Abs, Sign, IsInt; Mul. -/
import Derived.Test.YtgabigepocfllaaGreatDoorQ31
import Derived.Test.YtgabigepocfllaaGreatDoorQ25
namespace Go.Proofs.YtgabigepocfllaaGreatDoor
open Go.RowKit Vn
set_option maxRecDepth 100000
set_option maxHeartbeats 8000000
theorem sgn3 (q:Rat):q.num.sign=1∨q.num.sign = -1∨q.num.sign=0:=by
 rcases Int.lt_trichotomy q.num 0 with h | h | h
 ·exact .inr (.inl (Int.sign_eq_neg_one_of_neg h))
 ·exact .inr (.inr (by rw [h];rfl))
 ·exact .inl (Int.sign_eq_one_of_pos h)
theorem RNumV.same {w:World} {v:Value} {q r:Rat} (h:RNumV w v q) (e:q=r):RNumV w v r:=e ▸ h
theorem rmul_value (q r:Rat):mkRat (q.num.sign*r.num.sign*((q.num.natAbs*r.num.natAbs:Nat):Int)) (q.den*r.den)=q*r:=by
 have e:q.num.sign*r.num.sign*((q.num.natAbs*r.num.natAbs:Nat):Int)=q.num*r.num:=by
  rw [Int.natCast_mul];have h1:=Int.sign_mul_natAbs q.num;have h2:=Int.sign_mul_natAbs r.num
  calc q.num.sign*r.num.sign*((q.num.natAbs:Int)*(r.num.natAbs:Int))=(q.num.sign*(q.num.natAbs:Int))*(r.num.sign*(r.num.natAbs:Int)):=by simp only [Int.mul_assoc,Int.mul_left_comm]
   _=q.num*r.num:=by rw [h1,h2]
 rw [e,←Rat.mkRat_mul_mkRat,Rat.mkRat_self,Rat.mkRat_self]
theorem sgn_mul3 (q r:Rat):q.num.sign*r.num.sign=1∨q.num.sign*r.num.sign = -1∨q.num.sign*r.num.sign=0:=by
 rcases sgn3 q with h | h | h<;>rcases sgn3 r with k | k | k<;>rw [h,k]<;>simp
theorem rsign_c (x:Value) (q:Rat) (w:World) (hx:RNumV w x q) :
  Calls Tryz.prog 86 #[x] w fun e w'=>e=.returned (.int .i64 q.num.sign)∧Ext w w':=by
 obtain ⟨s1,a1,n1,c1,a1',n1',c1',rfl⟩:=hx.shape;have hvx:=hx;clear hx;obtain ⟨W0,hW0,g0,hz0,B_X⟩:=pro1 w #[.int .i64 s1,.slice a1 n1 c1,.slice a1' n1' c1'] 43;have HE:=hid g0;have HB_X:=hid B_X;have ac:=HB_X.o.a3;have hr0:Ext W0 W0:=Below.refl _ _;clear g0 B_X 
 go_enter Tryz.func86,Tryz.ntmps86
 go_upto_region 1 with (fail)
 rw [←hW0];clear hW0;replace hvx:=hvx.ext HE.o;have HSG:=hid hvx.sign;go_wp2_with fail;go_ret
 exact ⟨(by show Ending.returned (.int .i64 s1)=_;rw [HSG.o]),HE.o⟩
theorem RNumV.neg {w:World} {s:Int} {a:Option Addr} {n c:Nat} {a':Option Addr} {n' c':Nat} {q:Rat} (h:RNumV w (.agg #[.int .i64 s,.slice a n c,.slice a' n' c']) q):RNumV w (.agg #[.int .i64 (-s),.slice a n c,.slice a' n' c']) (-q):=by
 refine ⟨a,n,c,a',n',c',?_,?_,?_⟩
 ·rw [h.sign,Rat.neg_num,Int.sign_neg]
 ·rw [Rat.neg_num,Int.natAbs_neg];exact h.top
 ·have:=h.den
  by_cases h0:q=0
  ·subst h0;rw [if_pos rfl] at this;rw [if_pos (by simp)];exact this
  ·rw [if_neg h0] at this;rw [if_neg (fun e=>h0 (by have:=congrArg (- ·) e;simpa using this)),Rat.neg_den];exact this
theorem RNumV.abs {w:World} {s:Int} {a:Option Addr} {n c:Nat} {a':Option Addr} {n' c':Nat} {q:Rat} (h:RNumV w (.agg #[.int .i64 s,.slice a n c,.slice a' n' c']) q):RNumV w (.agg #[.int .i64 (s*s),.slice a n c,.slice a' n' c']) (absQ q):=by
 rcases Int.lt_or_le q.num 0 with h0 | h0
 ·have e:absQ q = -q:=by rw [absQ_eq,if_pos h0]
  have hs:s = -1:=by rw [h.sign];exact Int.sign_eq_neg_one_of_neg h0
  rw [e]
  have:=h.neg
  rw [hs] at this ⊢
  exact this
 ·have e:absQ q=q:=by rw [absQ_eq,if_neg (by omega)]
  rw [e]
  rcases sgn3 q with k | k | k
  ·rw [h.sign,k];have h2:=h;rw [h.sign,k] at h2;exact h2
  ·have h4:=Int.sign_eq_neg_one_iff_neg.1 k;omega
  ·rw [h.sign,k];have h2:=h;rw [h.sign,k] at h2;exact h2
theorem rneg_c (x:Value) (q:Rat) (w:World) (hx:RNumV w x q) :
  Calls Tryz.prog 197 #[x] w fun e w'=>∃ v,e=.returned v∧RNumV w' v (-q)∧Ext w w':=by
 obtain ⟨s1,a1,n1,c1,a1',n1',c1',rfl⟩:=hx.shape;have hvx:=hx;clear hx;obtain ⟨W0,hW0,g0,hz0,B_X,B_Z⟩:=pro2s w #[.int .i64 s1,.slice a1 n1 c1,.slice a1' n1' c1'] #[.int .i64 0,.slice none 0 0,.slice none 0 0] 43 43;have HE:=hid g0;have HB_X:=hid B_X;have HB_Z:=hid B_Z;have ac:=cland HB_X.o.a3 (HB_Z.o.a3);have hr0:Ext W0 W0:=Below.refl _ _;clear g0 B_X B_Z 
 go_enter Tryz.func197,Tryz.ntmps197
 go_upto_region 1 with (fail)
 rw [←hW0];clear hW0;replace hvx:=hvx.ext HE.o;have HSG:=hid hvx.sign;have hs3:s1=1∨s1 = -1∨s1=0:=by rw [hvx.sign];exact sgn3 q
 replace hvx:=hvx.neg
 rcases hs3 with rfl | rfl | rfl
 ·obtain ⟨U1,U2,U3⟩:=HB_Z.o.f3;go_wp2_with fail;clear U1 U2 U3;obtain ⟨W1,hW1,g1,q1,B1,hy1,ho1⟩:=rsto3 HE.o (by omega) HB_Z.o (by decide) (.int .i64 (-1)) (.slice a1 n1 c1) (.slice a1' n1' c1');rw [←hW1];clear hW1;replace HB_Z:=hid B1;obtain ⟨J4,J5,J6⟩:=HB_Z.o.c3;refine bodyPost_ret (v:=.agg #[.int .i64 (-1),.slice a1 n1 c1,.slice a1' n1' c1']) (by simp [results,Tryz.results197,go_sem,J4,J5,J6]) rfl ⟨_,rfl,(hvx.keepR q1),g1⟩
 ·obtain ⟨U1,U2,U3⟩:=HB_Z.o.f3;go_wp2_with fail;clear U1 U2 U3;obtain ⟨W1,hW1,g1,q1,B1,hy1,ho1⟩:=rsto3 HE.o (by omega) HB_Z.o (by decide) (.int .i64 1) (.slice a1 n1 c1) (.slice a1' n1' c1');rw [←hW1];clear hW1;replace HB_Z:=hid B1;obtain ⟨J4,J5,J6⟩:=HB_Z.o.c3;refine bodyPost_ret (v:=.agg #[.int .i64 1,.slice a1 n1 c1,.slice a1' n1' c1']) (by simp [results,Tryz.results197,go_sem,J4,J5,J6]) rfl ⟨_,rfl,(hvx.keepR q1),g1⟩
 ·obtain ⟨U1,U2,U3⟩:=HB_Z.o.f3;go_wp2_with fail;clear U1 U2 U3;obtain ⟨W1,hW1,g1,q1,B1,hy1,ho1⟩:=rsto3 HE.o (by omega) HB_Z.o (by decide) (.int .i64 0) (.slice a1 n1 c1) (.slice a1' n1' c1');rw [←hW1];clear hW1;replace HB_Z:=hid B1;obtain ⟨J4,J5,J6⟩:=HB_Z.o.c3;refine bodyPost_ret (v:=.agg #[.int .i64 0,.slice a1 n1 c1,.slice a1' n1' c1']) (by simp [results,Tryz.results197,go_sem,J4,J5,J6]) rfl ⟨_,rfl,(hvx.keepR q1),g1⟩
theorem rabs_c (x:Value) (q:Rat) (w:World) (hx:RNumV w x q) :
  Calls Tryz.prog 83 #[x] w fun e w'=>∃ v,e=.returned v∧RNumV w' v (absQ q)∧Ext w w':=by
 obtain ⟨s1,a1,n1,c1,a1',n1',c1',rfl⟩:=hx.shape;have hvx:=hx;clear hx;obtain ⟨W0,hW0,g0,hz0,B_X,B_Z⟩:=pro2s w #[.int .i64 s1,.slice a1 n1 c1,.slice a1' n1' c1'] #[.int .i64 0,.slice none 0 0,.slice none 0 0] 43 43;have HE:=hid g0;have HB_X:=hid B_X;have HB_Z:=hid B_Z;have ac:=cland HB_X.o.a3 (HB_Z.o.a3);have hr0:Ext W0 W0:=Below.refl _ _;clear g0 B_X B_Z 
 go_enter Tryz.func83,Tryz.ntmps83
 go_upto_region 1 with (fail)
 rw [←hW0];clear hW0;replace hvx:=hvx.ext HE.o;have HSG:=hid hvx.sign;have hs3:s1=1∨s1 = -1∨s1=0:=by rw [hvx.sign];exact sgn3 q
 replace hvx:=hvx.abs
 rcases hs3 with rfl | rfl | rfl
 ·obtain ⟨U1,U2,U3⟩:=HB_Z.o.f3;go_wp2_with fail;clear U1 U2 U3;obtain ⟨W1,hW1,g1,q1,B1,hy1,ho1⟩:=rsto3 HE.o (by omega) HB_Z.o (by decide) (.int .i64 1) (.slice a1 n1 c1) (.slice a1' n1' c1');rw [←hW1];clear hW1;replace HB_Z:=hid B1;obtain ⟨J4,J5,J6⟩:=HB_Z.o.c3;refine bodyPost_ret (v:=.agg #[.int .i64 1,.slice a1 n1 c1,.slice a1' n1' c1']) (by simp [results,Tryz.results83,go_sem,J4,J5,J6]) rfl ⟨_,rfl,(hvx.keepR q1),g1⟩
 ·obtain ⟨U1,U2,U3⟩:=HB_Z.o.f3;go_wp2_with fail;clear U1 U2 U3;obtain ⟨W1,hW1,g1,q1,B1,hy1,ho1⟩:=rsto3 HE.o (by omega) HB_Z.o (by decide) (.int .i64 1) (.slice a1 n1 c1) (.slice a1' n1' c1');rw [←hW1];clear hW1;replace HB_Z:=hid B1;obtain ⟨J4,J5,J6⟩:=HB_Z.o.c3;refine bodyPost_ret (v:=.agg #[.int .i64 1,.slice a1 n1 c1,.slice a1' n1' c1']) (by simp [results,Tryz.results83,go_sem,J4,J5,J6]) rfl ⟨_,rfl,(hvx.keepR q1),g1⟩
 ·obtain ⟨U1,U2,U3⟩:=HB_Z.o.f3;go_wp2_with fail;clear U1 U2 U3;obtain ⟨W1,hW1,g1,q1,B1,hy1,ho1⟩:=rsto3 HE.o (by omega) HB_Z.o (by decide) (.int .i64 0) (.slice a1 n1 c1) (.slice a1' n1' c1');rw [←hW1];clear hW1;replace HB_Z:=hid B1;obtain ⟨J4,J5,J6⟩:=HB_Z.o.c3;refine bodyPost_ret (v:=.agg #[.int .i64 0,.slice a1 n1 c1,.slice a1' n1' c1']) (by simp [results,Tryz.results83,go_sem,J4,J5,J6]) rfl ⟨_,rfl,(hvx.keepR q1),g1⟩
theorem rmulq_c (x y:Value) (q r:Rat) (K:Nat) (w:World) (hx:RNumV w x q) (hy:RNumV w y r) (sx:SmQ K q) (sy:SmQ K r) (hK:K≤10000000) :
  Calls Tryz.prog 216 #[x,y] w fun e w'=>∃ v,e=.returned v∧RNumV w' v (q*r)∧Ext w w':=by
 obtain ⟨s1,a1,n1,c1,a1',n1',c1',rfl⟩:=hx.shape;obtain ⟨s2,a2,n2,c2,a2',n2',c2',rfl⟩:=hy.shape;have hvx:=hx;have hvy:=hy;have SX:=hid sx;have SY:=hid sy;have HK:=hid hK;have hsx:s1=q.num.sign:=hx.sign;have hsy:s2=r.num.sign:=hy.sign;have h3:s1*s2=1∨s1*s2 = -1∨s1*s2=0:=by rw [hsx,hsy];exact sgn_mul3 q r
 have hwr:IntKind.i64.wrap (s1*s2)=s1*s2:=by rcases h3 with h | h | h<;>rw [h]<;>rfl
 have HV:Hid (mkRat (s1*s2*((q.num.natAbs*r.num.natAbs:Nat):Int)) (q.den*r.den)=q*r):=hid (by rw [hsx,hsy];exact rmul_value q r);have H3:=hid h3;clear hx hy sx sy hK hsx hsy h3;obtain ⟨W0,hW0,g0,hz0,B_X,B_Y,B_Z⟩:=pro3s w #[.int .i64 s1,.slice a1 n1 c1,.slice a1' n1' c1'] #[.int .i64 s2,.slice a2 n2 c2,.slice a2' n2' c2'] #[.int .i64 0,.slice none 0 0,.slice none 0 0] 43 43 43;have HE:=hid g0;have HB_X:=hid B_X;have HB_Y:=hid B_Y;have HB_Z:=hid B_Z;have ac:=cland HB_X.o.a3 (cland HB_Y.o.a3 (HB_Z.o.a3));have hr0:Ext W0 W0:=Below.refl _ _;clear g0 B_X B_Y B_Z 
 go_enter Tryz.func216,Tryz.ntmps216
 go_upto_region 1 with (fail)
 rw [←hW0];clear hW0;replace hvx:=hvx.ext HE.o;replace hvy:=hvy.ext HE.o;have hpx:=hvx.top;have hpy:=hvy.top;have kc:=cland (Box.bt (z:=w.heap.size+1+1) HB_X.o (by omega) Box.n3) ((Box.bt (z:=w.heap.size+1+1) HB_Y.o (by omega) Box.n3));have g1:Ext W0 W0.drew:=Below.drew (Below.refl _ _);refine wp_region_held_drew (S:=But W0 (w.heap.size+1+1)) (by kernel_rfl) (g1.but) (fun hHeld => ?_);generalize W0.drew=wD1 at *
 apply wts 0 5 rfl rfl (by kernel_rfl) (fun _ _ _ h=>h) hHeld
 ·intro w' hSw;go_simp<;>with_reducible rfl
 apply wts 1 6 rfl rfl (by kernel_rfl) (fun _ _ _ h=>h) hHeld
 ·intro w' hSw;go_simp<;>with_reducible rfl
 apply wts 2 7 rfl rfl (by kernel_rfl) (fun _ _ _ h=>h) hHeld
 ·intro w' hSw;go_simp<;>with_reducible rfl
 apply wts 3 8 rfl rfl (by kernel_rfl) (fun _ _ _ h=>h) hHeld
 ·intro w' hSw;go_simp<;>with_reducible rfl
 apply wts 4 9 rfl rfl (by kernel_rfl) (fun _ _ _ h=>h) hHeld
 ·intro w' hSw;go_simp<;>with_reducible rfl
 apply wts 5 10 rfl rfl (by kernel_rfl) (fun _ _ _ h=>h) hHeld
 ·intro w' hSw;go_simp<;>with_reducible rfl
 apply wts 6 11 rfl rfl (by kernel_rfl) (fun _ _ _ h=>h) hHeld
 ·intro w' hSw;go_simp<;>with_reducible rfl
 apply wts 7 12 rfl rfl (by kernel_rfl) (fun _ _ _ h=>h) hHeld
 ·intro w' hSw;go_simp<;>with_reducible rfl
 apply wts 8 13 rfl rfl (by kernel_rfl) (fun _ _ _ h=>h) hHeld
 ·intro w' hSw;go_simp<;>with_reducible rfl
 apply wts 10 15 rfl rfl (by kernel_rfl) (fun _ _ _ h=>h) hHeld
 ·intro w' hSw;go_simp<;>with_reducible rfl
 apply wts 12 17 rfl rfl (by kernel_rfl) (fun _ _ _ h=>h) hHeld
 ·intro w' hSw;go_simp<;>with_reducible rfl
 try simp only [Act.put,pA,pB,pC]
 refine wonc 9 14 180 #[.tmp 11,.tmp 13] #[41,41] 41 (by kernel_rfl) rfl rfl (fun KK hKK => ?_);go_simp;refine (rmul_c _ _ _ _ K _ (hpx.ext g1) (hpy.ext g1) SX.o.1 SY.o.1 (by have:=HK.o;omega)).mono ?_;rintro e w2 ⟨p2a,p2n,p2c,rfl,k1,g2⟩;have hb1:=g1.trans g2
 try dsimp only
 refine hKK.out _ _ (hb1.but) (fun hHeld => ?_)
 try simp only [Act.put,pA,pB,pC]
 refine wonc 11 16 178 #[.tmp 15] #[43] 41 (by kernel_rfl) rfl rfl (fun KK hKK => ?_);go_simp;refine (rbottom_c _ q _ (hvx.ext hb1)).mono ?_;rintro e w3 ⟨d3a,d3n,d3c,rfl,k2,g3⟩;have hb2:=hb1.trans g3
 try dsimp only
 refine hKK.out _ _ (hb2.but) (fun hHeld => ?_)
 try simp only [Act.put,pA,pB,pC]
 refine wonc 13 18 178 #[.tmp 17] #[43] 41 (by kernel_rfl) rfl rfl (fun KK hKK => ?_);go_simp;refine (rbottom_c _ r _ (hvy.ext hb2)).mono ?_;rintro e w4 ⟨d4a,d4n,d4c,rfl,k3,g4⟩;have hb3:=hb2.trans g4
 try dsimp only
 refine hKK.out _ _ (hb3.but) (fun hHeld => ?_)
 try simp only [Act.put,pA,pB,pC]
 refine wonc 14 19 180 #[.tmp 16,.tmp 18] #[41,41] 41 (by kernel_rfl) rfl rfl (fun KK hKK => ?_);go_simp;refine (rmul_c _ _ _ _ K _ (k2.ext g4) k3 SX.o.2 SY.o.2 (by have:=HK.o;omega)).mono ?_;rintro e w5 ⟨p5a,p5n,p5c,rfl,k4,g5⟩;have hb4:=hb3.trans g5
 try dsimp only
 refine hKK.out _ _ (hb4.but) (fun hHeld => ?_)
 try simp only [Act.put,pA,pB,pC]
 refine wonc 15 20 173 #[.tmp 9,.tmp 14,.tmp 19] #[3,41,41] 43 (by kernel_rfl) rfl rfl (fun KK hKK => ?_);go_simp;refine (rmade_c _ _ _ _ _ (K+K) _ H3.o (k1.ext (g3.trans (g4.trans g5))) k4 (SX.o.1.mul SY.o.1) (SX.o.2.mul SY.o.2) (by have:=HK.o;omega) (Nat.mul_pos (den_pos q) (den_pos r))).mono ?_;rintro e w6 ⟨v,rfl,k5,g6⟩;have hb5:=hb4.trans g6;obtain ⟨s5,a5,n5,c5,a5',n5',c5',rfl⟩:=k5.shape
 try dsimp only
 refine hKK.out _ _ (hb5.but) (fun hHeld => ?_)
 try simp only [Act.put,pA,pB,pC]
 refine wons 16 43 4 20 (by kernel_rfl) rfl rfl (fun KK hKK => ?_);obtain ⟨U6,U7,U8⟩:=(HB_Z.o.ext hb5).f3;go_simp;clear U6 U7 U8;obtain ⟨W7,hW7,g7,q7,B7,hy7,ho7⟩:=rsto3 (HE.o.trans hb5) (by omega) (HB_Z.o.ext hb5) (by decide) (.int .i64 s5) (.slice a5 n5 c5) (.slice a5' n5' c5');rw [←hW7];clear hW7;replace HB_Z:=hid B7;have hq7:But W0 (w.heap.size+1+1) W7:=But.sto (hb5.but) ho7
 try dsimp only
 refine hKK.out _ _ (hq7) (fun hHeld => ?_);refine wpAnyH_done (by kernel_rfl) ?_ _;have ac:=cland (ho7 _ _ _ (by omega) (HB_X.o.ext (g1.trans (g2.trans (g3.trans (g4.trans (g5.trans g6))))))).a3 (cland (ho7 _ _ _ (by omega) (HB_Y.o.ext (g1.trans (g2.trans (g3.trans (g4.trans (g5.trans g6))))))).a3 (HB_Z.o.a3));have hr9:Ext W7 W7:=Below.refl _ _;go_wp2_with fail;obtain ⟨J10,J11,J12⟩:=HB_Z.o.c3;refine bodyPost_ret (v:=.agg #[.int .i64 s5,.slice a5 n5 c5,.slice a5' n5' c5']) (by simp [results,Tryz.results216,go_sem,J10,J11,J12]) rfl ⟨_,rfl,by rw [←HV.o];exact (k5.keepR q7),g7⟩
theorem rcmp_other (q r:Rat) (h:q.num.sign<r.num.sign):cmpQ q r = -1:=by
 rw [cmpQ_other (by omega),if_pos h]
theorem rcmp_more (q r:Rat) (h:r.num.sign<q.num.sign):cmpQ q r=1:=by
 rw [cmpQ_other (by omega),if_neg (by omega)]
theorem cmpN3 (a b:Nat):cmpN a b=1∨cmpN a b = -1∨cmpN a b=0:=by
 unfold cmpN
 split
 ·exact .inr (.inl rfl)
 ·split
  ·exact .inl rfl
  ·exact .inr (.inr rfl)
theorem three_mul {s t:Int} (hs:s=1∨s = -1∨s=0) (ht:t=1∨t = -1∨t=0):s*t=1∨s*t = -1∨s*t=0:=by
 rcases hs with rfl | rfl | rfl<;>rcases ht with rfl | rfl | rfl<;>simp
theorem sg_dec1 {q:Rat} (h:q.num.sign=1):decide (q.num<0)=false:=decide_eq_false (fun e=>by have:=Int.sign_eq_neg_one_of_neg e;omega)
theorem sg_dec2 {q:Rat} (h:q.num.sign = -1):decide (q.num<0)=true:=decide_eq_true (Int.sign_eq_neg_one_iff_neg.1 h)
theorem rquo_value (q r:Rat) (hr:r≠0):mkRat (q.num.sign*r.num.sign*((q.num.natAbs*r.den:Nat):Int)) (q.den*r.num.natAbs)=q/r:=by
 have hn:r.num≠0:=fun e=>hr (Rat.num_eq_zero.1 e);rw [←quo_value q r hr]
 rcases sgn3 q with h | h | h
 ·rcases sgn3 r with k | k | k
  ·rw [mkRat_sgn (by rw [h,k];decide),h,k,sg_dec1 h,sg_dec1 k];rfl
  ·rw [mkRat_sgn (by rw [h,k];decide),h,k,sg_dec1 h,sg_dec2 k];rfl
  ·exact absurd (Int.sign_eq_zero_iff_zero.1 k) hn
 ·rcases sgn3 r with k | k | k
  ·rw [mkRat_sgn (by rw [h,k];decide),h,k,sg_dec2 h,sg_dec1 k];rfl
  ·rw [mkRat_sgn (by rw [h,k];decide),h,k,sg_dec2 h,sg_dec2 k];rfl
  ·exact absurd (Int.sign_eq_zero_iff_zero.1 k) hn
 ·have h0:=Int.sign_eq_zero_iff_zero.1 h;rw [h,Int.zero_mul,Int.zero_mul,Rat.zero_mkRat,h0];simp only [Int.natAbs_zero,Nat.zero_mul,mkq_zero]
theorem radd_same {q r:Rat} {s:Int} (h:q.num.sign=s∨q.num.sign=0) (k:r.num.sign=s∨r.num.sign=0):mkRat (s*((q.num.natAbs*r.den+r.num.natAbs*q.den:Nat):Int)) (q.den*r.den)=q+r:=by
 have h1:s*(q.num.natAbs:Int)=q.num:=by
  have e:=Int.sign_mul_natAbs q.num
  rcases h with h | h
  ·rw [h] at e;exact e
  ·have:=Int.sign_eq_zero_iff_zero.1 h;rw [this];simp
 have h2:s*(r.num.natAbs:Int)=r.num:=by
  have e:=Int.sign_mul_natAbs r.num
  rcases k with h | h
  ·rw [h] at e;exact e
  ·have:=Int.sign_eq_zero_iff_zero.1 h;rw [this];simp
 have e:s*((q.num.natAbs*r.den+r.num.natAbs*q.den:Nat):Int)=q.num*r.den+r.num*q.den:=by
  rw [Int.natCast_add,Int.natCast_mul,Int.natCast_mul,Int.mul_add,←Int.mul_assoc,←Int.mul_assoc,h1,h2]
 rw [e,←Rat.mkRat_add_mkRat _ _ q.den_nz r.den_nz,Rat.mkRat_self,Rat.mkRat_self]
theorem radd_diff {q r:Rat} (h:q.num.sign = - r.num.sign) (hle:q.num.natAbs*r.den≤r.num.natAbs*q.den):mkRat (r.num.sign*((r.num.natAbs*q.den-q.num.natAbs*r.den:Nat):Int)) (q.den*r.den)=q+r:=by
 have e1:=Int.sign_mul_natAbs q.num;have e2:=Int.sign_mul_natAbs r.num;have e:r.num.sign*((r.num.natAbs*q.den-q.num.natAbs*r.den:Nat):Int)=q.num*r.den+r.num*q.den:=by
  rw [Int.natCast_sub hle,Int.natCast_mul,Int.natCast_mul,Int.mul_sub,←Int.mul_assoc,←Int.mul_assoc,e2];rw [h] at e1
  have:r.num.sign*(q.num.natAbs:Int) = - q.num:=by
   have h5:r.num.sign*(q.num.natAbs:Int) = -(-r.num.sign*(q.num.natAbs:Int)):=by rw [Int.neg_mul,Int.neg_neg]
   rw [h5,e1]
  rw [this,Int.neg_mul];omega
 rw [e,←Rat.mkRat_add_mkRat _ _ q.den_nz r.den_nz,Rat.mkRat_self,Rat.mkRat_self]
theorem radd_diff' {q r:Rat} (h:q.num.sign = - r.num.sign) (hle:r.num.natAbs*q.den≤q.num.natAbs*r.den):mkRat (q.num.sign*((q.num.natAbs*r.den-r.num.natAbs*q.den:Nat):Int)) (q.den*r.den)=q+r:=by
 rw [Nat.mul_comm q.den,Rat.add_comm]
 exact radd_diff (by omega) hle
theorem risint_c (x:Value) (q:Rat) (K:Nat) (w:World) (hx:RNumV w x q) (sx:SmQ K q) (hK:K≤30000000) :
  Calls Tryz.prog 85 #[x] w fun e w'=>e=.returned (.bool (decide (q.den=1)))∧Ext w w':=by
 obtain ⟨s1,a1,n1,c1,a1',n1',c1',rfl⟩:=hx.shape;have hvx:=hx;have SX:=hid sx;have HK:=hid hK;have hcm:(cmpN q.den 1==0)=decide (q.den=1):=cmpN_eq0 _ _;obtain ⟨cc,hcc⟩:∃ c,c=cmpN q.den 1:=⟨_,rfl⟩;rw [←hcc] at hcm;have HCC:=hid hcc;obtain ⟨bb,hbb⟩:∃ b,b=decide (q.den=1):=⟨_,rfl⟩;rw [←hbb] at hcm;have HBB:=hid hbb;clear hx sx hK hcc hbb;obtain ⟨W0,hW0,g0,hz0,B_X⟩:=pro1 w #[.int .i64 s1,.slice a1 n1 c1,.slice a1' n1' c1'] 43;have HE:=hid g0;have HB_X:=hid B_X;have ac:=HB_X.o.a3;have hr0:Ext W0 W0:=Below.refl _ _;clear g0 B_X 
 go_enter Tryz.func85,Tryz.ntmps85
 go_upto_region 1 with (fail)
 rw [←hW0];clear hW0;replace hvx:=hvx.ext HE.o;go_wp2_with fail;refine (rbottom_c _ q _ hvx).mono ?_;rintro e w1 ⟨d1a,d1n,d1c,rfl,k1,g1⟩;go_wp2_with fail;refine (rone_c _).mono ?_;rintro e w2 ⟨o2a,o2n,o2c,rfl,k2,g2⟩;have hb1:=g1.trans g2;go_wp2_with fail;refine (rcmp_c _ _ _ _ (K+1) _ (k1.ext g2) k2 (SX.o.2.mono (by omega)) (Nat.lt_of_lt_of_le (by decide:1<2^1) (Nat.pow_le_pow_right (by decide) (by omega))) (by have:=HK.o;omega)).mono ?_;rintro e w3 ⟨rfl,g3⟩;have hb2:=hb1.trans g3;rw [←HCC.o];go_wp2_with fail;go_ret
 exact ⟨(by show Ending.returned (.bool bb)=_;rw [HBB.o]),(HE.o.trans hb2)⟩
theorem rcmpq_c (x y:Value) (q r:Rat) (K:Nat) (w:World) (hx:RNumV w x q) (hy:RNumV w y r) (sx:SmQ K q) (sy:SmQ K r) (hK:K≤10000000) :
  Calls Tryz.prog 87 #[x,y] w fun e w'=>e=.returned (.int .i64 (cmpQ q r))∧Ext w w':=by
 obtain ⟨s1,a1,n1,c1,a1',n1',c1',rfl⟩:=hx.shape;obtain ⟨s2,a2,n2,c2,a2',n2',c2',rfl⟩:=hy.shape;have hvx:=hx;have hvy:=hy;have SX:=hid sx;have SY:=hid sy;have HK:=hid hK;have HSX:Hid (s1=q.num.sign):=hid hx.sign;have HSY:Hid (s2=r.num.sign):=hid hy.sign;have H3X:Hid (s1=1∨s1 = -1∨s1=0):=hid (by rw [hx.sign];exact sgn3 q);have H3Y:Hid (s2=1∨s2 = -1∨s2=0):=hid (by rw [hy.sign];exact sgn3 r);clear hx hy sx sy hK;obtain ⟨W0,hW0,g0,hz0,B_X,B_Y⟩:=pro2s w #[.int .i64 s1,.slice a1 n1 c1,.slice a1' n1' c1'] #[.int .i64 s2,.slice a2 n2 c2,.slice a2' n2' c2'] 43 43;have HE:=hid g0;have HB_X:=hid B_X;have HB_Y:=hid B_Y;have ac:=cland HB_X.o.a3 (HB_Y.o.a3);have hr0:Ext W0 W0:=Below.refl _ _;clear g0 B_X B_Y 
 go_enter Tryz.func87,Tryz.ntmps87
 go_upto_region 1 with (fail)
 rw [←hW0];clear hW0;replace hvx:=hvx.ext HE.o;replace hvy:=hvy.ext HE.o
 rcases Int.lt_trichotomy s1 s2 with hl | hl | hl
 ·have hd:decide (s1<s2)=true:=decide_eq_true hl;have HR:Hid (cmpQ q r = -1):=hid (rcmp_other q r (by have:=HSX.o;have:=HSY.o;omega));clear hl;go_wp2_with fail;rw [HR.o];go_ret
  exact ⟨rfl,HE.o⟩
 ·subst hl;have hd:decide (s1<s1)=false:=decide_eq_false (by omega);have HR:Hid (cmpQ q r=s1*cmpN (q.num.natAbs*r.den) (r.num.natAbs*q.den)):=hid (by rw [HSX.o];exact cmpQ_sign (by rw [←HSX.o,←HSY.o]));obtain ⟨cc,hcc⟩:∃ c,c=cmpN (q.num.natAbs*r.den) (r.num.natAbs*q.den):=⟨_,rfl⟩;rw [←hcc] at HR;have hwr:IntKind.i64.wrap (s1*cc)=s1*cc:=by
   rcases three_mul H3X.o (hcc ▸ cmpN3 _ _:cc=1∨cc = -1∨cc=0) with h | h | h<;>rw [h]<;>rfl
  have HCC:=hid hcc;clear hcc;have hpx:=hvx.top;have hpy:=hvy.top
  go_upto_region 5 with (fail)
  have g1:Ext W0 W0.drew:=Below.drew (Below.refl _ _);refine wp_region_held_drew (S:=Ext W0) (by kernel_rfl) (g1) (fun hHeld => ?_);generalize W0.drew=wD1 at *
  apply wts 0 17 rfl rfl (by kernel_rfl) (fun _ _ _ h=>h) hHeld
  ·intro w' hSw;go_simp<;>with_reducible rfl
  apply wts 1 18 rfl rfl (by kernel_rfl) (fun _ _ _ h=>h) hHeld
  ·intro w' hSw;go_simp<;>with_reducible rfl
  apply wts 2 19 rfl rfl (by kernel_rfl) (fun _ _ _ h=>h) hHeld
  ·intro w' hSw;go_simp<;>with_reducible rfl
  apply wts 3 20 rfl rfl (by kernel_rfl) (fun _ _ _ h=>h) hHeld
  ·intro w' hSw;go_simp<;>with_reducible rfl
  apply wts 4 21 rfl rfl (by kernel_rfl) (fun _ _ _ h=>h) hHeld
  ·intro w' hSw;go_simp<;>with_reducible rfl
  apply wts 7 24 rfl rfl (by kernel_rfl) (fun _ _ _ h=>h) hHeld
  ·intro w' hSw;go_simp<;>with_reducible rfl
  apply wts 8 25 rfl rfl (by kernel_rfl) (fun _ _ _ h=>h) hHeld
  ·intro w' hSw;go_simp<;>with_reducible rfl
  apply wts 9 26 rfl rfl (by kernel_rfl) (fun _ _ _ h=>h) hHeld
  ·intro w' hSw;go_simp<;>with_reducible rfl
  try simp only [Act.put,pA,pB,pC]
  refine wonc 5 22 178 #[.tmp 21] #[43] 41 (by kernel_rfl) rfl rfl (fun KK hKK => ?_);go_simp;refine (rbottom_c _ r _ (hvy.ext g1)).mono ?_;rintro e w2 ⟨d2a,d2n,d2c,rfl,k1,g2⟩;have hb1:=g1.trans g2
  try dsimp only
  refine hKK.out _ _ (hb1) (fun hHeld => ?_)
  try simp only [Act.put,pA,pB,pC]
  refine wonc 6 23 180 #[.tmp 20,.tmp 22] #[41,41] 41 (by kernel_rfl) rfl rfl (fun KK hKK => ?_);go_simp;refine (rmul_c _ _ _ _ K _ (hpx.ext hb1) k1 SX.o.1 SY.o.2 (by have:=HK.o;omega)).mono ?_;rintro e w3 ⟨p3a,p3n,p3c,rfl,k2,g3⟩;have hb2:=hb1.trans g3
  try dsimp only
  refine hKK.out _ _ (hb2) (fun hHeld => ?_)
  try simp only [Act.put,pA,pB,pC]
  refine wonc 10 27 178 #[.tmp 26] #[43] 41 (by kernel_rfl) rfl rfl (fun KK hKK => ?_);go_simp;refine (rbottom_c _ q _ (hvx.ext hb2)).mono ?_;rintro e w4 ⟨d4a,d4n,d4c,rfl,k3,g4⟩;have hb3:=hb2.trans g4
  try dsimp only
  refine hKK.out _ _ (hb3) (fun hHeld => ?_)
  try simp only [Act.put,pA,pB,pC]
  refine wonc 11 28 180 #[.tmp 25,.tmp 27] #[41,41] 41 (by kernel_rfl) rfl rfl (fun KK hKK => ?_);go_simp;refine (rmul_c _ _ _ _ K _ (hpy.ext hb3) k3 SY.o.1 SX.o.2 (by have:=HK.o;omega)).mono ?_;rintro e w5 ⟨p5a,p5n,p5c,rfl,k4,g5⟩;have hb4:=hb3.trans g5
  try dsimp only
  refine hKK.out _ _ (hb4) (fun hHeld => ?_)
  try simp only [Act.put,pA,pB,pC]
  refine wonc 12 29 177 #[.tmp 23,.tmp 28] #[41,41] 3 (by kernel_rfl) rfl rfl (fun KK hKK => ?_);go_simp;refine (rcmp_c _ _ _ _ (K+K) _ (k2.ext (g4.trans g5)) k4 (SX.o.1.mul SY.o.2) (SY.o.1.mul SX.o.2) (by have:=HK.o;omega)).mono ?_;rintro e w6 ⟨rfl,g6⟩;have hb5:=hb4.trans g6;rw [←HCC.o]
  try dsimp only
  refine hKK.out _ _ (hb5) (fun hHeld => ?_);apply wts 13 30 rfl rfl (by kernel_rfl) (fun _ _ _ h=>h) hHeld
  ·intro w' hSw;go_simp<;>with_reducible rfl
  apply wts 14 4 rfl rfl (by kernel_rfl) (fun _ _ _ h=>h) hHeld
  ·intro w' hSw;go_simp<;>with_reducible rfl
  refine wpAnyH_done (by kernel_rfl) ?_ _;go_wp2_with fail;rw [HR.o];go_ret
  exact ⟨rfl,(HE.o.trans hb5)⟩
 ·have hd:decide (s1<s2)=false:=decide_eq_false (by omega);have hd2:decide (s2<s1)=true:=decide_eq_true hl;have HR:Hid (cmpQ q r=1):=hid (rcmp_more q r (by have:=HSX.o;have:=HSY.o;omega));clear hl;go_wp2_with fail;rw [HR.o];go_ret
  exact ⟨rfl,HE.o⟩
theorem rquoq_c (x y:Value) (q r:Rat) (K:Nat) (w:World) (hx:RNumV w x q) (hy:RNumV w y r) (sx:SmQ K q) (sy:SmQ K r) (hK:K≤10000000) (hr:r≠0) :
  Calls Tryz.prog 212 #[x,y] w fun e w'=>∃ v,e=.returned (.tuple #[v,.int .i64 0])∧RNumV w' v (q/r)∧Ext w w':=by
 obtain ⟨s1,a1,n1,c1,a1',n1',c1',rfl⟩:=hx.shape;obtain ⟨s2,a2,n2,c2,a2',n2',c2',rfl⟩:=hy.shape;have hvx:=hx;have hvy:=hy;have SX:=hid sx;have SY:=hid sy;have HK:=hid hK;have HSX:Hid (s1=q.num.sign):=hid hx.sign;have HSY:Hid (s2=r.num.sign):=hid hy.sign;have H3X:Hid (s1=1∨s1 = -1∨s1=0):=hid (by rw [hx.sign];exact sgn3 q);have H3Y:Hid (s2=1∨s2 = -1∨s2=0):=hid (by rw [hy.sign];exact sgn3 r);clear hx hy sx sy hK;have hs0:(s2==0)=false:=by
  rw [HSY.o];exact beq_eq_false_iff_ne.2 (fun e=>hr (Rat.num_eq_zero.1 (Int.sign_eq_zero_iff_zero.1 e)))
 have H3:Hid (s1*s2=1∨s1*s2 = -1∨s1*s2=0):=hid (three_mul H3X.o H3Y.o);have hwr:IntKind.i64.wrap (s1*s2)=s1*s2:=by rcases H3.o with h | h | h<;>rw [h]<;>rfl
 have HV:Hid (mkRat (s1*s2*((q.num.natAbs*r.den:Nat):Int)) (q.den*r.num.natAbs)=q/r):=hid (by rw [HSX.o,HSY.o];exact rquo_value q r hr);have HP:Hid (0<q.den*r.num.natAbs):=hid (Nat.mul_pos (den_pos q) (Nat.pos_of_ne_zero fun h=>hr (Rat.num_eq_zero.1 (by omega))));have HR:=hid hr;clear hr;obtain ⟨W0,hW0,g0,hz0,B_X,B_Y,B_Z⟩:=pro3s w #[.int .i64 s1,.slice a1 n1 c1,.slice a1' n1' c1'] #[.int .i64 s2,.slice a2 n2 c2,.slice a2' n2' c2'] #[.int .i64 0,.slice none 0 0,.slice none 0 0] 43 43 43;have HE:=hid g0;have HB_X:=hid B_X;have HB_Y:=hid B_Y;have HB_Z:=hid B_Z;have ac:=cland HB_X.o.a3 (cland HB_Y.o.a3 (HB_Z.o.a3));have hr0:Ext W0 W0:=Below.refl _ _;clear g0 B_X B_Y B_Z 
 go_enter Tryz.func212,Tryz.ntmps212
 go_upto_region 1 with (fail)
 rw [←hW0];clear hW0;replace hvx:=hvx.ext HE.o;replace hvy:=hvy.ext HE.o;have hpx:=hvx.top;have hpy:=hvy.top;have hdy:=hvy.den;have HRZ:Hid ((if r=0 then 0 else r.den)=r.den):=hid (if_neg HR.o);rw [HRZ.o] at hdy
 go_upto_region 3 with (fail)
 have kc:=cland (Box.bt (z:=w.heap.size+1+1) HB_X.o (by omega) Box.n3) ((Box.bt (z:=w.heap.size+1+1) HB_Y.o (by omega) Box.n3));have g1:Ext W0 W0.drew:=Below.drew (Below.refl _ _);refine wp_region_held_drew (S:=But W0 (w.heap.size+1+1)) (by kernel_rfl) (g1.but) (fun hHeld => ?_);generalize W0.drew=wD1 at *
 apply wts 0 10 rfl rfl (by kernel_rfl) (fun _ _ _ h=>h) hHeld
 ·intro w' hSw;go_simp<;>with_reducible rfl
 apply wts 1 11 rfl rfl (by kernel_rfl) (fun _ _ _ h=>h) hHeld
 ·intro w' hSw;go_simp<;>with_reducible rfl
 apply wts 2 12 rfl rfl (by kernel_rfl) (fun _ _ _ h=>h) hHeld
 ·intro w' hSw;go_simp<;>with_reducible rfl
 apply wts 3 13 rfl rfl (by kernel_rfl) (fun _ _ _ h=>h) hHeld
 ·intro w' hSw;go_simp<;>with_reducible rfl
 apply wts 4 14 rfl rfl (by kernel_rfl) (fun _ _ _ h=>h) hHeld
 ·intro w' hSw;go_simp<;>with_reducible rfl
 apply wts 5 15 rfl rfl (by kernel_rfl) (fun _ _ _ h=>h) hHeld
 ·intro w' hSw;go_simp<;>with_reducible rfl
 apply wts 6 16 rfl rfl (by kernel_rfl) (fun _ _ _ h=>h) hHeld
 ·intro w' hSw;go_simp<;>with_reducible rfl
 apply wts 7 17 rfl rfl (by kernel_rfl) (fun _ _ _ h=>h) hHeld
 ·intro w' hSw;go_simp<;>with_reducible rfl
 apply wts 8 18 rfl rfl (by kernel_rfl) (fun _ _ _ h=>h) hHeld
 ·intro w' hSw;go_simp<;>with_reducible rfl
 apply wts 10 20 rfl rfl (by kernel_rfl) (fun _ _ _ h=>h) hHeld
 ·intro w' hSw;go_simp<;>with_reducible rfl
 apply wts 12 22 rfl rfl (by kernel_rfl) (fun _ _ _ h=>h) hHeld
 ·intro w' hSw;go_simp<;>with_reducible rfl
 apply wts 13 23 rfl rfl (by kernel_rfl) (fun _ _ _ h=>h) hHeld
 ·intro w' hSw;go_simp<;>with_reducible rfl
 try simp only [Act.put,pA,pB,pC]
 refine wonc 9 19 180 #[.tmp 16,.tmp 18] #[41,41] 41 (by kernel_rfl) rfl rfl (fun KK hKK => ?_);go_simp;refine (rmul_c _ _ _ _ K _ (hpx.ext g1) (hdy.ext g1) SX.o.1 SY.o.2 (by have:=HK.o;omega)).mono ?_;rintro e w2 ⟨p2a,p2n,p2c,rfl,k1,g2⟩;have hb1:=g1.trans g2
 try dsimp only
 refine hKK.out _ _ (hb1.but) (fun hHeld => ?_)
 try simp only [Act.put,pA,pB,pC]
 refine wonc 11 21 178 #[.tmp 20] #[43] 41 (by kernel_rfl) rfl rfl (fun KK hKK => ?_);go_simp;refine (rbottom_c _ q _ (hvx.ext hb1)).mono ?_;rintro e w3 ⟨d3a,d3n,d3c,rfl,k2,g3⟩;have hb2:=hb1.trans g3
 try dsimp only
 refine hKK.out _ _ (hb2.but) (fun hHeld => ?_)
 try simp only [Act.put,pA,pB,pC]
 refine wonc 14 24 180 #[.tmp 21,.tmp 23] #[41,41] 41 (by kernel_rfl) rfl rfl (fun KK hKK => ?_);go_simp;refine (rmul_c _ _ _ _ K _ k2 (hpy.ext hb2) SX.o.2 SY.o.1 (by have:=HK.o;omega)).mono ?_;rintro e w4 ⟨p4a,p4n,p4c,rfl,k4,g4⟩;have hb3:=hb2.trans g4
 try dsimp only
 refine hKK.out _ _ (hb3.but) (fun hHeld => ?_)
 try simp only [Act.put,pA,pB,pC]
 refine wonc 15 25 173 #[.tmp 14,.tmp 19,.tmp 24] #[3,41,41] 43 (by kernel_rfl) rfl rfl (fun KK hKK => ?_);go_simp;refine (rmade_c _ _ _ _ _ (K+K) _ H3.o (k1.ext (g3.trans g4)) k4 (SX.o.1.mul SY.o.2) (SX.o.2.mul SY.o.1) (by have:=HK.o;omega) HP.o).mono ?_;rintro e w5 ⟨v,rfl,k5,g5⟩;have hb4:=hb3.trans g5;obtain ⟨s5,a5,n5,c5,a5',n5',c5',rfl⟩:=k5.shape
 try dsimp only
 refine hKK.out _ _ (hb4.but) (fun hHeld => ?_)
 try simp only [Act.put,pA,pB,pC]
 refine wons 16 43 4 25 (by kernel_rfl) rfl rfl (fun KK hKK => ?_);obtain ⟨U5,U6,U7⟩:=(HB_Z.o.ext hb4).f3;go_simp;clear U5 U6 U7;obtain ⟨W6,hW6,g6,q6,B6,hy6,ho6⟩:=rsto3 (HE.o.trans hb4) (by omega) (HB_Z.o.ext hb4) (by decide) (.int .i64 s5) (.slice a5 n5 c5) (.slice a5' n5' c5');rw [←hW6];clear hW6;replace HB_Z:=hid B6;have hq6:But W0 (w.heap.size+1+1) W6:=But.sto (hb4.but) ho6
 try dsimp only
 refine hKK.out _ _ (hq6) (fun hHeld => ?_);apply wts 17 5 rfl rfl (by kernel_rfl) (fun _ _ _ h=>h) hHeld
 ·intro w' hSw;go_simp<;>with_reducible rfl
 refine wpAnyH_done (by kernel_rfl) ?_ _;have ac:=cland (ho6 _ _ _ (by omega) (HB_X.o.ext (g1.trans (g2.trans (g3.trans (g4.trans g5)))))).a3 (cland (ho6 _ _ _ (by omega) (HB_Y.o.ext (g1.trans (g2.trans (g3.trans (g4.trans g5)))))).a3 (HB_Z.o.a3));have hr8:Ext W6 W6:=Below.refl _ _;go_wp2_with fail;obtain ⟨J9,J10,J11⟩:=HB_Z.o.c3;refine bodyPost_ret (v:=.tuple #[.agg #[.int .i64 s5,.slice a5 n5 c5,.slice a5' n5' c5'],.int .i64 0]) (by simp [results,Tryz.results212,go_sem,J9,J10,J11]) rfl ⟨_,rfl,by rw [←HV.o];exact (k5.keepR q6),g6⟩
theorem sgn_ne {q r:Rat} (h:q.num.sign≠r.num.sign) (h1:q.num.sign≠0) (h2:r.num.sign≠0):q.num.sign = - r.num.sign:=by
 have a:=sgn3 q;have b:=sgn3 r;generalize q.num.sign=s at *
 generalize r.num.sign=t at *
 omega
theorem rshift_down (q:Rat) (n:Nat):mkRat (q.num.sign*(q.num.natAbs:Int)) (q.den*2^n)=q*(2:Rat)^(-(n:Int)):=by
 have h:=shift_down (decide (q.num<0)) q.num.natAbs q.den n q.den_nz;rw [mkq_self] at h;rw [←h]
 rcases sgn3 q with k | k | k
 ·rw [mkRat_sgn (by rw [k];decide),k,sg_dec1 k];rfl
 ·rw [mkRat_sgn (by rw [k];decide),k,sg_dec2 k];rfl
 ·have h0:=Int.sign_eq_zero_iff_zero.1 k;rw [k,Int.zero_mul,Rat.zero_mkRat,h0];simp only [Int.natAbs_zero,mkq_zero]
theorem rshift_up (q:Rat) (n:Nat):mkRat (q.num.sign*((q.num.natAbs*2^n:Nat):Int)) q.den=q*(2:Rat)^(n:Int):=by
 have h:=shift_up (decide (q.num<0)) q.num.natAbs q.den n;rw [mkq_self] at h;rw [←h]
 rcases sgn3 q with k | k | k
 ·rw [mkRat_sgn (by rw [k];decide),k,sg_dec1 k];rfl
 ·rw [mkRat_sgn (by rw [k];decide),k,sg_dec2 k];rfl
 ·have h0:=Int.sign_eq_zero_iff_zero.1 k;rw [k,Int.zero_mul,Rat.zero_mkRat,h0];simp only [Int.natAbs_zero,Nat.zero_mul,mkq_zero]
theorem rnatural_i (m:Int) (k:Nat) (w:World) (hm:m=(k:Int)) (hk:k<18446744073709551616) :
  Calls Tryz.prog 211 #[.int .u64 m] w fun e w'=>∃ a k' cap,e=.returned (.slice a k' cap)∧RefV w' (.slice a k' cap) k∧Ext w w':=by
 subst hm;exact rnatural_c k w hk
theorem raddq_c (x y:Value) (q r:Rat) (K:Nat) (w:World) (hx:RNumV w x q) (hy:RNumV w y r) (sx:SmQ K q) (sy:SmQ K r) (hK:K≤10000000) :
  Calls Tryz.prog 89 #[x,y] w fun e w'=>∃ v,e=.returned v∧RNumV w' v (q+r)∧Ext w w':=by
 obtain ⟨s1,a1,n1,c1,a1',n1',c1',rfl⟩:=hx.shape;obtain ⟨s2,a2,n2,c2,a2',n2',c2',rfl⟩:=hy.shape;have hvx:=hx;have hvy:=hy;have SX:=hid sx;have SY:=hid sy;have HK:=hid hK;have HSX:Hid (s1=q.num.sign):=hid hx.sign;have HSY:Hid (s2=r.num.sign):=hid hy.sign;have H3X:Hid (s1=1∨s1 = -1∨s1=0):=hid (by rw [hx.sign];exact sgn3 q);have H3Y:Hid (s2=1∨s2 = -1∨s2=0):=hid (by rw [hy.sign];exact sgn3 r);clear hx hy sx sy hK;obtain ⟨W0,hW0,g0,hz0,B_X,B_Y,B_Z⟩:=pro3s w #[.int .i64 s1,.slice a1 n1 c1,.slice a1' n1' c1'] #[.int .i64 s2,.slice a2 n2 c2,.slice a2' n2' c2'] #[.int .i64 0,.slice none 0 0,.slice none 0 0] 43 43 43;have HE:=hid g0;have HB_X:=hid B_X;have HB_Y:=hid B_Y;have HB_Z:=hid B_Z;have ac:=cland HB_X.o.a3 (cland HB_Y.o.a3 (HB_Z.o.a3));have hr0:Ext W0 W0:=Below.refl _ _;clear g0 B_X B_Y B_Z 
 go_enter Tryz.func89,Tryz.ntmps89
 go_upto_region 1 with (fail)
 rw [←hW0];clear hW0;replace hvx:=hvx.ext HE.o;replace hvy:=hvy.ext HE.o;have hpx:=hvx.top;have hpy:=hvy.top;have g1:Ext W0 W0.drew:=Below.drew (Below.refl _ _);refine wp_region_held_drew (S:=Ext W0) (by kernel_rfl) (g1) (fun hHeld => ?_);generalize W0.drew=wD1 at *
 apply wts 0 9 rfl rfl (by kernel_rfl) (fun _ _ _ h=>h) hHeld
 ·intro w' hSw;go_simp<;>with_reducible rfl
 apply wts 1 10 rfl rfl (by kernel_rfl) (fun _ _ _ h=>h) hHeld
 ·intro w' hSw;go_simp<;>with_reducible rfl
 apply wts 2 11 rfl rfl (by kernel_rfl) (fun _ _ _ h=>h) hHeld
 ·intro w' hSw;go_simp<;>with_reducible rfl
 apply wts 5 14 rfl rfl (by kernel_rfl) (fun _ _ _ h=>h) hHeld
 ·intro w' hSw;go_simp<;>with_reducible rfl
 apply wts 6 15 rfl rfl (by kernel_rfl) (fun _ _ _ h=>h) hHeld
 ·intro w' hSw;go_simp<;>with_reducible rfl
 apply wts 7 16 rfl rfl (by kernel_rfl) (fun _ _ _ h=>h) hHeld
 ·intro w' hSw;go_simp<;>with_reducible rfl
 try simp only [Act.put,pA,pB,pC]
 refine wonc 3 12 178 #[.tmp 11] #[43] 41 (by kernel_rfl) rfl rfl (fun KK hKK => ?_);go_simp;refine (rbottom_c _ r _ (hvy.ext g1)).mono ?_;rintro e w2 ⟨d2a,d2n,d2c,rfl,k1,g2⟩;have hb1:=g1.trans g2
 try dsimp only
 refine hKK.out _ _ (hb1) (fun hHeld => ?_)
 try simp only [Act.put,pA,pB,pC]
 refine wonc 4 13 180 #[.tmp 10,.tmp 12] #[41,41] 41 (by kernel_rfl) rfl rfl (fun KK hKK => ?_);go_simp;refine (rmul_c _ _ _ _ K _ (hpx.ext hb1) k1 SX.o.1 SY.o.2 (by have:=HK.o;omega)).mono ?_;rintro e w3 ⟨pa,pn,pc,rfl,kp,g3⟩;have hb2:=hb1.trans g3
 try dsimp only
 refine hKK.out _ _ (hb2) (fun hHeld => ?_)
 try simp only [Act.put,pA,pB,pC]
 refine wonc 8 17 178 #[.tmp 16] #[43] 41 (by kernel_rfl) rfl rfl (fun KK hKK => ?_);go_simp;refine (rbottom_c _ q _ (hvx.ext hb2)).mono ?_;rintro e w4 ⟨d4a,d4n,d4c,rfl,k3,g4⟩;have hb3:=hb2.trans g4
 try dsimp only
 refine hKK.out _ _ (hb3) (fun hHeld => ?_)
 try simp only [Act.put,pA,pB,pC]
 refine wonc 9 18 180 #[.tmp 15,.tmp 17] #[41,41] 41 (by kernel_rfl) rfl rfl (fun KK hKK => ?_);go_simp;refine (rmul_c _ _ _ _ K _ (hpy.ext hb3) k3 SY.o.1 SX.o.2 (by have:=HK.o;omega)).mono ?_;rintro e w5 ⟨ra,rn,rc,rfl,kr,g5⟩;have hb4:=hb3.trans g5
 try dsimp only
 refine hKK.out _ _ (hb4) (fun hHeld => ?_);apply wts 10 5 rfl rfl (by kernel_rfl) (fun _ _ _ h=>h) hHeld
 ·intro w' hSw;go_simp<;>with_reducible rfl
 apply wts 11 6 rfl rfl (by kernel_rfl) (fun _ _ _ h=>h) hHeld
 ·intro w' hSw;go_simp<;>with_reducible rfl
 refine wpAnyH_done (by kernel_rfl) ?_ _;clear k1 k3
 go_upto_region 2 with (fail)
 have g6:Ext w5 w5.drew:=Below.drew (Below.refl _ _);have hb5:=hb4.trans g6;refine wp_region_held_drew (S:=Ext W0) (by kernel_rfl) (hb5) (fun hHeld => ?_);generalize w5.drew=wD6 at *
 apply wts 0 19 rfl rfl (by kernel_rfl) (fun _ _ _ h=>h) hHeld
 ·intro w' hSw;go_simp<;>with_reducible rfl
 apply wts 2 21 rfl rfl (by kernel_rfl) (fun _ _ _ h=>h) hHeld
 ·intro w' hSw;go_simp<;>with_reducible rfl
 try simp only [Act.put,pA,pB,pC]
 refine wonc 1 20 178 #[.tmp 19] #[43] 41 (by kernel_rfl) rfl rfl (fun KK hKK => ?_);go_simp;refine (rbottom_c _ q _ (hvx.ext hb5)).mono ?_;rintro e w7 ⟨d7a,d7n,d7c,rfl,k1,g7⟩;have hb6:=hb5.trans g7
 try dsimp only
 refine hKK.out _ _ (hb6) (fun hHeld => ?_)
 try simp only [Act.put,pA,pB,pC]
 refine wonc 3 22 178 #[.tmp 21] #[43] 41 (by kernel_rfl) rfl rfl (fun KK hKK => ?_);go_simp;refine (rbottom_c _ r _ (hvy.ext hb6)).mono ?_;rintro e w8 ⟨d8a,d8n,d8c,rfl,k3,g8⟩;have hb7:=hb6.trans g8
 try dsimp only
 refine hKK.out _ _ (hb7) (fun hHeld => ?_)
 try simp only [Act.put,pA,pB,pC]
 refine wonc 4 23 180 #[.tmp 20,.tmp 22] #[41,41] 41 (by kernel_rfl) rfl rfl (fun KK hKK => ?_);go_simp;refine (rmul_c _ _ _ _ K _ (k1.ext g8) k3 SX.o.2 SY.o.2 (by have:=HK.o;omega)).mono ?_;rintro e w9 ⟨qa,qn,qc,rfl,kq,g9⟩;have hb8:=hb7.trans g9
 try dsimp only
 refine hKK.out _ _ (hb8) (fun hHeld => ?_);apply wts 5 7 rfl rfl (by kernel_rfl) (fun _ _ _ h=>h) hHeld
 ·intro w' hSw;go_simp<;>with_reducible rfl
 refine wpAnyH_done (by kernel_rfl) ?_ _;clear k1 k3;have HP:Hid (0<q.den*r.den):=hid (Nat.mul_pos (den_pos q) (den_pos r));have SP:Hid (Sm (K+K) (q.num.natAbs*r.den)):=hid (SX.o.1.mul SY.o.2);have SR:Hid (Sm (K+K) (r.num.natAbs*q.den)):=hid (SY.o.1.mul SX.o.2);have SQ:Hid (Sm (K+K) (q.den*r.den)):=hid (SX.o.2.mul SY.o.2)
 by_cases h1:s1=0
 ·subst h1;have HV:Hid (mkRat (s2*((q.num.natAbs*r.den+r.num.natAbs*q.den:Nat):Int)) (q.den*r.den)=q+r):=hid (radd_same (.inr HSX.o.symm) (.inl HSY.o.symm));go_wp2_with fail;refine (rsum_c _ _ _ _ (K+K) _ (kp.ext (g4.trans (g5.trans (g6.trans (g7.trans (g8.trans g9)))))) (kr.ext (g6.trans (g7.trans (g8.trans g9)))) SP.o SR.o (by have:=HK.o;omega)).mono ?_;rintro e w10 ⟨t10a,t10n,t10c,rfl,kt,g10⟩;have hb9:=hb8.trans g10;go_wp2_with fail;refine (rmade_c _ _ _ _ _ (K+K+1) _ H3Y.o kt (kq.ext g10) (SP.o.add SR.o) (SQ.o.mono (by omega)) (by have:=HK.o;omega) HP.o).mono ?_;rintro e w11 ⟨v,rfl,k9,g11⟩;have hb10:=hb9.trans g11;obtain ⟨s9,a9,n9,c9,a9',n9',c9',rfl⟩:=k9.shape;obtain ⟨U11,U12,U13⟩:=(HB_Z.o.ext hb10).f3;go_wp2_with fail;clear U11 U12 U13;obtain ⟨W12,hW12,g12,q12,B12,hy12,ho12⟩:=rsto3 (HE.o.trans hb10) (by omega) (HB_Z.o.ext hb10) (by decide) (.int .i64 s9) (.slice a9 n9 c9) (.slice a9' n9' c9');rw [←hW12];clear hW12;replace HB_Z:=hid B12;obtain ⟨J14,J15,J16⟩:=HB_Z.o.c3;refine bodyPost_ret (v:=.agg #[.int .i64 s9,.slice a9 n9 c9,.slice a9' n9' c9']) (by simp [results,Tryz.results89,go_sem,J14,J15,J16]) rfl ⟨_,rfl,by rw [←HV.o];exact (k9.keepR q12),g12⟩
 ·have hb1:(s1==0)=false:=beq_eq_false_iff_ne.2 h1
  by_cases h2:s2=0
  ·subst h2;have HV:Hid (mkRat (s1*((q.num.natAbs*r.den+r.num.natAbs*q.den:Nat):Int)) (q.den*r.den)=q+r):=hid (radd_same (.inl HSX.o.symm) (.inr HSY.o.symm));clear h1;go_wp2_with fail;refine (rsum_c _ _ _ _ (K+K) _ (kp.ext (g4.trans (g5.trans (g6.trans (g7.trans (g8.trans g9)))))) (kr.ext (g6.trans (g7.trans (g8.trans g9)))) SP.o SR.o (by have:=HK.o;omega)).mono ?_;rintro e w10 ⟨t10a,t10n,t10c,rfl,kt,g10⟩;have hb9:=hb8.trans g10;go_wp2_with fail;refine (rmade_c _ _ _ _ _ (K+K+1) _ H3X.o kt (kq.ext g10) (SP.o.add SR.o) (SQ.o.mono (by omega)) (by have:=HK.o;omega) HP.o).mono ?_;rintro e w11 ⟨v,rfl,k9,g11⟩;have hb10:=hb9.trans g11;obtain ⟨s9,a9,n9,c9,a9',n9',c9',rfl⟩:=k9.shape;obtain ⟨U11,U12,U13⟩:=(HB_Z.o.ext hb10).f3;go_wp2_with fail;clear U11 U12 U13;obtain ⟨W12,hW12,g12,q12,B12,hy12,ho12⟩:=rsto3 (HE.o.trans hb10) (by omega) (HB_Z.o.ext hb10) (by decide) (.int .i64 s9) (.slice a9 n9 c9) (.slice a9' n9' c9');rw [←hW12];clear hW12;replace HB_Z:=hid B12;obtain ⟨J14,J15,J16⟩:=HB_Z.o.c3;refine bodyPost_ret (v:=.agg #[.int .i64 s9,.slice a9 n9 c9,.slice a9' n9' c9']) (by simp [results,Tryz.results89,go_sem,J14,J15,J16]) rfl ⟨_,rfl,by rw [←HV.o];exact (k9.keepR q12),g12⟩
  ·have hb2:(s2==0)=false:=beq_eq_false_iff_ne.2 h2
   by_cases h3:s1=s2
   ·subst h3;have hb3:(s1==s1)=true:=by simp
    have HV:Hid (mkRat (s1*((q.num.natAbs*r.den+r.num.natAbs*q.den:Nat):Int)) (q.den*r.den)=q+r):=hid (radd_same (.inl HSX.o.symm) (.inl HSY.o.symm));clear h1 h2;go_wp2_with fail;refine (rsum_c _ _ _ _ (K+K) _ (kp.ext (g4.trans (g5.trans (g6.trans (g7.trans (g8.trans g9)))))) (kr.ext (g6.trans (g7.trans (g8.trans g9)))) SP.o SR.o (by have:=HK.o;omega)).mono ?_;rintro e w10 ⟨t10a,t10n,t10c,rfl,kt,g10⟩;have hb9:=hb8.trans g10;go_wp2_with fail;refine (rmade_c _ _ _ _ _ (K+K+1) _ H3X.o kt (kq.ext g10) (SP.o.add SR.o) (SQ.o.mono (by omega)) (by have:=HK.o;omega) HP.o).mono ?_;rintro e w11 ⟨v,rfl,k9,g11⟩;have hb10:=hb9.trans g11;obtain ⟨s9,a9,n9,c9,a9',n9',c9',rfl⟩:=k9.shape;obtain ⟨U11,U12,U13⟩:=(HB_Z.o.ext hb10).f3;go_wp2_with fail;clear U11 U12 U13;obtain ⟨W12,hW12,g12,q12,B12,hy12,ho12⟩:=rsto3 (HE.o.trans hb10) (by omega) (HB_Z.o.ext hb10) (by decide) (.int .i64 s9) (.slice a9 n9 c9) (.slice a9' n9' c9');rw [←hW12];clear hW12;replace HB_Z:=hid B12;obtain ⟨J14,J15,J16⟩:=HB_Z.o.c3;refine bodyPost_ret (v:=.agg #[.int .i64 s9,.slice a9 n9 c9,.slice a9' n9' c9']) (by simp [results,Tryz.results89,go_sem,J14,J15,J16]) rfl ⟨_,rfl,by rw [←HV.o];exact (k9.keepR q12),g12⟩
   ·have hb3:(s1==s2)=false:=beq_eq_false_iff_ne.2 h3;have HN:Hid (q.num.sign = - r.num.sign):=hid (sgn_ne (by rw [←HSX.o,←HSY.o];exact h3) (by rw [←HSX.o];exact h1) (by rw [←HSY.o];exact h2));clear h1 h2 h3;have CC:Hid (∀ w u v,RefV w u (q.num.natAbs*r.den)→RefV w v (r.num.natAbs*q.den)→Calls Tryz.prog 177 #[u,v] w fun e w'=>e=.returned (.int .i64 (cmpN (q.num.natAbs*r.den) (r.num.natAbs*q.den)))∧Ext w w'):=hid fun w u v h1 h2=>rcmp_c u v _ _ (K+K) w h1 h2 SP.o SR.o (by have:=HK.o;omega);obtain ⟨cc,hcc⟩:∃ c,c=cmpN (q.num.natAbs*r.den) (r.num.natAbs*q.den):=⟨_,rfl⟩;rw [←hcc] at CC
    rcases Nat.lt_or_ge (q.num.natAbs*r.den) (r.num.natAbs*q.den) with hl | hl
    ·have hd:decide (cc<0)=true:=decide_eq_true (by rw [hcc];exact cmpN_neg.2 hl);have HV:Hid (mkRat (s2*((r.num.natAbs*q.den-q.num.natAbs*r.den:Nat):Int)) (q.den*r.den)=q+r):=hid (by rw [HSY.o];exact radd_diff HN.o (Nat.le_of_lt hl));have HL:=hid (Nat.le_of_lt hl);clear hcc hl;go_wp2_with fail;refine (CC.o _ _ _ (kp.ext (g4.trans (g5.trans (g6.trans (g7.trans (g8.trans g9)))))) (kr.ext (g6.trans (g7.trans (g8.trans g9))))).mono ?_;rintro e w10 ⟨rfl,g10⟩;have hb9:=hb8.trans g10
     go_upto_region 9 with (fail)
     have kc:=(Box.bt (z:=w.heap.size+1+1) HB_Y.o (by omega) Box.n3);have g11:Ext w10 w10.drew:=Below.drew (Below.refl _ _);have hb10:=hb9.trans g11;refine wp_region_held_drew (S:=But W0 (w.heap.size+1+1)) (by kernel_rfl) (hb10.but) (fun hHeld => ?_);generalize w10.drew=wD11 at *
     apply wts 0 55 rfl rfl (by kernel_rfl) (fun _ _ _ h=>h) hHeld
     ·intro w' hSw;go_simp<;>with_reducible rfl
     apply wts 1 56 rfl rfl (by kernel_rfl) (fun _ _ _ h=>h) hHeld
     ·intro w' hSw;go_simp<;>with_reducible rfl
     apply wts 2 57 rfl rfl (by kernel_rfl) (fun _ _ _ h=>h) hHeld
     ·intro w' hSw;go_simp<;>with_reducible rfl
     apply wts 3 58 rfl rfl (by kernel_rfl) (fun _ _ _ h=>h) hHeld
     ·intro w' hSw;go_simp<;>with_reducible rfl
     apply wts 5 60 rfl rfl (by kernel_rfl) (fun _ _ _ h=>h) hHeld
     ·intro w' hSw;go_simp<;>with_reducible rfl
     try simp only [Act.put,pA,pB,pC]
     refine wonc 4 59 182 #[.tmp 57,.tmp 58] #[41,41] 41 (by kernel_rfl) rfl rfl (fun KK hKK => ?_);go_simp;refine (rdif_c _ _ _ _ (K+K) _ (kr.ext (g6.trans (g7.trans (g8.trans (g9.trans (g10.trans g11)))))) (kp.ext (g4.trans (g5.trans (g6.trans (g7.trans (g8.trans (g9.trans (g10.trans g11)))))))) SR.o (by have:=HK.o;omega) HL.o).mono ?_;rintro e w12 ⟨t12a,t12n,t12c,rfl,kt,g12⟩;have hb11:=hb10.trans g12
     try dsimp only
     refine hKK.out _ _ (hb11.but) (fun hHeld => ?_)
     try simp only [Act.put,pA,pB,pC]
     refine wonc 6 61 173 #[.tmp 56,.tmp 59,.tmp 60] #[3,41,41] 43 (by kernel_rfl) rfl rfl (fun KK hKK => ?_);go_simp;refine (rmade_c _ _ _ _ _ (K+K) _ H3Y.o kt (kq.ext (g10.trans (g11.trans g12))) (SR.o.of_le (Nat.sub_le _ _)) SQ.o (by have:=HK.o;omega) HP.o).mono ?_;rintro e w13 ⟨v,rfl,k9,g13⟩;have hb12:=hb11.trans g13;obtain ⟨s9,a9,n9,c9,a9',n9',c9',rfl⟩:=k9.shape
     try dsimp only
     refine hKK.out _ _ (hb12.but) (fun hHeld => ?_)
     try simp only [Act.put,pA,pB,pC]
     refine wons 7 43 4 61 (by kernel_rfl) rfl rfl (fun KK hKK => ?_);obtain ⟨U13,U14,U15⟩:=(HB_Z.o.ext hb12).f3;go_simp;clear U13 U14 U15;obtain ⟨W14,hW14,g14,q14,B14,hy14,ho14⟩:=rsto3 (HE.o.trans hb12) (by omega) (HB_Z.o.ext hb12) (by decide) (.int .i64 s9) (.slice a9 n9 c9) (.slice a9' n9' c9');rw [←hW14];clear hW14;replace HB_Z:=hid B14;have hq14:But W0 (w.heap.size+1+1) W14:=But.sto (hb12.but) ho14
     try dsimp only
     refine hKK.out _ _ (hq14) (fun hHeld => ?_);refine wpAnyH_done (by kernel_rfl) ?_ _;have ac:=cland (ho14 _ _ _ (by omega) (HB_X.o.ext (g1.trans (g2.trans (g3.trans (g4.trans (g5.trans (g6.trans (g7.trans (g8.trans (g9.trans (g10.trans (g11.trans (g12.trans g13)))))))))))))).a3 (cland (ho14 _ _ _ (by omega) (HB_Y.o.ext (g1.trans (g2.trans (g3.trans (g4.trans (g5.trans (g6.trans (g7.trans (g8.trans (g9.trans (g10.trans (g11.trans (g12.trans g13)))))))))))))).a3 (HB_Z.o.a3));have hr16:Ext W14 W14:=Below.refl _ _;go_wp2_with fail;obtain ⟨J17,J18,J19⟩:=HB_Z.o.c3;refine bodyPost_ret (v:=.agg #[.int .i64 s9,.slice a9 n9 c9,.slice a9' n9' c9']) (by simp [results,Tryz.results89,go_sem,J17,J18,J19]) rfl ⟨_,rfl,by rw [←HV.o];exact (k9.keepR q14),g14⟩
    ·have hd:decide (cc<0)=false:=decide_eq_false (by rw [hcc];exact fun e=>absurd (cmpN_neg.1 e) (by omega));have HV:Hid (mkRat (s1*((q.num.natAbs*r.den-r.num.natAbs*q.den:Nat):Int)) (q.den*r.den)=q+r):=hid (by rw [HSX.o];exact radd_diff' HN.o hl);have HL:=hid hl;clear hcc hl;go_wp2_with fail;refine (CC.o _ _ _ (kp.ext (g4.trans (g5.trans (g6.trans (g7.trans (g8.trans g9)))))) (kr.ext (g6.trans (g7.trans (g8.trans g9))))).mono ?_;rintro e w10 ⟨rfl,g10⟩;have hb9:=hb8.trans g10
     go_upto_region 10 with (fail)
     have kc:=(Box.bt (z:=w.heap.size+1+1) HB_X.o (by omega) Box.n3);have g11:Ext w10 w10.drew:=Below.drew (Below.refl _ _);have hb10:=hb9.trans g11;refine wp_region_held_drew (S:=But W0 (w.heap.size+1+1)) (by kernel_rfl) (hb10.but) (fun hHeld => ?_);generalize w10.drew=wD11 at *
     apply wts 0 62 rfl rfl (by kernel_rfl) (fun _ _ _ h=>h) hHeld
     ·intro w' hSw;go_simp<;>with_reducible rfl
     apply wts 1 63 rfl rfl (by kernel_rfl) (fun _ _ _ h=>h) hHeld
     ·intro w' hSw;go_simp<;>with_reducible rfl
     apply wts 2 64 rfl rfl (by kernel_rfl) (fun _ _ _ h=>h) hHeld
     ·intro w' hSw;go_simp<;>with_reducible rfl
     apply wts 3 65 rfl rfl (by kernel_rfl) (fun _ _ _ h=>h) hHeld
     ·intro w' hSw;go_simp<;>with_reducible rfl
     apply wts 5 67 rfl rfl (by kernel_rfl) (fun _ _ _ h=>h) hHeld
     ·intro w' hSw;go_simp<;>with_reducible rfl
     try simp only [Act.put,pA,pB,pC]
     refine wonc 4 66 182 #[.tmp 64,.tmp 65] #[41,41] 41 (by kernel_rfl) rfl rfl (fun KK hKK => ?_);go_simp;refine (rdif_c _ _ _ _ (K+K) _ (kp.ext (g4.trans (g5.trans (g6.trans (g7.trans (g8.trans (g9.trans (g10.trans g11)))))))) (kr.ext (g6.trans (g7.trans (g8.trans (g9.trans (g10.trans g11)))))) SP.o (by have:=HK.o;omega) HL.o).mono ?_;rintro e w12 ⟨t12a,t12n,t12c,rfl,kt,g12⟩;have hb11:=hb10.trans g12
     try dsimp only
     refine hKK.out _ _ (hb11.but) (fun hHeld => ?_)
     try simp only [Act.put,pA,pB,pC]
     refine wonc 6 68 173 #[.tmp 63,.tmp 66,.tmp 67] #[3,41,41] 43 (by kernel_rfl) rfl rfl (fun KK hKK => ?_);go_simp;refine (rmade_c _ _ _ _ _ (K+K) _ H3X.o kt (kq.ext (g10.trans (g11.trans g12))) (SP.o.of_le (Nat.sub_le _ _)) SQ.o (by have:=HK.o;omega) HP.o).mono ?_;rintro e w13 ⟨v,rfl,k9,g13⟩;have hb12:=hb11.trans g13;obtain ⟨s9,a9,n9,c9,a9',n9',c9',rfl⟩:=k9.shape
     try dsimp only
     refine hKK.out _ _ (hb12.but) (fun hHeld => ?_)
     try simp only [Act.put,pA,pB,pC]
     refine wons 7 43 4 68 (by kernel_rfl) rfl rfl (fun KK hKK => ?_);obtain ⟨U13,U14,U15⟩:=(HB_Z.o.ext hb12).f3;go_simp;clear U13 U14 U15;obtain ⟨W14,hW14,g14,q14,B14,hy14,ho14⟩:=rsto3 (HE.o.trans hb12) (by omega) (HB_Z.o.ext hb12) (by decide) (.int .i64 s9) (.slice a9 n9 c9) (.slice a9' n9' c9');rw [←hW14];clear hW14;replace HB_Z:=hid B14;have hq14:But W0 (w.heap.size+1+1) W14:=But.sto (hb12.but) ho14
     try dsimp only
     refine hKK.out _ _ (hq14) (fun hHeld => ?_);refine wpAnyH_done (by kernel_rfl) ?_ _;have ac:=cland (ho14 _ _ _ (by omega) (HB_X.o.ext (g1.trans (g2.trans (g3.trans (g4.trans (g5.trans (g6.trans (g7.trans (g8.trans (g9.trans (g10.trans (g11.trans (g12.trans g13)))))))))))))).a3 (cland (ho14 _ _ _ (by omega) (HB_Y.o.ext (g1.trans (g2.trans (g3.trans (g4.trans (g5.trans (g6.trans (g7.trans (g8.trans (g9.trans (g10.trans (g11.trans (g12.trans g13)))))))))))))).a3 (HB_Z.o.a3));have hr16:Ext W14 W14:=Below.refl _ _;go_wp2_with fail;obtain ⟨J17,J18,J19⟩:=HB_Z.o.c3;refine bodyPost_ret (v:=.agg #[.int .i64 s9,.slice a9 n9 c9,.slice a9' n9' c9']) (by simp [results,Tryz.results89,go_sem,J17,J18,J19]) rfl ⟨_,rfl,by rw [←HV.o];exact (k9.keepR q14),g14⟩
theorem rsubq_c (x y:Value) (q r:Rat) (K:Nat) (w:World) (hx:RNumV w x q) (hy:RNumV w y r) (sx:SmQ K q) (sy:SmQ K r) (hK:K≤10000000) :
  Calls Tryz.prog 129 #[x,y] w fun e w'=>∃ v,e=.returned v∧RNumV w' v (q-r)∧Ext w w':=by
 obtain ⟨s1,a1,n1,c1,a1',n1',c1',rfl⟩:=hx.shape;obtain ⟨s2,a2,n2,c2,a2',n2',c2',rfl⟩:=hy.shape;have hvx:=hx;have hvy:=hy;have SX:=hid sx;have SY:=hid sy;have HK:=hid hK;clear hx hy sx sy hK;obtain ⟨W0,hW0,g0,hz0,B_X,B_Y,B_Z⟩:=pro3s w #[.int .i64 s1,.slice a1 n1 c1,.slice a1' n1' c1'] #[.int .i64 s2,.slice a2 n2 c2,.slice a2' n2' c2'] #[.int .i64 0,.slice none 0 0,.slice none 0 0] 43 43 43;have HE:=hid g0;have HB_X:=hid B_X;have HB_Y:=hid B_Y;have HB_Z:=hid B_Z;have ac:=cland HB_X.o.a3 (cland HB_Y.o.a3 (HB_Z.o.a3));have hr0:Ext W0 W0:=Below.refl _ _;clear g0 B_X B_Y B_Z 
 go_enter Tryz.func129,Tryz.ntmps129
 go_upto_region 1 with (fail)
 rw [←hW0];clear hW0;replace hvx:=hvx.ext HE.o;replace hvy:=hvy.ext HE.o;have kc:=cland (Box.bt (z:=w.heap.size+1+1) HB_X.o (by omega) Box.n3) ((Box.bt (z:=w.heap.size+1+1) HB_Y.o (by omega) Box.n3));have g1:Ext W0 W0.drew:=Below.drew (Below.refl _ _);refine wp_region_held_drew (S:=But W0 (w.heap.size+1+1)) (by kernel_rfl) (g1.but) (fun hHeld => ?_);generalize W0.drew=wD1 at *
 apply wts 0 5 rfl rfl (by kernel_rfl) (fun _ _ _ h=>h) hHeld
 ·intro w' hSw;go_simp<;>with_reducible rfl
 apply wts 1 6 rfl rfl (by kernel_rfl) (fun _ _ _ h=>h) hHeld
 ·intro w' hSw;go_simp<;>with_reducible rfl
 try simp only [Act.put,pA,pB,pC]
 refine wonc 2 7 197 #[.tmp 6] #[43] 43 (by kernel_rfl) rfl rfl (fun KK hKK => ?_);go_simp;refine (rneg_c _ r _ (hvy.ext g1)).mono ?_;rintro e w2 ⟨v2,rfl,k1,g2⟩;have hb1:=g1.trans g2
 try dsimp only
 refine hKK.out _ _ (hb1.but) (fun hHeld => ?_)
 try simp only [Act.put,pA,pB,pC]
 refine wonc 3 8 89 #[.tmp 5,.tmp 7] #[43,43] 43 (by kernel_rfl) rfl rfl (fun KK hKK => ?_);go_simp;refine (raddq_c _ _ q (-r) K _ (hvx.ext hb1) k1 SX.o SY.o.neg HK.o).mono ?_;rintro e w3 ⟨v,rfl,k9,g3⟩;have hb2:=hb1.trans g3;obtain ⟨s9,a9,n9,c9,a9',n9',c9',rfl⟩:=k9.shape
 try dsimp only
 refine hKK.out _ _ (hb2.but) (fun hHeld => ?_)
 try simp only [Act.put,pA,pB,pC]
 refine wons 4 43 4 8 (by kernel_rfl) rfl rfl (fun KK hKK => ?_);obtain ⟨U3,U4,U5⟩:=(HB_Z.o.ext hb2).f3;go_simp;clear U3 U4 U5;obtain ⟨W4,hW4,g4,q4,B4,hy4,ho4⟩:=rsto3 (HE.o.trans hb2) (by omega) (HB_Z.o.ext hb2) (by decide) (.int .i64 s9) (.slice a9 n9 c9) (.slice a9' n9' c9');rw [←hW4];clear hW4;replace HB_Z:=hid B4;have hq4:But W0 (w.heap.size+1+1) W4:=But.sto (hb2.but) ho4
 try dsimp only
 refine hKK.out _ _ (hq4) (fun hHeld => ?_);refine wpAnyH_done (by kernel_rfl) ?_ _;have ac:=cland (ho4 _ _ _ (by omega) (HB_X.o.ext (g1.trans (g2.trans g3)))).a3 (cland (ho4 _ _ _ (by omega) (HB_Y.o.ext (g1.trans (g2.trans g3)))).a3 (HB_Z.o.a3));have hr6:Ext W4 W4:=Below.refl _ _;go_wp2_with fail;obtain ⟨J7,J8,J9⟩:=HB_Z.o.c3;refine bodyPost_ret (v:=.agg #[.int .i64 s9,.slice a9 n9 c9,.slice a9' n9' c9']) (by simp [results,Tryz.results129,go_sem,J7,J8,J9]) rfl ⟨_,rfl,by rw [Rat.sub_eq_add_neg];exact (k9.keepR q4),g4⟩
theorem rshiftq_c (x:Value) (q:Rat) (K:Nat) (k:Int) (w:World) (hx:RNumV w x q) (sx:SmQ K q) (h0 : -1000000≤k) (h1:k≤1000000) (hK:K≤10000000) :
  Calls Tryz.prog 141 #[x,.int .i64 k] w fun e w'=>∃ v,e=.returned v∧RNumV w' v (q*(2:Rat)^k)∧Ext w w':=by
 obtain ⟨s1,a1,n1,c1,a1',n1',c1',rfl⟩:=hx.shape;have hvx:=hx;have SX:=hid sx;have HK:=hid hK;have HSX:Hid (s1=q.num.sign):=hid hx.sign;have H3X:Hid (s1=1∨s1 = -1∨s1=0):=hid (by rw [hx.sign];exact sgn3 q);clear hx sx hK;obtain ⟨W0,hW0,g0,hz0,B_X,B_Z⟩:=pro2s w #[.int .i64 s1,.slice a1 n1 c1,.slice a1' n1' c1'] #[.int .i64 0,.slice none 0 0,.slice none 0 0] 43 43;have HE:=hid g0;have HB_X:=hid B_X;have HB_Z:=hid B_Z;have ac:=cland HB_X.o.a3 (HB_Z.o.a3);have hr0:Ext W0 W0:=Below.refl _ _;clear g0 B_X B_Z 
 go_enter Tryz.func141,Tryz.ntmps141
 go_upto_region 1 with (fail)
 rw [←hW0];clear hW0;replace hvx:=hvx.ext HE.o;have hpx:=hvx.top
 rcases Int.lt_or_le k 0 with hk | hk
 ·have hd:decide (k<0)=true:=decide_eq_true hk;obtain ⟨n,hn⟩:∃ n:Nat,k = -(n:Int):=⟨k.natAbs,by omega⟩;have hn1:n≤1000000:=by omega
  have hkn : -k=(n:Int):=by omega
  have HV:Hid (mkRat (s1*(q.num.natAbs:Int)) (q.den*2^n)=q*(2:Rat)^k):=hid (by rw [HSX.o,rshift_down,hn]);have HKN:=hid hkn;have hwk:IntKind.i64.wrap (-k) = -k:=IntWalk.i64_in _ (by omega);clear hk hn;have HPW:Hid (∀ w,Calls Tryz.prog 213 #[.int .i64 (-k)] w fun e w'=>∃ a k' c,e=.returned (.slice a k' c)∧Hid (RefV w' (.slice a k' c) (2^n))∧Ext w w'):=hid fun w=>by
   rw [hkn];exact rpower_c n w (by omega)
  clear hkn
  go_upto_region 2 with (fail)
  have kc:=(Box.bt (z:=w.heap.size+1) HB_X.o (by omega) Box.n3);have g1:Ext W0 W0.drew:=Below.drew (Below.refl _ _);refine wp_region_held_drew (S:=But W0 (w.heap.size+1)) (by kernel_rfl) (g1.but) (fun hHeld => ?_);generalize W0.drew=wD1 at *
  apply wts 0 7 rfl rfl (by kernel_rfl) (fun _ _ _ h=>h) hHeld
  ·intro w' hSw;go_simp<;>with_reducible rfl
  apply wts 1 8 rfl rfl (by kernel_rfl) (fun _ _ _ h=>h) hHeld
  ·intro w' hSw;go_simp<;>with_reducible rfl
  apply wts 2 9 rfl rfl (by kernel_rfl) (fun _ _ _ h=>h) hHeld
  ·intro w' hSw;go_simp<;>with_reducible rfl
  apply wts 3 10 rfl rfl (by kernel_rfl) (fun _ _ _ h=>h) hHeld
  ·intro w' hSw;go_simp<;>with_reducible rfl
  apply wts 4 11 rfl rfl (by kernel_rfl) (fun _ _ _ h=>h) hHeld
  ·intro w' hSw;go_simp<;>with_reducible rfl
  apply wts 6 13 rfl rfl (by kernel_rfl) (fun _ _ _ h=>h) hHeld
  ·intro w' hSw;go_simp<;>with_reducible rfl
  apply wts 7 14 rfl rfl (by kernel_rfl) (fun _ _ _ h=>h) hHeld
  ·intro w' hSw;go_simp<;>with_reducible rfl
  try simp only [Act.put,pA,pB,pC]
  refine wonc 5 12 178 #[.tmp 11] #[43] 41 (by kernel_rfl) rfl rfl (fun KK hKK => ?_);go_simp;refine (rbottom_c _ q _ (hvx.ext g1)).mono ?_;rintro e w2 ⟨d2a,d2n,d2c,rfl,k1,g2⟩;have hb1:=g1.trans g2
  try dsimp only
  refine hKK.out _ _ (hb1.but) (fun hHeld => ?_)
  try simp only [Act.put,pA,pB,pC]
  refine wonc 8 15 213 #[.tmp 14] #[3] 41 (by kernel_rfl) rfl rfl (fun KK hKK => ?_);go_simp;refine (HPW.o _).mono ?_;rintro e w3 ⟨d3a,d3n,d3c,rfl,k3h,g3⟩;have hb2:=hb1.trans g3;have k3:=k3h.o;clear k3h
  try dsimp only
  refine hKK.out _ _ (hb2.but) (fun hHeld => ?_)
  try simp only [Act.put,pA,pB,pC]
  refine wonc 9 16 180 #[.tmp 12,.tmp 15] #[41,41] 41 (by kernel_rfl) rfl rfl (fun KK hKK => ?_);go_simp;refine (rmul_c _ _ _ _ (K+n+1) _ (k1.ext g3) k3 (SX.o.2.mono (by omega)) (Nat.pow_lt_pow_right (by decide) (by omega)) (by have:=HK.o;omega)).mono ?_;rintro e w4 ⟨p4a,p4n,p4c,rfl,kp,g4⟩;have hb3:=hb2.trans g4
  try dsimp only
  refine hKK.out _ _ (hb3.but) (fun hHeld => ?_)
  try simp only [Act.put,pA,pB,pC]
  refine wonc 10 17 173 #[.tmp 8,.tmp 10,.tmp 16] #[3,41,41] 43 (by kernel_rfl) rfl rfl (fun KK hKK => ?_);go_simp;refine (rmade_c _ _ _ _ _ (K+n+n) _ H3X.o (hpx.ext hb3) kp (SX.o.1.mono (by omega)) (SX.o.2.pow.mono (by omega)) (by have:=HK.o;omega) (Nat.mul_pos (den_pos q) (Nat.pow_pos (by decide)))).mono ?_;rintro e w5 ⟨v,rfl,k9,g5⟩;have hb4:=hb3.trans g5;obtain ⟨s9,a9,n9,c9,a9',n9',c9',rfl⟩:=k9.shape
  try dsimp only
  refine hKK.out _ _ (hb4.but) (fun hHeld => ?_)
  try simp only [Act.put,pA,pB,pC]
  refine wons 11 43 4 17 (by kernel_rfl) rfl rfl (fun KK hKK => ?_);obtain ⟨U5,U6,U7⟩:=(HB_Z.o.ext hb4).f3;go_simp;clear U5 U6 U7;obtain ⟨W6,hW6,g6,q6,B6,hy6,ho6⟩:=rsto3 (HE.o.trans hb4) (by omega) (HB_Z.o.ext hb4) (by decide) (.int .i64 s9) (.slice a9 n9 c9) (.slice a9' n9' c9');rw [←hW6];clear hW6;replace HB_Z:=hid B6;have hq6:But W0 (w.heap.size+1) W6:=But.sto (hb4.but) ho6
  try dsimp only
  refine hKK.out _ _ (hq6) (fun hHeld => ?_);refine wpAnyH_done (by kernel_rfl) ?_ _;have ac:=cland (ho6 _ _ _ (by omega) (HB_X.o.ext (g1.trans (g2.trans (g3.trans (g4.trans g5)))))).a3 (HB_Z.o.a3);have hr8:Ext W6 W6:=Below.refl _ _;go_wp2_with fail;obtain ⟨J9,J10,J11⟩:=HB_Z.o.c3;refine bodyPost_ret (v:=.agg #[.int .i64 s9,.slice a9 n9 c9,.slice a9' n9' c9']) (by simp [results,Tryz.results141,go_sem,J9,J10,J11]) rfl ⟨_,rfl,by rw [←HV.o];exact (k9.keepR q6),g6⟩
 ·have hd:decide (k<0)=false:=decide_eq_false (by omega);obtain ⟨n,rfl⟩:∃ n:Nat,k=(n:Int):=⟨k.natAbs,by omega⟩;have hn1:n≤1000000:=by omega
  have HV:Hid (mkRat (s1*((q.num.natAbs*2^n:Nat):Int)) q.den=q*(2:Rat)^(n:Int)):=hid (by rw [HSX.o,rshift_up]);clear hk h0 h1
  go_upto_region 3 with (fail)
  have kc:=(Box.bt (z:=w.heap.size+1) HB_X.o (by omega) Box.n3);have g1:Ext W0 W0.drew:=Below.drew (Below.refl _ _);refine wp_region_held_drew (S:=But W0 (w.heap.size+1)) (by kernel_rfl) (g1.but) (fun hHeld => ?_);generalize W0.drew=wD1 at *
  apply wts 0 18 rfl rfl (by kernel_rfl) (fun _ _ _ h=>h) hHeld
  ·intro w' hSw;go_simp<;>with_reducible rfl
  apply wts 1 19 rfl rfl (by kernel_rfl) (fun _ _ _ h=>h) hHeld
  ·intro w' hSw;go_simp<;>with_reducible rfl
  apply wts 2 20 rfl rfl (by kernel_rfl) (fun _ _ _ h=>h) hHeld
  ·intro w' hSw;go_simp<;>with_reducible rfl
  apply wts 3 21 rfl rfl (by kernel_rfl) (fun _ _ _ h=>h) hHeld
  ·intro w' hSw;go_simp<;>with_reducible rfl
  apply wts 4 22 rfl rfl (by kernel_rfl) (fun _ _ _ h=>h) hHeld
  ·intro w' hSw;go_simp<;>with_reducible rfl
  apply wts 7 25 rfl rfl (by kernel_rfl) (fun _ _ _ h=>h) hHeld
  ·intro w' hSw;go_simp<;>with_reducible rfl
  try simp only [Act.put,pA,pB,pC]
  refine wonc 5 23 213 #[.tmp 22] #[3] 41 (by kernel_rfl) rfl rfl (fun KK hKK => ?_);go_simp;refine (rpower_c n _ (by omega)).mono ?_;rintro e w2 ⟨d2a,d2n,d2c,rfl,k3h,g2⟩;have hb1:=g1.trans g2;have k3:=k3h.o;clear k3h
  try dsimp only
  refine hKK.out _ _ (hb1.but) (fun hHeld => ?_)
  try simp only [Act.put,pA,pB,pC]
  refine wonc 6 24 180 #[.tmp 21,.tmp 23] #[41,41] 41 (by kernel_rfl) rfl rfl (fun KK hKK => ?_);go_simp;refine (rmul_c _ _ _ _ (K+n+1) _ (hpx.ext hb1) k3 (SX.o.1.mono (by omega)) (Nat.pow_lt_pow_right (by decide) (by omega)) (by have:=HK.o;omega)).mono ?_;rintro e w3 ⟨p3a,p3n,p3c,rfl,kp,g3⟩;have hb2:=hb1.trans g3
  try dsimp only
  refine hKK.out _ _ (hb2.but) (fun hHeld => ?_)
  try simp only [Act.put,pA,pB,pC]
  refine wonc 8 26 178 #[.tmp 25] #[43] 41 (by kernel_rfl) rfl rfl (fun KK hKK => ?_);go_simp;refine (rbottom_c _ q _ (hvx.ext hb2)).mono ?_;rintro e w4 ⟨d4a,d4n,d4c,rfl,k1,g4⟩;have hb3:=hb2.trans g4
  try dsimp only
  refine hKK.out _ _ (hb3.but) (fun hHeld => ?_)
  try simp only [Act.put,pA,pB,pC]
  refine wonc 9 27 173 #[.tmp 19,.tmp 24,.tmp 26] #[3,41,41] 43 (by kernel_rfl) rfl rfl (fun KK hKK => ?_);go_simp;refine (rmade_c _ _ _ _ _ (K+n+n) _ H3X.o (kp.ext g4) k1 (SX.o.1.pow.mono (by omega)) (SX.o.2.mono (by omega)) (by have:=HK.o;omega) (den_pos q)).mono ?_;rintro e w5 ⟨v,rfl,k9,g5⟩;have hb4:=hb3.trans g5;obtain ⟨s9,a9,n9,c9,a9',n9',c9',rfl⟩:=k9.shape
  try dsimp only
  refine hKK.out _ _ (hb4.but) (fun hHeld => ?_)
  try simp only [Act.put,pA,pB,pC]
  refine wons 10 43 4 27 (by kernel_rfl) rfl rfl (fun KK hKK => ?_);obtain ⟨U5,U6,U7⟩:=(HB_Z.o.ext hb4).f3;go_simp;clear U5 U6 U7;obtain ⟨W6,hW6,g6,q6,B6,hy6,ho6⟩:=rsto3 (HE.o.trans hb4) (by omega) (HB_Z.o.ext hb4) (by decide) (.int .i64 s9) (.slice a9 n9 c9) (.slice a9' n9' c9');rw [←hW6];clear hW6;replace HB_Z:=hid B6;have hq6:But W0 (w.heap.size+1) W6:=But.sto (hb4.but) ho6
  try dsimp only
  refine hKK.out _ _ (hq6) (fun hHeld => ?_);refine wpAnyH_done (by kernel_rfl) ?_ _;have ac:=cland (ho6 _ _ _ (by omega) (HB_X.o.ext (g1.trans (g2.trans (g3.trans (g4.trans g5)))))).a3 (HB_Z.o.a3);have hr8:Ext W6 W6:=Below.refl _ _;go_wp2_with fail;obtain ⟨J9,J10,J11⟩:=HB_Z.o.c3;refine bodyPost_ret (v:=.agg #[.int .i64 s9,.slice a9 n9 c9,.slice a9' n9' c9']) (by simp [results,Tryz.results141,go_sem,J9,J10,J11]) rfl ⟨_,rfl,by rw [←HV.o];exact (k9.keepR q6),g6⟩
theorem rint_value (n:Int):mkRat ((if n<0 then -1 else 1)*(n.natAbs:Int)) 1=(n:Rat):=by
 have e:(if n<0 then -1 else 1)*(n.natAbs:Int)=n:=by split<;>omega
 rw [e]
 have:=Rat.mkRat_self (n:Rat)
 rw [Rat.num_intCast,Rat.den_intCast] at this
 exact this
theorem rint_c (n:Int) (w:World) (h0 : -9223372036854775808≤n) (h1:n<9223372036854775808) :
  Calls Tryz.prog 132 #[.int .i64 n] w fun e w'=>∃ v,e=.returned v∧RNumV w' v (n:Rat)∧Ext w w':=by
 have H0:=hid h0;have H1:=hid h1;have HV:=hid (rint_value n);clear h0 h1;obtain ⟨W0,hW0,g0,hz0,B_Z⟩:=pro1 w #[.int .i64 0,.slice none 0 0,.slice none 0 0] 43;have HE:=hid g0;have HB_Z:=hid B_Z;have ac:=HB_Z.o.a3;have hr0:Ext W0 W0:=Below.refl _ _;clear g0 B_Z 
 go_enter Tryz.func132,Tryz.ntmps132
 go_upto_region 1 with (fail)
 rw [←hW0];clear hW0
 by_cases hn:n<0
 ·have hd:decide (n<0)=true:=decide_eq_true hn;rw [if_pos hn] at HV;have HN:=hid hn;clear hn;go_wp2_with fail;refine (rnatural_i _ n.natAbs _ (by have:=H0.o;have:=H1.o;have:=HN.o;simp only [w64,w64r (n+1) (by omega),w64r (-(n+1)) (by omega)];omega) (by have:=H0.o;have:=H1.o;omega)).mono ?_;rintro e w1 ⟨t1a,t1n,t1c,rfl,k1,g1⟩;go_wp2_with fail;refine (rone_c _).mono ?_;rintro e w2 ⟨o2a,o2n,o2c,rfl,k2,g2⟩;have hb1:=g1.trans g2;go_wp2_with fail;refine (rmade_c _ _ _ n.natAbs 1 64 _ (by decide) (k1.ext g2) k2 (show n.natAbs<2^64 by have:=H0.o;have:=H1.o;omega) (show 1<2^64 by decide) (by decide) (by decide)).mono ?_;rintro e w3 ⟨v,rfl,k9,g3⟩;have hb2:=hb1.trans g3;obtain ⟨s9,a9,n9,c9,a9',n9',c9',rfl⟩:=k9.shape;obtain ⟨U3,U4,U5⟩:=(HB_Z.o.ext hb2).f3;go_wp2_with fail;clear U3 U4 U5;obtain ⟨W4,hW4,g4,q4,B4,hy4,ho4⟩:=rsto3 (HE.o.trans hb2) (by omega) (HB_Z.o.ext hb2) (by decide) (.int .i64 s9) (.slice a9 n9 c9) (.slice a9' n9' c9');rw [←hW4];clear hW4;replace HB_Z:=hid B4;obtain ⟨J6,J7,J8⟩:=HB_Z.o.c3;refine bodyPost_ret (v:=.agg #[.int .i64 s9,.slice a9 n9 c9,.slice a9' n9' c9']) (by simp [results,Tryz.results132,go_sem,J6,J7,J8]) rfl ⟨_,rfl,by rw [←HV.o];exact (k9.keepR q4),g4⟩
 ·have hd:decide (n<0)=false:=decide_eq_false hn;rw [if_neg hn] at HV;have HN:=hid hn;clear hn;go_wp2_with fail;refine (rnatural_i _ n.natAbs _ (by have:=H0.o;have:=H1.o;have:=HN.o;simp only [w64];omega) (by have:=H0.o;have:=H1.o;omega)).mono ?_;rintro e w1 ⟨t1a,t1n,t1c,rfl,k1,g1⟩;go_wp2_with fail;refine (rone_c _).mono ?_;rintro e w2 ⟨o2a,o2n,o2c,rfl,k2,g2⟩;have hb1:=g1.trans g2;go_wp2_with fail;refine (rmade_c _ _ _ n.natAbs 1 64 _ (by decide) (k1.ext g2) k2 (show n.natAbs<2^64 by have:=H0.o;have:=H1.o;omega) (show 1<2^64 by decide) (by decide) (by decide)).mono ?_;rintro e w3 ⟨v,rfl,k9,g3⟩;have hb2:=hb1.trans g3;obtain ⟨s9,a9,n9,c9,a9',n9',c9',rfl⟩:=k9.shape;obtain ⟨U3,U4,U5⟩:=(HB_Z.o.ext hb2).f3;go_wp2_with fail;clear U3 U4 U5;obtain ⟨W4,hW4,g4,q4,B4,hy4,ho4⟩:=rsto3 (HE.o.trans hb2) (by omega) (HB_Z.o.ext hb2) (by decide) (.int .i64 s9) (.slice a9 n9 c9) (.slice a9' n9' c9');rw [←hW4];clear hW4;replace HB_Z:=hid B4;obtain ⟨J6,J7,J8⟩:=HB_Z.o.c3;refine bodyPost_ret (v:=.agg #[.int .i64 s9,.slice a9 n9 c9,.slice a9' n9' c9']) (by simp [results,Tryz.results132,go_sem,J6,J7,J8]) rfl ⟨_,rfl,by rw [←HV.o];exact (k9.keepR q4),g4⟩
theorem rtwo_c (k:Int) (w:World) (h0 : -1000000≤k) (h1:k≤1000000) :
  Calls Tryz.prog 88 #[.int .i64 k] w fun e w'=>∃ v,e=.returned v∧RNumV w' v ((2:Rat)^k)∧Ext w w':=by
 obtain ⟨W0,hW0,g0,hz0,B_Z⟩:=pro1 w #[.int .i64 0,.slice none 0 0,.slice none 0 0] 43;have HE:=hid g0;have HB_Z:=hid B_Z;have ac:=HB_Z.o.a3;have hr0:Ext W0 W0:=Below.refl _ _;clear g0 B_Z 
 go_enter Tryz.func88,Tryz.ntmps88
 go_upto_region 1 with (fail)
 rw [←hW0];clear hW0;go_wp2_with fail;refine (rint_c 1 _ (by decide) (by decide)).mono ?_;rintro e w1 ⟨v1,rfl,k1,g1⟩;go_wp2_with fail;refine (rshiftq_c _ _ 2 k _ k1 (SmQ.int (by decide) (by decide)) h0 h1 (by decide)).mono ?_;rintro e w2 ⟨v,rfl,k9,g2⟩;have hb1:=g1.trans g2;obtain ⟨s9,a9,n9,c9,a9',n9',c9',rfl⟩:=k9.shape;obtain ⟨U2,U3,U4⟩:=(HB_Z.o.ext hb1).f3;go_wp2_with fail;clear U2 U3 U4;obtain ⟨W3,hW3,g3,q3,B3,hy3,ho3⟩:=rsto3 (HE.o.trans hb1) (by omega) (HB_Z.o.ext hb1) (by decide) (.int .i64 s9) (.slice a9 n9 c9) (.slice a9' n9' c9');rw [←hW3];clear hW3;replace HB_Z:=hid B3;obtain ⟨J5,J6,J7⟩:=HB_Z.o.c3;refine bodyPost_ret (v:=.agg #[.int .i64 s9,.slice a9 n9 c9,.slice a9' n9' c9']) (by simp [results,Tryz.results88,go_sem,J5,J6,J7]) rfl ⟨_,rfl,(k9.keepR q3).same (by rw [show ((1:Int):Rat)=1 from rfl,Rat.one_mul]),g3⟩
theorem rfloor_pos (q:Rat) (h:0≤q.num):mkRat (q.num.sign*((q.num.natAbs/q.den:Nat):Int)) 1=((q.floor:Int):Rat):=by
 rw [←floor_pos q (by omega)]
 rcases sgn3 q with k | k | k
 ·rw [mkRat_sgn (by rw [k];decide),k,sg_dec1 k];rfl
 ·rw [mkRat_sgn (by rw [k];decide),k,sg_dec2 k];rfl
 ·have h0:=Int.sign_eq_zero_iff_zero.1 k;rw [k,Int.zero_mul,Rat.zero_mkRat,h0];simp only [Int.natAbs_zero,Nat.zero_div,mkq_zero]
theorem rfloor_neg (q:Rat) (h:q.num<0) (k:Nat) (hk:k=q.num.natAbs/q.den+if q.num.natAbs%q.den=0 then 0 else 1):mkRat (q.num.sign*(k:Int)) 1=((q.floor:Int):Rat):=by
 rw [←floor_neg q h k hk];have hs:q.num.sign = -1:=Int.sign_eq_neg_one_of_neg h;rw [mkRat_sgn (by rw [hs];decide),hs,sg_dec2 hs];rfl
theorem rfloor_c (x:Value) (q:Rat) (K:Nat) (w:World) (hx:RNumV w x q) (sx:SmQ K q) (hK:K≤10000000) :
  Calls Tryz.prog 203 #[x] w fun e w'=>∃ v,e=.returned v∧RNumV w' v ((q.floor:Int):Rat)∧Ext w w':=by
 obtain ⟨s1,a1,n1,c1,a1',n1',c1',rfl⟩:=hx.shape;have hvx:=hx;have SX:=hid sx;have HK:=hid hK;have HSX:Hid (s1=q.num.sign):=hid hx.sign;have H3X:Hid (s1=1∨s1 = -1∨s1=0):=hid (by rw [hx.sign];exact sgn3 q);have S1:Hid (Sm (K+1) 1):=hid (Nat.lt_of_lt_of_le (by decide:1<2^1) (Nat.pow_le_pow_right (by decide) (by omega)));obtain ⟨D,hD⟩:∃ D,D=q.num.natAbs/q.den:=⟨_,rfl⟩;obtain ⟨R,hR⟩:∃ R,R=q.num.natAbs%q.den:=⟨_,rfl⟩;have CD:Hid (∀ w u v,RefV w u q.num.natAbs→RefV w v q.den→Calls Tryz.prog 226 #[u,v] w fun e w'=>∃ a k cap a' k' cap',e=.returned (.tuple #[.slice a k cap,.slice a' k' cap'])∧RefV w' (.slice a k cap) D∧RefV w' (.slice a' k' cap') R∧Ext w w'):=hid fun w u v h1 h2=>by
  rw [hD,hR];exact rdiv_c u v _ _ K w h1 h2 SX.o.1 SX.o.2 (by have:=HK.o;omega) (den_pos q)
 have SD:Hid (Sm (K+1) D):=hid (by rw [hD];exact (SX.o.1.mono (by omega)).of_le (Nat.div_le_self _ _));have HD:=hid hD;have HR:=hid hR;clear hx sx hK hD hR;obtain ⟨W0,hW0,g0,hz0,B_X,B_Z⟩:=pro2s w #[.int .i64 s1,.slice a1 n1 c1,.slice a1' n1' c1'] #[.int .i64 0,.slice none 0 0,.slice none 0 0] 43 43;have HE:=hid g0;have HB_X:=hid B_X;have HB_Z:=hid B_Z;have ac:=cland HB_X.o.a3 (HB_Z.o.a3);have hr0:Ext W0 W0:=Below.refl _ _;clear g0 B_X B_Z 
 go_enter Tryz.func203,Tryz.ntmps203
 go_upto_region 1 with (fail)
 rw [←hW0];clear hW0;replace hvx:=hvx.ext HE.o;have hpx:=hvx.top;have g1:Ext W0 W0.drew:=Below.drew (Below.refl _ _);refine wp_region_held_drew (S:=Ext W0) (by kernel_rfl) (g1) (fun hHeld => ?_);generalize W0.drew=wD1 at *
 apply wts 0 6 rfl rfl (by kernel_rfl) (fun _ _ _ h=>h) hHeld
 ·intro w' hSw;go_simp<;>with_reducible rfl
 apply wts 1 7 rfl rfl (by kernel_rfl) (fun _ _ _ h=>h) hHeld
 ·intro w' hSw;go_simp<;>with_reducible rfl
 apply wts 2 8 rfl rfl (by kernel_rfl) (fun _ _ _ h=>h) hHeld
 ·intro w' hSw;go_simp<;>with_reducible rfl
 try simp only [Act.put,pA,pB,pC]
 refine wonc 3 9 178 #[.tmp 8] #[43] 41 (by kernel_rfl) rfl rfl (fun KK hKK => ?_);go_simp;refine (rbottom_c _ q _ (hvx.ext g1)).mono ?_;rintro e w2 ⟨d2a,d2n,d2c,rfl,k1,g2⟩;have hb1:=g1.trans g2
 try dsimp only
 refine hKK.out _ _ (hb1) (fun hHeld => ?_)
 try simp only [Act.put,pA,pB,pC]
 refine wonc 4 10 226 #[.tmp 7,.tmp 9] #[41,41] 218 (by kernel_rfl) rfl rfl (fun KK hKK => ?_);go_simp;refine (CD.o _ _ _ (hpx.ext hb1) k1).mono ?_;rintro e w3 ⟨da,dn,dc,ra,rn,rc,rfl,kd,kr,g3⟩;have hb2:=hb1.trans g3
 try dsimp only
 refine hKK.out _ _ (hb2) (fun hHeld => ?_);apply wts 5 5 rfl rfl (by kernel_rfl) (fun _ _ _ h=>h) hHeld
 ·intro w' hSw;go_simp<;>with_reducible rfl
 apply wts 6 11 rfl rfl (by kernel_rfl) (fun _ _ _ h=>h) hHeld
 ·intro w' hSw;go_simp<;>with_reducible rfl
 apply wts 7 12 rfl rfl (by kernel_rfl) (fun _ _ _ h=>h) hHeld
 ·intro w' hSw;go_simp<;>with_reducible rfl
 apply wts 8 3 rfl rfl (by kernel_rfl) (fun _ _ _ h=>h) hHeld
 ·intro w' hSw;go_simp<;>with_reducible rfl
 apply wts 9 4 rfl rfl (by kernel_rfl) (fun _ _ _ h=>h) hHeld
 ·intro w' hSw;go_simp<;>with_reducible rfl
 refine wpAnyH_done (by kernel_rfl) ?_ _;clear k1;have hlen:=kr.len0
 by_cases hq:q.num<0
 ·have hs:s1 = -1:=by rw [HSX.o];exact Int.sign_eq_neg_one_of_neg hq
  have hds:decide (s1<0)=true:=decide_eq_true (by omega);have HQ:=hid hq;have HS1:=hid hs;clear hs hq
  by_cases hr:R=0
  ·obtain rfl:rn=0:=hlen.2 hr;have HV:Hid (mkRat (s1*(D:Int)) 1=((q.floor:Int):Rat)):=hid (by rw [HSX.o];exact rfloor_neg q HQ.o D (by rw [←HR.o,←HD.o,if_pos hr];rfl));clear hlen hr
   go_upto_region 4 with (fail)
   go_upto_region 4 with (fail)
   have kc:=(Box.bt (z:=w.heap.size+1) HB_X.o (by omega) Box.n3);have g4:Ext w3 w3.drew:=Below.drew (Below.refl _ _);have hb3:=hb2.trans g4;refine wp_region_held_drew (S:=But W0 (w.heap.size+1)) (by kernel_rfl) (hb3.but) (fun hHeld => ?_);generalize w3.drew=wD4 at *
   apply wts 0 24 rfl rfl (by kernel_rfl) (fun _ _ _ h=>h) hHeld
   ·intro w' hSw;go_simp<;>with_reducible rfl
   apply wts 1 25 rfl rfl (by kernel_rfl) (fun _ _ _ h=>h) hHeld
   ·intro w' hSw;go_simp<;>with_reducible rfl
   apply wts 2 26 rfl rfl (by kernel_rfl) (fun _ _ _ h=>h) hHeld
   ·intro w' hSw;go_simp<;>with_reducible rfl
   try simp only [Act.put,pA,pB,pC]
   refine wonc 3 27 179 #[] #[] 41 (by kernel_rfl) rfl rfl (fun KK hKK => ?_);go_simp;refine (rone_c _).mono ?_;rintro e w5 ⟨o5a,o5n,o5c,rfl,k2,g5⟩;have hb4:=hb3.trans g5
   try dsimp only
   refine hKK.out _ _ (hb4.but) (fun hHeld => ?_)
   try simp only [Act.put,pA,pB,pC]
   refine wonc 4 28 173 #[.tmp 25,.tmp 26,.tmp 27] #[3,41,41] 43 (by kernel_rfl) rfl rfl (fun KK hKK => ?_);go_simp;refine (rmade_c _ _ _ _ 1 (K+2) _ H3X.o (kd.ext (g4.trans g5)) k2 (SD.o.mono (by omega)) (S1.o.mono (by omega)) (by have:=HK.o;omega) (by decide)).mono ?_;rintro e w6 ⟨v,rfl,k9,g6⟩;have hb5:=hb4.trans g6;obtain ⟨s9,a9,n9,c9,a9',n9',c9',rfl⟩:=k9.shape
   try dsimp only
   refine hKK.out _ _ (hb5.but) (fun hHeld => ?_)
   try simp only [Act.put,pA,pB,pC]
   refine wons 5 43 2 28 (by kernel_rfl) rfl rfl (fun KK hKK => ?_);obtain ⟨U6,U7,U8⟩:=(HB_Z.o.ext hb5).f3;go_simp;clear U6 U7 U8;obtain ⟨W7,hW7,g7,q7,B7,hy7,ho7⟩:=rsto3 (HE.o.trans hb5) (by omega) (HB_Z.o.ext hb5) (by decide) (.int .i64 s9) (.slice a9 n9 c9) (.slice a9' n9' c9');rw [←hW7];clear hW7;replace HB_Z:=hid B7;have hq7:But W0 (w.heap.size+1) W7:=But.sto (hb5.but) ho7
   try dsimp only
   refine hKK.out _ _ (hq7) (fun hHeld => ?_);refine wpAnyH_done (by kernel_rfl) ?_ _;have ac:=cland (ho7 _ _ _ (by omega) (HB_X.o.ext (g1.trans (g2.trans (g3.trans (g4.trans (g5.trans g6))))))).a3 (HB_Z.o.a3);have hr9:Ext W7 W7:=Below.refl _ _;go_wp2_with fail;obtain ⟨J10,J11,J12⟩:=HB_Z.o.c3;refine bodyPost_ret (v:=.agg #[.int .i64 s9,.slice a9 n9 c9,.slice a9' n9' c9']) (by simp [results,Tryz.results203,go_sem,J10,J11,J12]) rfl ⟨_,rfl,by rw [←HV.o];exact (k9.keepR q7),g7⟩
  ·have hrn:0<rn:=by
    rcases Nat.eq_zero_or_pos rn with h | h
    ·exact absurd (hlen.1 h) hr
    ·exact h
   have HV:Hid (mkRat (s1*((D+1:Nat):Int)) 1=((q.floor:Int):Rat)):=hid (by rw [HSX.o];exact rfloor_neg q HQ.o (D+1) (by rw [←HR.o,←HD.o,if_neg hr]));clear hlen hr;go_wp2_with fail;refine (rone_c _).mono ?_;rintro e w4 ⟨o4a,o4n,o4c,rfl,k2,g4⟩;have hb3:=hb2.trans g4;go_wp2_with fail;refine (rsum_c _ _ D 1 (K+1) _ (kd.ext g4) k2 SD.o S1.o (by have:=HK.o;omega)).mono ?_;rintro e w5 ⟨t5a,t5n,t5c,rfl,kt,g5⟩;have hb4:=hb3.trans g5;clear k2
   go_upto_region 4 with (fail)
   have kc:=(Box.bt (z:=w.heap.size+1) HB_X.o (by omega) Box.n3);have g6:Ext w5 w5.drew:=Below.drew (Below.refl _ _);have hb5:=hb4.trans g6;refine wp_region_held_drew (S:=But W0 (w.heap.size+1)) (by kernel_rfl) (hb5.but) (fun hHeld => ?_);generalize w5.drew=wD6 at *
   apply wts 0 24 rfl rfl (by kernel_rfl) (fun _ _ _ h=>h) hHeld
   ·intro w' hSw;go_simp<;>with_reducible rfl
   apply wts 1 25 rfl rfl (by kernel_rfl) (fun _ _ _ h=>h) hHeld
   ·intro w' hSw;go_simp<;>with_reducible rfl
   apply wts 2 26 rfl rfl (by kernel_rfl) (fun _ _ _ h=>h) hHeld
   ·intro w' hSw;go_simp<;>with_reducible rfl
   try simp only [Act.put,pA,pB,pC]
   refine wonc 3 27 179 #[] #[] 41 (by kernel_rfl) rfl rfl (fun KK hKK => ?_);go_simp;refine (rone_c _).mono ?_;rintro e w7 ⟨o7a,o7n,o7c,rfl,k2,g7⟩;have hb6:=hb5.trans g7
   try dsimp only
   refine hKK.out _ _ (hb6.but) (fun hHeld => ?_)
   try simp only [Act.put,pA,pB,pC]
   refine wonc 4 28 173 #[.tmp 25,.tmp 26,.tmp 27] #[3,41,41] 43 (by kernel_rfl) rfl rfl (fun KK hKK => ?_);go_simp;refine (rmade_c _ _ _ _ 1 (K+2) _ H3X.o (kt.ext (g6.trans g7)) k2 (SD.o.add S1.o) (S1.o.mono (by omega)) (by have:=HK.o;omega) (by decide)).mono ?_;rintro e w8 ⟨v,rfl,k9,g8⟩;have hb7:=hb6.trans g8;obtain ⟨s9,a9,n9,c9,a9',n9',c9',rfl⟩:=k9.shape
   try dsimp only
   refine hKK.out _ _ (hb7.but) (fun hHeld => ?_)
   try simp only [Act.put,pA,pB,pC]
   refine wons 5 43 2 28 (by kernel_rfl) rfl rfl (fun KK hKK => ?_);obtain ⟨U8,U9,U10⟩:=(HB_Z.o.ext hb7).f3;go_simp;clear U8 U9 U10;obtain ⟨W9,hW9,g9,q9,B9,hy9,ho9⟩:=rsto3 (HE.o.trans hb7) (by omega) (HB_Z.o.ext hb7) (by decide) (.int .i64 s9) (.slice a9 n9 c9) (.slice a9' n9' c9');rw [←hW9];clear hW9;replace HB_Z:=hid B9;have hq9:But W0 (w.heap.size+1) W9:=But.sto (hb7.but) ho9
   try dsimp only
   refine hKK.out _ _ (hq9) (fun hHeld => ?_);refine wpAnyH_done (by kernel_rfl) ?_ _;have ac:=cland (ho9 _ _ _ (by omega) (HB_X.o.ext (g1.trans (g2.trans (g3.trans (g4.trans (g5.trans (g6.trans (g7.trans g8))))))))).a3 (HB_Z.o.a3);have hr11:Ext W9 W9:=Below.refl _ _;go_wp2_with fail;obtain ⟨J12,J13,J14⟩:=HB_Z.o.c3;refine bodyPost_ret (v:=.agg #[.int .i64 s9,.slice a9 n9 c9,.slice a9' n9' c9']) (by simp [results,Tryz.results203,go_sem,J12,J13,J14]) rfl ⟨_,rfl,by rw [←HV.o];exact (k9.keepR q9),g9⟩
 ·have hds:decide (s1<0)=false:=decide_eq_false (by
   have h4:s1=q.num.sign:=HSX.o
   intro h5
   rcases H3X.o with h | h | h
   ·omega
   ·exact hq (Int.sign_eq_neg_one_iff_neg.1 (by rw [←h4];exact h))
   ·omega)
  have HV:Hid (mkRat (s1*(D:Int)) 1=((q.floor:Int):Rat)):=hid (by rw [HSX.o,HD.o];exact rfloor_pos q (by omega));clear hlen hq
  go_upto_region 4 with (fail)
  go_upto_region 4 with (fail)
  have kc:=(Box.bt (z:=w.heap.size+1) HB_X.o (by omega) Box.n3);have g4:Ext w3 w3.drew:=Below.drew (Below.refl _ _);have hb3:=hb2.trans g4;refine wp_region_held_drew (S:=But W0 (w.heap.size+1)) (by kernel_rfl) (hb3.but) (fun hHeld => ?_);generalize w3.drew=wD4 at *
  apply wts 0 24 rfl rfl (by kernel_rfl) (fun _ _ _ h=>h) hHeld
  ·intro w' hSw;go_simp<;>with_reducible rfl
  apply wts 1 25 rfl rfl (by kernel_rfl) (fun _ _ _ h=>h) hHeld
  ·intro w' hSw;go_simp<;>with_reducible rfl
  apply wts 2 26 rfl rfl (by kernel_rfl) (fun _ _ _ h=>h) hHeld
  ·intro w' hSw;go_simp<;>with_reducible rfl
  try simp only [Act.put,pA,pB,pC]
  refine wonc 3 27 179 #[] #[] 41 (by kernel_rfl) rfl rfl (fun KK hKK => ?_);go_simp;refine (rone_c _).mono ?_;rintro e w5 ⟨o5a,o5n,o5c,rfl,k2,g5⟩;have hb4:=hb3.trans g5
  try dsimp only
  refine hKK.out _ _ (hb4.but) (fun hHeld => ?_)
  try simp only [Act.put,pA,pB,pC]
  refine wonc 4 28 173 #[.tmp 25,.tmp 26,.tmp 27] #[3,41,41] 43 (by kernel_rfl) rfl rfl (fun KK hKK => ?_);go_simp;refine (rmade_c _ _ _ _ 1 (K+2) _ H3X.o (kd.ext (g4.trans g5)) k2 (SD.o.mono (by omega)) (S1.o.mono (by omega)) (by have:=HK.o;omega) (by decide)).mono ?_;rintro e w6 ⟨v,rfl,k9,g6⟩;have hb5:=hb4.trans g6;obtain ⟨s9,a9,n9,c9,a9',n9',c9',rfl⟩:=k9.shape
  try dsimp only
  refine hKK.out _ _ (hb5.but) (fun hHeld => ?_)
  try simp only [Act.put,pA,pB,pC]
  refine wons 5 43 2 28 (by kernel_rfl) rfl rfl (fun KK hKK => ?_);obtain ⟨U6,U7,U8⟩:=(HB_Z.o.ext hb5).f3;go_simp;clear U6 U7 U8;obtain ⟨W7,hW7,g7,q7,B7,hy7,ho7⟩:=rsto3 (HE.o.trans hb5) (by omega) (HB_Z.o.ext hb5) (by decide) (.int .i64 s9) (.slice a9 n9 c9) (.slice a9' n9' c9');rw [←hW7];clear hW7;replace HB_Z:=hid B7;have hq7:But W0 (w.heap.size+1) W7:=But.sto (hb5.but) ho7
  try dsimp only
  refine hKK.out _ _ (hq7) (fun hHeld => ?_);refine wpAnyH_done (by kernel_rfl) ?_ _;have ac:=cland (ho7 _ _ _ (by omega) (HB_X.o.ext (g1.trans (g2.trans (g3.trans (g4.trans (g5.trans g6))))))).a3 (HB_Z.o.a3);have hr9:Ext W7 W7:=Below.refl _ _;go_wp2_with fail;obtain ⟨J10,J11,J12⟩:=HB_Z.o.c3;refine bodyPost_ret (v:=.agg #[.int .i64 s9,.slice a9 n9 c9,.slice a9' n9' c9']) (by simp [results,Tryz.results203,go_sem,J10,J11,J12]) rfl ⟨_,rfl,by rw [←HV.o];exact (k9.keepR q7),g7⟩
end Go.Proofs.YtgabigepocfllaaGreatDoor
