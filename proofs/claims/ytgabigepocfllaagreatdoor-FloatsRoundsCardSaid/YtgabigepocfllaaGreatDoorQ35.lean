/- The reference's formats: Check, asked, bias, Least, Normal, Greatest. -/
import Derived.Test.YtgabigepocfllaaGreatDoorQ33
namespace Go.Proofs.YtgabigepocfllaaGreatDoor
open Go.RowKit Vn
set_option maxRecDepth 100000
set_option maxHeartbeats 8000000
theorem rcheck_c (E P:Int) (w:World) :
  Calls Tryz.prog 29 #[.agg #[.int .i64 E,.int .i64 P]] w fun e w'=>e=.returned (.int .i64 (fmtZ E P))∧Ext w w':=by
 obtain ⟨z,hz⟩:∃ z,z=fmtZ E P:=⟨_,rfl⟩;have HZ:=hid hz;rw [←HZ.o];clear hz;obtain ⟨W0,hW0,g0,hz0,B_F⟩:=pro1 w #[.int .i64 E,.int .i64 P] 23;have HE:=hid g0;have HB_F:=hid B_F;have ac:=HB_F.o.a2;have hr0:Ext W0 W0:=Below.refl _ _;clear g0 B_F 
 go_enter Tryz.func29,Tryz.ntmps29
 go_upto_region 1 with (fail)
 rw [←hW0];clear hW0
 by_cases hE:E<2
 ·have hd1:decide (E<2)=true:=decide_eq_true hE;have HC:=hid hE;go_wp2_with fail;go_ret
  exact ⟨(by show Ending.returned (.int .i64 2)=_;rw [HZ.o];unfold fmtZ;rw [if_neg (by have:=HC.o;unfold Fmt;omega)]),HE.o⟩
 ·by_cases hE:11<E
  ·have hd1:decide (E<2)=false:=decide_eq_false (by omega);have hd2:decide (11<E)=true:=decide_eq_true hE;have HC:=hid hE;go_wp2_with fail;go_ret
   exact ⟨(by show Ending.returned (.int .i64 2)=_;rw [HZ.o];unfold fmtZ;rw [if_neg (by have:=HC.o;unfold Fmt;omega)]),HE.o⟩
  ·by_cases hE:P<2
   ·have hd1:decide (E<2)=false:=decide_eq_false (by omega);have hd2:decide (11<E)=false:=decide_eq_false (by omega);have hd3:decide (P<2)=true:=decide_eq_true hE;have HC:=hid hE;go_wp2_with fail;go_ret
    exact ⟨(by show Ending.returned (.int .i64 2)=_;rw [HZ.o];unfold fmtZ;rw [if_neg (by have:=HC.o;unfold Fmt;omega)]),HE.o⟩
   ·by_cases hE:113<P
    ·have hd1:decide (E<2)=false:=decide_eq_false (by omega);have hd2:decide (11<E)=false:=decide_eq_false (by omega);have hd3:decide (P<2)=false:=decide_eq_false (by omega);have hd4:decide (113<P)=true:=decide_eq_true hE;have HC:=hid hE;go_wp2_with fail;go_ret
     exact ⟨(by show Ending.returned (.int .i64 2)=_;rw [HZ.o];unfold fmtZ;rw [if_neg (by have:=HC.o;unfold Fmt;omega)]),HE.o⟩
    ·by_cases hE:E+P<5
     ·have hd1:decide (E<2)=false:=decide_eq_false (by omega);have hd2:decide (11<E)=false:=decide_eq_false (by omega);have hd3:decide (P<2)=false:=decide_eq_false (by omega);have hd4:decide (113<P)=false:=decide_eq_false (by omega);have hd5:decide (E+P<5)=true:=decide_eq_true hE;have HC:=hid hE;go_wp2_with fail;go_ret
      exact ⟨(by show Ending.returned (.int .i64 2)=_;rw [HZ.o];unfold fmtZ;rw [if_neg (by have:=HC.o;unfold Fmt;omega)]),HE.o⟩
     ·have hd1:decide (E<2)=false:=decide_eq_false (by omega);have hd2:decide (11<E)=false:=decide_eq_false (by omega);have hd3:decide (P<2)=false:=decide_eq_false (by omega);have hd4:decide (113<P)=false:=decide_eq_false (by omega);have hd5:decide (E+P<5)=false:=decide_eq_false (by omega);have HC:Hid (Fmt E P):=hid (by unfold Fmt;omega);go_wp2_with fail;go_ret
      exact ⟨(by show Ending.returned (.int .i64 0)=_;rw [HZ.o];unfold fmtZ;rw [if_pos HC.o]),HE.o⟩
def askZ (E P m:Int):Int:=if 0≤m∧m≤4 then fmtZ E P else 2
theorem rasked_c (E P m:Int) (w:World) :
  Calls Tryz.prog 114 #[.agg #[.int .i64 E,.int .i64 P],.int .i64 m] w fun e w'=>e=.returned (.int .i64 (askZ E P m))∧Ext w w':=by
 obtain ⟨W0,hW0,g0,hz0,B_F⟩:=pro1 w #[.int .i64 E,.int .i64 P] 23;have HE:=hid g0;have HB_F:=hid B_F;have ac:=HB_F.o.a2;have hr0:Ext W0 W0:=Below.refl _ _;clear g0 B_F 
 go_enter Tryz.func114,Tryz.ntmps114
 go_upto_region 1 with (fail)
 rw [←hW0];clear hW0
 rcases (show m<0∨4<m∨(0≤m∧m≤4) by omega) with hm | hm | hm
 ·have HR:Hid (askZ E P m=2):=hid (by unfold askZ;rw [if_neg (by omega)]);have hd1:decide (m<0)=true:=decide_eq_true hm;clear hm;go_wp2_with fail;go_ret
  exact ⟨by rw [HR.o];rfl,HE.o⟩
 ·have HR:Hid (askZ E P m=2):=hid (by unfold askZ;rw [if_neg (by omega)]);have hd1:decide (m<0)=false:=decide_eq_false (by omega);have hd2:decide (4<m)=true:=decide_eq_true hm;clear hm;go_wp2_with fail;go_ret
  exact ⟨by rw [HR.o];rfl,HE.o⟩
 ·have HR:Hid (askZ E P m=fmtZ E P):=hid (by unfold askZ;rw [if_pos (by omega)]);have hd1:decide (m<0)=false:=decide_eq_false (by omega);have hd2:decide (4<m)=false:=decide_eq_false (by omega);obtain ⟨z,hz⟩:∃ z,z=fmtZ E P:=⟨_,rfl⟩;rw [←hz] at HR;have CC:Hid (∀ w,Calls Tryz.prog 29 #[.agg #[.int .i64 E,.int .i64 P]] w fun e w'=>e=.returned (.int .i64 z)∧Ext w w'):=hid fun w=>by rw [hz];exact rcheck_c E P w
  clear hm hz;go_wp2_with fail;refine (CC.o _).mono ?_;rintro e w1 ⟨rfl,g1⟩;go_wp2_with fail;go_ret
  exact ⟨by rw [HR.o];rfl,(HE.o.trans g1)⟩
theorem rbias_c (E P:Nat) (w:World) (hF:Fmt E P) :
  Calls Tryz.prog 142 #[.agg #[.int .i64 (E:Nat),.int .i64 (P:Nat)]] w fun e w'=>e=.returned (.int .i64 (bias E:Nat))∧Ext w w':=by
 obtain ⟨hE1,hE2,_,_,_⟩:=hF;obtain ⟨b,hb⟩:∃ b,b=bias E:=⟨_,rfl⟩;rw [←hb];have HB:=hid hb;clear hb;obtain ⟨W0,hW0,g0,hz0,B_F⟩:=pro1 w #[.int .i64 (E:Nat),.int .i64 (P:Nat)] 23;have HE:=hid g0;have HB_F:=hid B_F;have ac:=HB_F.o.a2;have hr0:Ext W0 W0:=Below.refl _ _;clear g0 B_F 
 go_enter Tryz.func142,Tryz.ntmps142
 go_upto_region 1 with (fail)
 rw [←hW0];clear hW0;go_wp2_with fail
 go_loopg [3,4] (E-1) (fun g x i wx=>∃ j:Nat,x=.int .i64 ((2^j:Nat):Int)∧i=.int .i64 ((j+1:Nat):Int)∧g+j+1=E∧Hid (Ext W0 wx))
 case atStart=>exact ⟨0,rfl,rfl,by omega,hid (Below.refl _ _)⟩
 case round =>
  obtain ⟨j,rfl,rfl,hj,HEr⟩:=hrel;have HXr:=hid (HB_F.o.ext HEr.o);obtain ⟨y0,y1⟩:=HXr.o.c2;have hp:2^j≤2^11:=Nat.pow_le_pow_right (by decide) (by omega);obtain ⟨p,hp2⟩:∃ p,p=2^j:=⟨_,rfl⟩;rw [←hp2] at hp ⊢;have HP:=hid hp2;clear hp2;have hp3:p≤2048:=hp;clear hp
  rcases Nat.eq_zero_or_pos gk with h0 | h0
  ·have hd:decide (j+1<E)=false:=decide_eq_false (by omega);have hd2:decide (((j:Int)+1)<(E:Int))=false:=decide_eq_false (by omega);have HJ:=hid hj;have HG:=hid h0;clear h0;go_wp2_with fail;go_ret
   exact ⟨(by rw [HB.o];unfold bias;rw [show E-1=j by have:=HJ.o;have:=HG.o;omega,←HP.o];show Ending.returned (.int .i64 ((p:Int)-1))=_;have h7:0<p:=(by rw [HP.o];exact Nat.pow_pos (by decide));rw [show ((p-1:Nat):Int)=(p:Int)-1 from (by omega)]),HE.o.trans HEr.o⟩
  ·have hd:decide (j+1<E)=true:=decide_eq_true (by omega);have hd2:decide (((j:Int)+1)<(E:Int))=true:=decide_eq_true (by omega);go_wp2_with fail
   go_roundg (gk-1)
   case measure=>omega
   case rel=>exact ⟨j+1,vint (by rw [Nat.pow_succ,←HP.o];omega),by go_num,by omega,HEr⟩
theorem rleast_c (E P:Nat) (w:World) (hF:Fmt E P) :
  Calls Tryz.prog 55 #[.agg #[.int .i64 (E:Nat),.int .i64 (P:Nat)]] w fun e w'=>∃ v,e=.returned v∧RNumV w' v ((2:Rat)^(2-(bias E:Int)-P))∧Ext w w':=by
 obtain ⟨b,hb⟩:∃ b,b=bias E:=⟨_,rfl⟩;rw [←hb];have hb1:b≤1023:=by rw [hb];exact (fmt_bounds hF).2.2.1
 have CB:Hid (∀ w,Calls Tryz.prog 142 #[.agg #[.int .i64 (E:Nat),.int .i64 (P:Nat)]] w fun e w'=>e=.returned (.int .i64 (b:Nat))∧Ext w w'):=hid fun w=>by rw [hb];exact rbias_c E P w hF
 obtain ⟨hE1,hE2,hP1,hP2,hEP⟩:=hF;clear hb;have hw1:IntKind.i64.wrap (2-(b:Int))=2-(b:Int):=IntWalk.i64_in _ (by omega);have hw2:IntKind.i64.wrap (2-(b:Int)-(P:Int))=2-(b:Int)-(P:Int):=IntWalk.i64_in _ (by omega);have CT:Hid (∀ w,Calls Tryz.prog 88 #[.int .i64 (2-(b:Int)-(P:Int))] w fun e w'=>∃ v,e=.returned v∧RNumV w' v ((2:Rat)^(2-(b:Int)-P))∧Ext w w'):=hid fun w=>rtwo_c _ w (by omega) (by omega);obtain ⟨W0,hW0,g0,hz0,B_F,B_Z⟩:=pro2s w #[.int .i64 (E:Nat),.int .i64 (P:Nat)] #[.int .i64 0,.slice none 0 0,.slice none 0 0] 23 43;have HE:=hid g0;have HB_F:=hid B_F;have HB_Z:=hid B_Z;have ac:=cland HB_F.o.a2 (HB_Z.o.a3);have hr0:Ext W0 W0:=Below.refl _ _;clear g0 B_F B_Z 
 go_enter Tryz.func55,Tryz.ntmps55
 go_upto_region 1 with (fail)
 rw [←hW0];clear hW0;have kc:=(Box.bt (z:=w.heap.size+1) HB_F.o (by omega) Box.n2);have g1:Ext W0 W0.drew:=Below.drew (Below.refl _ _);refine wp_region_held_drew (S:=But W0 (w.heap.size+1)) (by kernel_rfl) (g1.but) (fun hHeld => ?_);generalize W0.drew=wD1 at *
 apply wts 0 3 rfl rfl (by kernel_rfl) (fun _ _ _ h=>h) hHeld
 ·intro w' hSw;go_simp<;>with_reducible rfl
 apply wts 3 6 rfl rfl (by kernel_rfl) (fun _ _ _ h=>h) hHeld
 ·intro w' hSw;go_simp<;>with_reducible rfl
 apply wts 4 7 rfl rfl (by kernel_rfl) (fun _ _ _ h=>h) hHeld
 ·intro w' hSw;go_simp<;>with_reducible rfl
 try simp only [Act.put,pA,pB,pC]
 refine wonc 1 4 142 #[.tmp 3] #[23] 3 (by kernel_rfl) rfl rfl (fun KK hKK => ?_);go_simp;refine (CB.o _).mono ?_;rintro e w2 ⟨rfl,g2⟩;have hb1:=g1.trans g2
 try dsimp only
 refine hKK.out _ _ (hb1.but) (fun hHeld => ?_);apply wts 2 5 rfl rfl (by kernel_rfl) (fun _ _ _ h=>h) hHeld
 ·intro w' hSw;go_simp<;>with_reducible rfl
 apply wts 5 8 rfl rfl (by kernel_rfl) (fun _ _ _ h=>h) hHeld
 ·intro w' hSw;go_simp<;>with_reducible rfl
 try simp only [Act.put,pA,pB,pC]
 refine wonc 6 9 88 #[.tmp 8] #[3] 43 (by kernel_rfl) rfl rfl (fun KK hKK => ?_);go_simp;refine (CT.o _).mono ?_;rintro e w3 ⟨v3,rfl,k9,g3⟩;have hb2:=hb1.trans g3;obtain ⟨s9,a9,n9,c9,a9',n9',c9',rfl⟩:=k9.shape
 try dsimp only
 refine hKK.out _ _ (hb2.but) (fun hHeld => ?_)
 try simp only [Act.put,pA,pB,pC]
 refine wons 7 43 2 9 (by kernel_rfl) rfl rfl (fun KK hKK => ?_);obtain ⟨U3,U4,U5⟩:=(HB_Z.o.ext hb2).f3;go_simp;clear U3 U4 U5;obtain ⟨W4,hW4,g4,q4,B4,hy4,ho4⟩:=rsto3 (HE.o.trans hb2) (by omega) (HB_Z.o.ext hb2) (by decide) (.int .i64 s9) (.slice a9 n9 c9) (.slice a9' n9' c9');rw [←hW4];clear hW4;replace HB_Z:=hid B4;have hq4:But W0 (w.heap.size+1) W4:=But.sto (hb2.but) ho4
 try dsimp only
 refine hKK.out _ _ (hq4) (fun hHeld => ?_);refine wpAnyH_done (by kernel_rfl) ?_ _;have ac:=cland (ho4 _ _ _ (by omega) (HB_F.o.ext (g1.trans (g2.trans g3)))).a2 (HB_Z.o.a3);have hr6:Ext W4 W4:=Below.refl _ _;go_wp2_with fail;obtain ⟨J7,J8,J9⟩:=HB_Z.o.c3;refine bodyPost_ret (v:=.agg #[.int .i64 s9,.slice a9 n9 c9,.slice a9' n9' c9']) (by simp [results,Tryz.results55,go_sem,J7,J8,J9]) rfl ⟨_,rfl,(k9.keepR q4),g4⟩
theorem rnormal_c (E P:Nat) (w:World) (hF:Fmt E P) :
  Calls Tryz.prog 56 #[.agg #[.int .i64 (E:Nat),.int .i64 (P:Nat)]] w fun e w'=>∃ v,e=.returned v∧RNumV w' v ((2:Rat)^(1-(bias E:Int)))∧Ext w w':=by
 obtain ⟨b,hb⟩:∃ b,b=bias E:=⟨_,rfl⟩;rw [←hb];have hb1:b≤1023:=by rw [hb];exact (fmt_bounds hF).2.2.1
 have CB:Hid (∀ w,Calls Tryz.prog 142 #[.agg #[.int .i64 (E:Nat),.int .i64 (P:Nat)]] w fun e w'=>e=.returned (.int .i64 (b:Nat))∧Ext w w'):=hid fun w=>by rw [hb];exact rbias_c E P w hF
 obtain ⟨hE1,hE2,hP1,hP2,hEP⟩:=hF;clear hb;have CT:Hid (∀ w,Calls Tryz.prog 88 #[.int .i64 (1-(b:Int))] w fun e w'=>∃ v,e=.returned v∧RNumV w' v ((2:Rat)^(1-(b:Int)))∧Ext w w'):=hid fun w=>rtwo_c _ w (by omega) (by omega);obtain ⟨W0,hW0,g0,hz0,B_F,B_Z⟩:=pro2s w #[.int .i64 (E:Nat),.int .i64 (P:Nat)] #[.int .i64 0,.slice none 0 0,.slice none 0 0] 23 43;have HE:=hid g0;have HB_F:=hid B_F;have HB_Z:=hid B_Z;have ac:=cland HB_F.o.a2 (HB_Z.o.a3);have hr0:Ext W0 W0:=Below.refl _ _;clear g0 B_F B_Z 
 go_enter Tryz.func56,Tryz.ntmps56
 go_upto_region 1 with (fail)
 rw [←hW0];clear hW0;go_wp2_with fail;refine (CB.o _).mono ?_;rintro e w1 ⟨rfl,g1⟩;go_wp2_with fail;refine (CT.o _).mono ?_;rintro e w2 ⟨v2,rfl,k9,g2⟩;have hb1:=g1.trans g2;obtain ⟨s9,a9,n9,c9,a9',n9',c9',rfl⟩:=k9.shape;obtain ⟨U2,U3,U4⟩:=(HB_Z.o.ext hb1).f3;go_wp2_with fail;clear U2 U3 U4;obtain ⟨W3,hW3,g3,q3,B3,hy3,ho3⟩:=rsto3 (HE.o.trans hb1) (by omega) (HB_Z.o.ext hb1) (by decide) (.int .i64 s9) (.slice a9 n9 c9) (.slice a9' n9' c9');rw [←hW3];clear hW3;replace HB_Z:=hid B3;obtain ⟨J5,J6,J7⟩:=HB_Z.o.c3;refine bodyPost_ret (v:=.agg #[.int .i64 s9,.slice a9 n9 c9,.slice a9' n9' c9']) (by simp [results,Tryz.results56,go_sem,J5,J6,J7]) rfl ⟨_,rfl,(k9.keepR q3),g3⟩
theorem rgreatest_c (E P:Nat) (w:World) (hF:Fmt E P) :
  Calls Tryz.prog 54 #[.agg #[.int .i64 (E:Nat),.int .i64 (P:Nat)]] w fun e w'=>∃ v,e=.returned v∧RNumV w' v (grQ P (bias E))∧Ext w w':=by
 obtain ⟨b,hb⟩:∃ b,b=bias E:=⟨_,rfl⟩;rw [←hb];have hb1:b≤1023:=by rw [hb];exact (fmt_bounds hF).2.2.1
 have CB:Hid (∀ w,Calls Tryz.prog 142 #[.agg #[.int .i64 (E:Nat),.int .i64 (P:Nat)]] w fun e w'=>e=.returned (.int .i64 (b:Nat))∧Ext w w'):=hid fun w=>by rw [hb];exact rbias_c E P w hF
 obtain ⟨hE1,hE2,hP1,hP2,hEP⟩:=hF;clear hb;have hw1:IntKind.i64.wrap ((b:Int)-(P:Int))=(b:Int)-(P:Int):=IntWalk.i64_in _ (by omega);have hw2:IntKind.i64.wrap ((b:Int)-(P:Int)+1)=(b:Int)-(P:Int)+1:=IntWalk.i64_in _ (by omega);have hlt:2^P<2^200:=Nat.pow_lt_pow_right (by decide) (by omega);have hp0:0<2^P:=Nat.pow_pos (by decide);obtain ⟨N,hN⟩:∃ N,N=2^P:=⟨_,rfl⟩;rw [←hN] at hlt hp0;have SN:Hid (SmQ 201 ((N:Nat):Rat)):=hid (nat_sm hlt);have S1:Hid (SmQ 201 ((1:Nat):Rat)):=hid (nat_sm (Nat.lt_of_le_of_lt hp0 hlt));have SM:Hid (SmQ 201 ((N-1:Nat):Rat)):=hid (nat_sm (Nat.lt_of_le_of_lt (Nat.sub_le _ _) hlt));have CT:Hid (∀ w,Calls Tryz.prog 88 #[.int .i64 (P:Nat)] w fun e w'=>∃ v,e=.returned v∧RNumV w' v ((N:Nat):Rat)∧Ext w w'):=hid fun w=>by
  have h:=rtwo_c (P:Int) w (by omega) (by omega);rw [p2_nat,←hN] at h;exact h
 have CS:Hid (∀ w u v,RNumV w u ((N:Nat):Rat)→RNumV w v ((1:Nat):Rat)→Calls Tryz.prog 129 #[u,v] w fun e w'=>∃ v,e=.returned v∧RNumV w' v ((N-1:Nat):Rat)∧Ext w w'):=hid fun w u v h1 h2=>by
  have h:=rsubq_c u v _ _ 201 w h1 h2 SN.o S1.o (by decide);rw [nat_sub hp0] at h;exact h
 have CSH:Hid (∀ w u,RNumV w u ((N-1:Nat):Rat)→Calls Tryz.prog 141 #[u,.int .i64 ((b:Int)-(P:Int)+1)] w fun e w'=>∃ v,e=.returned v∧RNumV w' v (grQ P b)∧Ext w w'):=hid fun w u h1=>by
  have h:=rshiftq_c u _ 201 ((b:Int)-(P:Int)+1) w h1 SM.o (by omega) (by omega) (by decide);unfold grQ;rw [←hN];exact h
 have CI:Hid (∀ w,Calls Tryz.prog 132 #[.int .i64 1] w fun e w'=>∃ v,e=.returned v∧RNumV w' v ((1:Nat):Rat)∧Ext w w'):=hid fun w=>rint_i 1 1 w rfl (by decide);clear hlt hp0 hN;obtain ⟨W0,hW0,g0,hz0,B_F,B_Z⟩:=pro2s w #[.int .i64 (E:Nat),.int .i64 (P:Nat)] #[.int .i64 0,.slice none 0 0,.slice none 0 0] 23 43;have HE:=hid g0;have HB_F:=hid B_F;have HB_Z:=hid B_Z;have ac:=cland HB_F.o.a2 (HB_Z.o.a3);have hr0:Ext W0 W0:=Below.refl _ _;clear g0 B_F B_Z 
 go_enter Tryz.func54,Tryz.ntmps54
 go_upto_region 1 with (fail)
 rw [←hW0];clear hW0;go_wp2_with fail;refine (CT.o _).mono ?_;rintro e w1 ⟨v1,rfl,k1,g1⟩;go_wp2_with fail;refine (CI.o _).mono ?_;rintro e w2 ⟨v2,rfl,k2,g2⟩;have hb1:=g1.trans g2;go_wp2_with fail;refine (CS.o _ _ _ (k1.ext g2) k2).mono ?_;rintro e w3 ⟨v3,rfl,k3,g3⟩;have hb2:=hb1.trans g3;obtain ⟨s3,a3,n3,c3,a3',n3',c3',rfl⟩:=k3.shape;clear k1 k2;have gA:=hb2.trans (Ext.alloc w3 (.cells #[.int .i64 s3,.slice a3 n3 c3,.slice a3' n3' c3'] 43))
 go_upto_region 2 with (fail)
 clear gA;have hs3:=(g1.trans (g2.trans g3)).size;obtain ⟨W4,hW4,g4,hy4,B_M⟩:=pro1 w3 #[.int .i64 s3,.slice a3 n3 c3,.slice a3' n3' c3'] 43;rw [←hW4];clear hW4;have hb4:=hb2.trans g4;have HB_M:=hid B_M;clear B_M;have he5:=(HE.o.trans hb4);replace ac:=hb4.cl ac;have hr6:Ext W4 W4:=Below.refl _ _;replace ac:=cland ac HB_M.o.a3;have kc:=cland (Box.bt (z:=w.heap.size+1) (HB_F.o.ext (g1.trans (g2.trans (g3.trans g4)))) (by omega) Box.n2) ((Box.bt (z:=w.heap.size+1) HB_M.o (by omega) Box.n3));have g5:Ext W4 W4.drew:=Below.drew (Below.refl _ _);refine wp_region_held_drew (S:=But W4 (w.heap.size+1)) (by kernel_rfl) (g5.but) (fun hHeld => ?_);generalize W4.drew=wD5 at *
 apply wts 0 9 rfl rfl (by kernel_rfl) (fun _ _ _ h=>h) hHeld
 ·intro w' hSw;go_simp<;>with_reducible rfl
 apply wts 1 10 rfl rfl (by kernel_rfl) (fun _ _ _ h=>h) hHeld
 ·intro w' hSw;go_simp<;>with_reducible rfl
 apply wts 3 12 rfl rfl (by kernel_rfl) (fun _ _ _ h=>h) hHeld
 ·intro w' hSw;go_simp<;>with_reducible rfl
 apply wts 4 13 rfl rfl (by kernel_rfl) (fun _ _ _ h=>h) hHeld
 ·intro w' hSw;go_simp<;>with_reducible rfl
 try simp only [Act.put,pA,pB,pC]
 refine wonc 2 11 142 #[.tmp 10] #[23] 3 (by kernel_rfl) rfl rfl (fun KK hKK => ?_);go_simp;refine (CB.o _).mono ?_;rintro e w6 ⟨rfl,g6⟩;have hb7:=g5.trans g6
 try dsimp only
 refine hKK.out _ _ (hb7.but) (fun hHeld => ?_);apply wts 5 14 rfl rfl (by kernel_rfl) (fun _ _ _ h=>h) hHeld
 ·intro w' hSw;go_simp<;>with_reducible rfl
 apply wts 6 15 rfl rfl (by kernel_rfl) (fun _ _ _ h=>h) hHeld
 ·intro w' hSw;go_simp<;>with_reducible rfl
 try simp only [Act.put,pA,pB,pC]
 refine wonc 7 16 141 #[.tmp 9,.tmp 15] #[43,3] 43 (by kernel_rfl) rfl rfl (fun KK hKK => ?_);go_simp;refine (CSH.o _ _ ((k3.ext g4).ext hb7)).mono ?_;rintro e w7 ⟨v7,rfl,k9,g7⟩;have hb8:=hb7.trans g7;obtain ⟨s9,a9,n9,c9,a9',n9',c9',rfl⟩:=k9.shape
 try dsimp only
 refine hKK.out _ _ (hb8.but) (fun hHeld => ?_)
 try simp only [Act.put,pA,pB,pC]
 refine wons 8 43 2 16 (by kernel_rfl) rfl rfl (fun KK hKK => ?_);obtain ⟨U9,U10,U11⟩:=((HB_Z.o.ext (g1.trans (g2.trans (g3.trans g4)))).ext hb8).f3;go_simp;clear U9 U10 U11;obtain ⟨W8,hW8,g8,q8,B8,hy8,ho8⟩:=rsto3 (he5.trans hb8) (by omega) ((HB_Z.o.ext (g1.trans (g2.trans (g3.trans g4)))).ext hb8) (by decide) (.int .i64 s9) (.slice a9 n9 c9) (.slice a9' n9' c9');rw [←hW8];clear hW8;replace HB_Z:=hid B8;have hq8:But W4 (w.heap.size+1) W8:=But.sto (hb8.but) ho8
 try dsimp only
 refine hKK.out _ _ (hq8) (fun hHeld => ?_);refine wpAnyH_done (by kernel_rfl) ?_ _;have ac:=cland (ho8 _ _ _ (by omega) (HB_F.o.ext (g1.trans (g2.trans (g3.trans (g4.trans (g5.trans (g6.trans g7)))))))).a2 (cland HB_Z.o.a3 ((ho8 _ _ _ (by omega) (HB_M.o.ext (g5.trans (g6.trans g7)))).a3));have hr12:Ext W8 W8:=Below.refl _ _;go_wp2_with fail;obtain ⟨J13,J14,J15⟩:=HB_Z.o.c3;refine bodyPost_ret (v:=.agg #[.int .i64 s9,.slice a9 n9 c9,.slice a9' n9' c9']) (by simp [results,Tryz.results54,go_sem,J13,J14,J15]) rfl ⟨_,rfl,(k9.keepR q8),g8⟩
theorem rbelow_c (E P:Nat) (x:Value) (q:Rat) (K:Nat) (w:World) (hF:Fmt E P) (hx:RNumV w x q) (sx:SmQ K q) (hK:K≤1000000) :
  Calls Tryz.prog 175 #[.agg #[.int .i64 (E:Nat),.int .i64 (P:Nat)],x] w fun e w'=>e=.returned (.bool (decide (absQ q<(2:Rat)^(1-(bias E:Int)))))∧Ext w w':=by
 obtain ⟨s1,a1,n1,c1,a1',n1',c1',rfl⟩:=hx.shape;have hvx:=hx;have HF:=hid hF;obtain ⟨b,hb⟩:∃ b,b=decide (absQ q<(2:Rat)^(1-(bias E:Int))):=⟨_,rfl⟩;have HB:=hid hb;rw [←HB.o];obtain ⟨cc,hcc⟩:∃ c,c=cmpQ (absQ q) ((2:Rat)^(1-(bias E:Int))):=⟨_,rfl⟩;have hd:decide (cc<0)=b:=by rw [hb,decide_eq_decide,hcc];exact cmpQ_lt
 have CC:Hid (∀ w u v,RNumV w u (absQ q)→RNumV w v ((2:Rat)^(1-(bias E:Int)))→Calls Tryz.prog 87 #[u,v] w fun e w'=>e=.returned (.int .i64 cc)∧Ext w w'):=hid fun w u v h1 h2=>by
  rw [hcc];exact rcmpq_c u v _ _ (K+2000) w h1 h2 (sx.absQ.mono (by omega)) ((p2_sm (L:=1025) (by have:=(fmt_bounds hF).2.2.1;omega)).mono (by omega)) (by omega)
 clear hx hb hcc sx hK hF;obtain ⟨W0,hW0,g0,hz0,B_F,B_X⟩:=pro2s w #[.int .i64 (E:Nat),.int .i64 (P:Nat)] #[.int .i64 s1,.slice a1 n1 c1,.slice a1' n1' c1'] 23 43;have HE:=hid g0;have HB_F:=hid B_F;have HB_X:=hid B_X;have ac:=cland HB_F.o.a2 (HB_X.o.a3);have hr0:Ext W0 W0:=Below.refl _ _;clear g0 B_F B_X 
 go_enter Tryz.func175,Tryz.ntmps175
 go_upto_region 1 with (fail)
 rw [←hW0];clear hW0;replace hvx:=hvx.ext HE.o;have g1:Ext W0 W0.drew:=Below.drew (Below.refl _ _);refine wp_region_held_drew (S:=Ext W0) (by kernel_rfl) (g1) (fun hHeld => ?_);generalize W0.drew=wD1 at *
 apply wts 0 5 rfl rfl (by kernel_rfl) (fun _ _ _ h=>h) hHeld
 ·intro w' hSw;go_simp<;>with_reducible rfl
 apply wts 2 7 rfl rfl (by kernel_rfl) (fun _ _ _ h=>h) hHeld
 ·intro w' hSw;go_simp<;>with_reducible rfl
 try simp only [Act.put,pA,pB,pC]
 refine wonc 1 6 83 #[.tmp 5] #[43] 43 (by kernel_rfl) rfl rfl (fun KK hKK => ?_);go_simp;refine (rabs_c _ q _ (hvx.ext g1)).mono ?_;rintro e w2 ⟨v2,rfl,k1,g2⟩;have hb1:=g1.trans g2
 try dsimp only
 refine hKK.out _ _ (hb1) (fun hHeld => ?_)
 try simp only [Act.put,pA,pB,pC]
 refine wonc 3 8 56 #[.tmp 7] #[23] 43 (by kernel_rfl) rfl rfl (fun KK hKK => ?_);go_simp;refine (rnormal_c E P _ HF.o).mono ?_;rintro e w3 ⟨v3,rfl,k2,g3⟩;have hb2:=hb1.trans g3
 try dsimp only
 refine hKK.out _ _ (hb2) (fun hHeld => ?_)
 try simp only [Act.put,pA,pB,pC]
 refine wonc 4 9 87 #[.tmp 6,.tmp 8] #[43,43] 3 (by kernel_rfl) rfl rfl (fun KK hKK => ?_);go_simp;refine (CC.o _ _ _ (k1.ext g3) k2).mono ?_;rintro e w4 ⟨rfl,g4⟩;have hb3:=hb2.trans g4
 try dsimp only
 refine hKK.out _ _ (hb3) (fun hHeld => ?_);apply wts 5 10 rfl rfl (by kernel_rfl) (fun _ _ _ h=>h) hHeld
 ·intro w' hSw;go_simp<;>with_reducible rfl
 apply wts 6 4 rfl rfl (by kernel_rfl) (fun _ _ _ h=>h) hHeld
 ·intro w' hSw;go_simp<;>with_reducible rfl
 refine wpAnyH_done (by kernel_rfl) ?_ _;go_wp2_with fail;go_ret
 exact ⟨rfl,(HE.o.trans hb3)⟩
theorem grQ_smF {E P:Nat} (hF:Fmt E P):SmQ 2000 (grQ P (bias E)):=by
 obtain ⟨h1,h2,h3,h4,h5⟩:=fmt_bounds hF;have h6:2^P≤2^113:=Nat.pow_le_pow_right (by decide) (by omega);unfold grQ
 exact ((nat_sm (K:=113) (n:=2^P-1) (by have:0<2^P:=Nat.pow_pos (by decide);omega)).mul_p2 _ 1200 (by omega)).mono (by decide)
theorem rbeyond_c (E P:Nat) (x:Value) (q:Rat) (K:Nat) (w:World) (hF:Fmt E P) (hx:RNumV w x q) (sx:SmQ K q) (hK:K≤1000000) :
  Calls Tryz.prog 138 #[.agg #[.int .i64 (E:Nat),.int .i64 (P:Nat)],x] w fun e w'=>e=.returned (.bool (decide (grQ P (bias E)<absQ q)))∧Ext w w':=by
 obtain ⟨s1,a1,n1,c1,a1',n1',c1',rfl⟩:=hx.shape;have hvx:=hx;have HF:=hid hF;obtain ⟨b,hb⟩:∃ b,b=decide (grQ P (bias E)<absQ q):=⟨_,rfl⟩;have HB:=hid hb;rw [←HB.o];obtain ⟨cc,hcc⟩:∃ c,c=cmpQ (absQ q) (grQ P (bias E)):=⟨_,rfl⟩;have hd:decide (0<cc)=b:=by rw [hb,decide_eq_decide,hcc];exact cmpQ_gt
 have CC:Hid (∀ w u v,RNumV w u (absQ q)→RNumV w v (grQ P (bias E))→Calls Tryz.prog 87 #[u,v] w fun e w'=>e=.returned (.int .i64 cc)∧Ext w w'):=hid fun w u v h1 h2=>by
  rw [hcc];exact rcmpq_c u v _ _ (K+2000) w h1 h2 (sx.absQ.mono (by omega)) ((grQ_smF hF).mono (by omega)) (by omega)
 clear hx hb hcc sx hK hF;obtain ⟨W0,hW0,g0,hz0,B_F,B_X⟩:=pro2s w #[.int .i64 (E:Nat),.int .i64 (P:Nat)] #[.int .i64 s1,.slice a1 n1 c1,.slice a1' n1' c1'] 23 43;have HE:=hid g0;have HB_F:=hid B_F;have HB_X:=hid B_X;have ac:=cland HB_F.o.a2 (HB_X.o.a3);have hr0:Ext W0 W0:=Below.refl _ _;clear g0 B_F B_X 
 go_enter Tryz.func138,Tryz.ntmps138
 go_upto_region 1 with (fail)
 rw [←hW0];clear hW0;replace hvx:=hvx.ext HE.o;have g1:Ext W0 W0.drew:=Below.drew (Below.refl _ _);refine wp_region_held_drew (S:=Ext W0) (by kernel_rfl) (g1) (fun hHeld => ?_);generalize W0.drew=wD1 at *
 apply wts 0 5 rfl rfl (by kernel_rfl) (fun _ _ _ h=>h) hHeld
 ·intro w' hSw;go_simp<;>with_reducible rfl
 apply wts 2 7 rfl rfl (by kernel_rfl) (fun _ _ _ h=>h) hHeld
 ·intro w' hSw;go_simp<;>with_reducible rfl
 try simp only [Act.put,pA,pB,pC]
 refine wonc 1 6 83 #[.tmp 5] #[43] 43 (by kernel_rfl) rfl rfl (fun KK hKK => ?_);go_simp;refine (rabs_c _ q _ (hvx.ext g1)).mono ?_;rintro e w2 ⟨v2,rfl,k1,g2⟩;have hb1:=g1.trans g2
 try dsimp only
 refine hKK.out _ _ (hb1) (fun hHeld => ?_)
 try simp only [Act.put,pA,pB,pC]
 refine wonc 3 8 54 #[.tmp 7] #[23] 43 (by kernel_rfl) rfl rfl (fun KK hKK => ?_);go_simp;refine (rgreatest_c E P _ HF.o).mono ?_;rintro e w3 ⟨v3,rfl,k2,g3⟩;have hb2:=hb1.trans g3
 try dsimp only
 refine hKK.out _ _ (hb2) (fun hHeld => ?_)
 try simp only [Act.put,pA,pB,pC]
 refine wonc 4 9 87 #[.tmp 6,.tmp 8] #[43,43] 3 (by kernel_rfl) rfl rfl (fun KK hKK => ?_);go_simp;refine (CC.o _ _ _ (k1.ext g3) k2).mono ?_;rintro e w4 ⟨rfl,g4⟩;have hb3:=hb2.trans g4
 try dsimp only
 refine hKK.out _ _ (hb3) (fun hHeld => ?_);apply wts 5 10 rfl rfl (by kernel_rfl) (fun _ _ _ h=>h) hHeld
 ·intro w' hSw;go_simp<;>with_reducible rfl
 apply wts 6 4 rfl rfl (by kernel_rfl) (fun _ _ _ h=>h) hHeld
 ·intro w' hSw;go_simp<;>with_reducible rfl
 refine wpAnyH_done (by kernel_rfl) ?_ _;go_wp2_with fail;go_ret
 exact ⟨rfl,(HE.o.trans hb3)⟩
theorem rtimes_c (x y:Value) (q r:Rat) (K:Nat) (w:World) (hx:RNumV w x q) (hy:RNumV w y r) (sx:SmQ K q) (sy:SmQ K r) (hK:K≤10000000) :
  Calls Tryz.prog 153 #[x,y] w fun e w'=>∃ v,e=.returned v∧RNumV w' v (q*r)∧Ext w w':=by
 obtain ⟨s1,a1,n1,c1,a1',n1',c1',rfl⟩:=hx.shape;obtain ⟨s2,a2,n2,c2,a2',n2',c2',rfl⟩:=hy.shape;have hvx:=hx;have hvy:=hy;clear hx hy;obtain ⟨W0,hW0,g0,hz0,B_X,B_Y,B_Z⟩:=pro3s w #[.int .i64 s1,.slice a1 n1 c1,.slice a1' n1' c1'] #[.int .i64 s2,.slice a2 n2 c2,.slice a2' n2' c2'] #[.int .i64 0,.slice none 0 0,.slice none 0 0] 43 43 43;have HE:=hid g0;have HB_X:=hid B_X;have HB_Y:=hid B_Y;have HB_Z:=hid B_Z;have ac:=cland HB_X.o.a3 (cland HB_Y.o.a3 (HB_Z.o.a3));have hr0:Ext W0 W0:=Below.refl _ _;clear g0 B_X B_Y B_Z 
 go_enter Tryz.func153,Tryz.ntmps153
 go_upto_region 1 with (fail)
 rw [←hW0];clear hW0;replace hvx:=hvx.ext HE.o;replace hvy:=hvy.ext HE.o;go_wp2_with fail;refine (rmulq_c _ _ q r K _ hvx hvy sx sy hK).mono ?_;rintro e w1 ⟨v1,rfl,k9,g1⟩;obtain ⟨s9,a9,n9,c9,a9',n9',c9',rfl⟩:=k9.shape;obtain ⟨U1,U2,U3⟩:=(HB_Z.o.ext g1).f3;go_wp2_with fail;clear U1 U2 U3;obtain ⟨W2,hW2,g2,q2,B2,hy2,ho2⟩:=rsto3 (HE.o.trans g1) (by omega) (HB_Z.o.ext g1) (by decide) (.int .i64 s9) (.slice a9 n9 c9) (.slice a9' n9' c9');rw [←hW2];clear hW2;replace HB_Z:=hid B2;obtain ⟨J4,J5,J6⟩:=HB_Z.o.c3;refine bodyPost_ret (v:=.agg #[.int .i64 s9,.slice a9 n9 c9,.slice a9' n9' c9']) (by simp [results,Tryz.results153,go_sem,J4,J5,J6]) rfl ⟨_,rfl,(k9.keepR q2),g2⟩
theorem rover_c (x y:Value) (q r:Rat) (K:Nat) (w:World) (hx:RNumV w x q) (hy:RNumV w y r) (sx:SmQ K q) (sy:SmQ K r) (hK:K≤10000000) (hr:r≠0) :
  Calls Tryz.prog 140 #[x,y] w fun e w'=>∃ v,e=.returned v∧RNumV w' v (q/r)∧Ext w w':=by
 obtain ⟨s1,a1,n1,c1,a1',n1',c1',rfl⟩:=hx.shape;obtain ⟨s2,a2,n2,c2,a2',n2',c2',rfl⟩:=hy.shape;have hvx:=hx;have hvy:=hy;clear hx hy;have HR:=hid hr;clear hr;obtain ⟨W0,hW0,g0,hz0,B_X,B_Y,B_Z⟩:=pro3s w #[.int .i64 s1,.slice a1 n1 c1,.slice a1' n1' c1'] #[.int .i64 s2,.slice a2 n2 c2,.slice a2' n2' c2'] #[.int .i64 0,.slice none 0 0,.slice none 0 0] 43 43 43;have HE:=hid g0;have HB_X:=hid B_X;have HB_Y:=hid B_Y;have HB_Z:=hid B_Z;have ac:=cland HB_X.o.a3 (cland HB_Y.o.a3 (HB_Z.o.a3));have hr0:Ext W0 W0:=Below.refl _ _;clear g0 B_X B_Y B_Z 
 go_enter Tryz.func140,Tryz.ntmps140
 go_upto_region 1 with (fail)
 rw [←hW0];clear hW0;replace hvx:=hvx.ext HE.o;replace hvy:=hvy.ext HE.o;go_wp2_with fail;refine (rquoq_c _ _ q r K _ hvx hvy sx sy hK HR.o).mono ?_;rintro e w1 ⟨v1,rfl,k9,g1⟩;obtain ⟨s9,a9,n9,c9,a9',n9',c9',rfl⟩:=k9.shape;have gA:=g1.trans (Ext.alloc w1 (.cells #[.int .i64 s9,.slice a9 n9 c9,.slice a9' n9' c9'] 43))
 go_upto_region 2 with (fail)
 clear gA;have hs1:=g1.size;obtain ⟨W2,hW2,g2,hy2,B_Q⟩:=pro1 w1 #[.int .i64 s9,.slice a9 n9 c9,.slice a9' n9' c9'] 43;rw [←hW2];clear hW2;have hb2:=g1.trans g2;have HB_Q:=hid B_Q;clear B_Q;have he3:=(HE.o.trans hb2);replace ac:=hb2.cl ac;have hr4:Ext W2 W2:=Below.refl _ _;replace ac:=cland ac HB_Q.o.a3;obtain ⟨U5,U6,U7⟩:=(HB_Z.o.ext (g1.trans g2)).f3;go_wp2_with fail;clear U5 U6 U7;obtain ⟨W3,hW3,g3,q3,B3,hy3,ho3⟩:=rsto3 he3 (by omega) (HB_Z.o.ext (g1.trans g2)) (by decide) (.int .i64 s9) (.slice a9 n9 c9) (.slice a9' n9' c9');rw [←hW3];clear hW3;replace HB_Z:=hid B3;obtain ⟨J8,J9,J10⟩:=HB_Z.o.c3;refine bodyPost_ret (v:=.agg #[.int .i64 s9,.slice a9 n9 c9,.slice a9' n9' c9']) (by simp [results,Tryz.results140,go_sem,J8,J9,J10]) rfl ⟨_,rfl,((k9.ext g2).keepR q3),g3⟩
theorem ris_c (E P n:Nat) (w:World) (hF:Fmt E P) (hn:n<340282366920938463463374607431768211456) :
  Calls Tryz.prog 193 #[.agg #[.int .i64 (E:Nat),.int .i64 (P:Nat)],Word n] w fun e w'=>e=.returned (.bool (decide (n<2^(E+P))))∧Ext w w':=by
 obtain ⟨h,l,er⟩:=Word.shape n;have HF:=hid hF;have CW:Hid (∀ w,Calls Tryz.prog 194 #[.agg #[.int .u64 (h:Nat),.int .u64 (l:Nat)]] w fun e w'=>∃ v,e=.returned v∧RNumV w' v ((n:Nat):Rat)∧Ext w w'):=hid fun w=>by
  rw [←er];exact rbits_c n w hn
 obtain ⟨k,hk⟩:∃ k,k=E+P:=⟨_,rfl⟩;have hk2:k≤124:=by rw [hk];exact (fmt_bounds hF).2.2.2.1
 have hlt:2^k≤2^124:=Nat.pow_le_pow_right (by decide) hk2;obtain ⟨N,hN⟩:∃ N,N=2^k:=⟨_,rfl⟩;rw [←hN] at hlt;obtain ⟨b,hb⟩:∃ b,b=decide (n<2^(E+P)):=⟨_,rfl⟩;have HB:=hid hb;rw [←HB.o,er];have hki:(E:Int)+(P:Int)=(k:Int):=by omega
 obtain ⟨cc,hcc⟩:∃ c,c=cmpQ ((n:Nat):Rat) ((N:Nat):Rat):=⟨_,rfl⟩;have hd:decide (cc<0)=b:=by rw [hb,←hk,←hN,decide_eq_decide,hcc,cmpQ_lt,Rat.natCast_lt_natCast]
 have CC:Hid (∀ w u v,RNumV w u ((n:Nat):Rat)→RNumV w v ((N:Nat):Rat)→Calls Tryz.prog 87 #[u,v] w fun e w'=>e=.returned (.int .i64 cc)∧Ext w w'):=hid fun w u v h1 h2=>by
  rw [hcc];exact rcmpq_c u v _ _ 201 w h1 h2 (nat_sm (by omega)) (nat_sm (by omega)) (by decide)
 have CT:Hid (∀ w,Calls Tryz.prog 88 #[.int .i64 ((E:Int)+(P:Int))] w fun e w'=>∃ v,e=.returned v∧RNumV w' v ((N:Nat):Rat)∧Ext w w'):=hid fun w=>by
  have h2:=rtwo_c (k:Int) w (by omega) (by omega);rw [p2_nat,←hN,←hki] at h2;exact h2
 have hE:E≤11:=(fmt_bounds hF).1.2;have hP:P≤113:=(fmt_bounds hF).2.1.2;have hw:IntKind.i64.wrap ((E:Int)+(P:Int))=(E:Int)+(P:Int):=IntWalk.i64_in _ (by omega);clear hF hn er hk hk2 hlt hN hb hki hcc;obtain ⟨W0,hW0,g0,hz0,B_F,B_W⟩:=pro2s w #[.int .i64 (E:Nat),.int .i64 (P:Nat)] #[.int .u64 (h:Nat),.int .u64 (l:Nat)] 23 29;have HE:=hid g0;have HB_F:=hid B_F;have HB_W:=hid B_W;have ac:=cland HB_F.o.a2 (HB_W.o.a2);have hr0:Ext W0 W0:=Below.refl _ _;clear g0 B_F B_W 
 go_enter Tryz.func193,Tryz.ntmps193
 go_upto_region 1 with (fail)
 rw [←hW0];clear hW0;have g1:Ext W0 W0.drew:=Below.drew (Below.refl _ _);refine wp_region_held_drew (S:=Ext W0) (by kernel_rfl) (g1) (fun hHeld => ?_);generalize W0.drew=wD1 at *
 apply wts 0 5 rfl rfl (by kernel_rfl) (fun _ _ _ h=>h) hHeld
 ·intro w' hSw;go_simp<;>with_reducible rfl
 apply wts 2 7 rfl rfl (by kernel_rfl) (fun _ _ _ h=>h) hHeld
 ·intro w' hSw;go_simp<;>with_reducible rfl
 apply wts 3 8 rfl rfl (by kernel_rfl) (fun _ _ _ h=>h) hHeld
 ·intro w' hSw;go_simp<;>with_reducible rfl
 apply wts 4 9 rfl rfl (by kernel_rfl) (fun _ _ _ h=>h) hHeld
 ·intro w' hSw;go_simp<;>with_reducible rfl
 apply wts 5 10 rfl rfl (by kernel_rfl) (fun _ _ _ h=>h) hHeld
 ·intro w' hSw;go_simp<;>with_reducible rfl
 apply wts 6 11 rfl rfl (by kernel_rfl) (fun _ _ _ h=>h) hHeld
 ·intro w' hSw;go_simp<;>with_reducible rfl
 try simp only [Act.put,pA,pB,pC]
 refine wonc 1 6 194 #[.tmp 5] #[29] 43 (by kernel_rfl) rfl rfl (fun KK hKK => ?_);go_simp;refine (CW.o _).mono ?_;rintro e w2 ⟨v2,rfl,k1,g2⟩;have hb1:=g1.trans g2
 try dsimp only
 refine hKK.out _ _ (hb1) (fun hHeld => ?_)
 try simp only [Act.put,pA,pB,pC]
 refine wonc 7 12 88 #[.tmp 11] #[3] 43 (by kernel_rfl) rfl rfl (fun KK hKK => ?_);go_simp;refine (CT.o _).mono ?_;rintro e w3 ⟨v3,rfl,k2,g3⟩;have hb2:=hb1.trans g3
 try dsimp only
 refine hKK.out _ _ (hb2) (fun hHeld => ?_)
 try simp only [Act.put,pA,pB,pC]
 refine wonc 8 13 87 #[.tmp 6,.tmp 12] #[43,43] 3 (by kernel_rfl) rfl rfl (fun KK hKK => ?_);go_simp;refine (CC.o _ _ _ (k1.ext g3) k2).mono ?_;rintro e w4 ⟨rfl,g4⟩;have hb3:=hb2.trans g4
 try dsimp only
 refine hKK.out _ _ (hb3) (fun hHeld => ?_);apply wts 9 14 rfl rfl (by kernel_rfl) (fun _ _ _ h=>h) hHeld
 ·intro w' hSw;go_simp<;>with_reducible rfl
 apply wts 10 4 rfl rfl (by kernel_rfl) (fun _ _ _ h=>h) hHeld
 ·intro w' hSw;go_simp<;>with_reducible rfl
 refine wpAnyH_done (by kernel_rfl) ?_ _;go_wp2_with fail;go_ret
 exact ⟨rfl,(HE.o.trans hb3)⟩
theorem rtop_c (E P:Nat) (w:World) (hF:Fmt E P) :
  Calls Tryz.prog 91 #[.agg #[.int .i64 (E:Nat),.int .i64 (P:Nat)]] w fun e w'=>e=.returned (.int .i64 ((2^E-1:Nat):Int))∧Ext w w':=by
 obtain ⟨b,hb⟩:∃ b,b=bias E:=⟨_,rfl⟩;have CB:Hid (∀ w,Calls Tryz.prog 142 #[.agg #[.int .i64 (E:Nat),.int .i64 (P:Nat)]] w fun e w'=>e=.returned (.int .i64 (b:Nat))∧Ext w w'):=hid fun w=>by rw [hb];exact rbias_c E P w hF
 obtain ⟨t,ht⟩:∃ t,t=2^E-1:=⟨_,rfl⟩;have HT:Hid (2*(b:Int)+1=(t:Int)):=hid (by
  have h1:2^E=2*2^(E-1):=by rw [←Nat.pow_succ'];congr 1;have:=(fmt_bounds hF).1.1;omega
  have h2:0<2^(E-1):=Nat.pow_pos (by decide);rw [ht,hb];unfold bias;omega)
 have hb1:b≤1023:=by rw [hb];exact (fmt_bounds hF).2.2.1
 rw [←ht];clear hF hb ht;obtain ⟨W0,hW0,g0,hz0,B_F⟩:=pro1 w #[.int .i64 (E:Nat),.int .i64 (P:Nat)] 23;have HE:=hid g0;have HB_F:=hid B_F;have ac:=HB_F.o.a2;have hr0:Ext W0 W0:=Below.refl _ _;clear g0 B_F 
 go_enter Tryz.func91,Tryz.ntmps91
 go_upto_region 1 with (fail)
 rw [←hW0];clear hW0;go_wp2_with fail;refine (CB.o _).mono ?_;rintro e w1 ⟨rfl,g1⟩;go_wp2_with fail;go_ret
 exact ⟨(by show Ending.returned (.int .i64 (2*(b:Int)+1))=_;rw [HT.o]),(HE.o.trans g1)⟩
def RNumBox (w:World) (g:Nat) (q:Rat):Prop:=∃ (s:Int) (a:Option Addr) (n c:Nat) (a':Option Addr) (n' c':Nat),Box w g #[.int .i64 s,.slice a n c,.slice a' n' c'] 43∧RNumV w (.agg #[.int .i64 s,.slice a n c,.slice a' n' c']) q
def codeN (E P:Nat) (neg:Bool) (f r:Nat):Nat:=(if neg then 2^(E+P-1) else 0)+(r+f*2^(P-1))
theorem codeN_word {E P:Nat} (neg:Bool) {f r:Nat} (h:r+f*2^(P-1)<2^(E+P-1)):codeN E P neg f r=wordN E P neg r f:=by
 unfold codeN wordN sgb
 cases neg
 ·simp
 ·simp only [if_true]
  have:=Nat.two_pow_add_eq_or_of_lt h 1
  rw [Nat.mul_one] at this
  exact this
theorem rcoded_c (E P:Nat) (neg:Bool) (f r:Nat) (x:Value) (w:World) (hF:Fmt E P) (hx:RNumV w x ((r:Nat):Rat)) (hf:f≤4096) (hr:r<2^115) (hc:codeN E P neg f r<340282366920938463463374607431768211456) :
  Calls Tryz.prog 90 #[.agg #[.int .i64 (E:Nat),.int .i64 (P:Nat)],.bool neg,.int .i64 (f:Nat),x] w fun e w'=>e=.returned (Word (codeN E P neg f r))∧Ext w w':=by
 obtain ⟨s1,a1,n1,c1,a1',n1',c1',rfl⟩:=hx.shape;have hvx:=hx;obtain ⟨hE,hP,_,hEP,_⟩:=fmt_bounds hF;obtain ⟨M,hM⟩:∃ M,M=r+f*2^(P-1):=⟨_,rfl⟩;obtain ⟨G,hG⟩:∃ G,G=f*2^(P-1):=⟨_,rfl⟩;obtain ⟨S,hS⟩:∃ S,S=2^(E+P-1):=⟨_,rfl⟩;have hp1:2^(P-1)≤2^112:=Nat.pow_le_pow_right (by decide) (by omega);have hG1:G≤4096*2^112:=by rw [hG];exact Nat.mul_le_mul hf hp1
 have hS1:S≤2^123:=by rw [hS];exact Nat.pow_le_pow_right (by decide) (by omega)
 have hMG:M=G+r:=by rw [hM,hG];omega
 have SR:Hid (SmQ 201 ((r:Nat):Rat)):=hid (nat_sm (by omega));have SF:Hid (SmQ 201 ((f:Nat):Rat)):=hid (nat_sm (by omega));have SG:Hid (SmQ 201 ((G:Nat):Rat)):=hid (nat_sm (by omega));have SM:Hid (SmQ 201 ((M:Nat):Rat)):=hid (nat_sm (by omega));have SS:Hid (SmQ 201 ((S:Nat):Rat)):=hid (nat_sm (by omega));have hwp:IntKind.i64.wrap ((P:Int)-1)=(P:Int)-1:=IntWalk.i64_in _ (by omega);have hwe:IntKind.i64.wrap ((E:Int)+(P:Int))=(E:Int)+(P:Int):=IntWalk.i64_in _ (by omega);have hwf:IntKind.i64.wrap ((E:Int)+(P:Int)-1)=(E:Int)+(P:Int)-1:=IntWalk.i64_in _ (by omega);have hE2:E≤11:=hE.2;have hP1:2≤P:=hP.1;have hP2:P≤113:=hP.2;have CI:Hid (∀ w,Calls Tryz.prog 132 #[.int .i64 (f:Nat)] w fun e w'=>∃ v,e=.returned v∧RNumV w' v ((f:Nat):Rat)∧Ext w w'):=hid fun w=>rint_i _ f w rfl (by omega);have CS:Hid (∀ w u,RNumV w u ((f:Nat):Rat)→Calls Tryz.prog 141 #[u,.int .i64 ((P:Int)-1)] w fun e w'=>∃ v,e=.returned v∧RNumV w' v ((G:Nat):Rat)∧Ext w w'):=hid fun w u h=>by
  have h2:=rshiftq_c u _ 201 ((P:Int)-1) w h SF.o (by omega) (by omega) (by decide);rw [show (P:Int)-1=((P-1:Nat):Int) by omega,nat_up,←hG] at h2;rw [show (P:Int)-1=((P-1:Nat):Int) by omega];exact h2
 have CA:Hid (∀ w u v,RNumV w u ((G:Nat):Rat)→RNumV w v ((r:Nat):Rat)→Calls Tryz.prog 89 #[u,v] w fun e w'=>∃ v,e=.returned v∧RNumV w' v ((M:Nat):Rat)∧Ext w w'):=hid fun w u v h k=>by
  have h2:=raddq_c u v _ _ 201 w h k SG.o SR.o (by decide);rw [nat_add,←hMG] at h2;exact h2
 have CT:Hid (∀ w,Calls Tryz.prog 88 #[.int .i64 ((E:Int)+(P:Int)-1)] w fun e w'=>∃ v,e=.returned v∧RNumV w' v ((S:Nat):Rat)∧Ext w w'):=hid fun w=>by
  have h2:=rtwo_c ((E+P-1:Nat):Int) w (by omega) (by omega);rw [p2_nat,←hS] at h2;rw [show (E:Int)+(P:Int)-1=((E+P-1:Nat):Int) by omega];exact h2
 have CB:Hid (∀ w u v,RNumV w u ((M:Nat):Rat)→RNumV w v ((S:Nat):Rat)→Calls Tryz.prog 89 #[u,v] w fun e w'=>∃ v,e=.returned v∧RNumV w' v ((M+S:Nat):Rat)∧Ext w w'):=hid fun w u v h k=>by
  have h2:=raddq_c u v _ _ 201 w h k SM.o SS.o (by decide);rw [nat_add] at h2;exact h2
 have HC:Hid (codeN E P neg f r=(if neg then S else 0)+M):=hid (by unfold codeN;rw [hM,hS]);have HCB:=hid hc;rw [HC.o] at HCB;obtain ⟨c,hcc⟩:∃ c,c=codeN E P neg f r:=⟨_,rfl⟩;rw [←hcc];rw [←hcc] at HC;clear hF hx hf hr hc hM hG hS hp1 hG1 hS1 hMG hE hP hEP hcc;obtain ⟨W0,hW0,g0,hz0,B_F,B_X,B_Z⟩:=pro3s w #[.int .i64 (E:Nat),.int .i64 (P:Nat)] #[.int .i64 s1,.slice a1 n1 c1,.slice a1' n1' c1'] #[.int .u64 0,.int .u64 0] 23 43 29;have HE:=hid g0;have HB_F:=hid B_F;have HB_X:=hid B_X;have HB_Z:=hid B_Z;have ac:=cland HB_F.o.a2 (cland HB_X.o.a3 (HB_Z.o.a2));have hr0:Ext W0 W0:=Below.refl _ _;clear g0 B_F B_X B_Z 
 go_enter Tryz.func90,Tryz.ntmps90
 go_upto_region 1 with (fail)
 rw [←hW0];clear hW0;replace hvx:=hvx.ext HE.o
 go_cut [9] (fun sv wx=>∃ g:Nat,sv=.pointer (some ⟨g,0,none⟩)∧Hid (Ext W0 wx)∧W0.heap.size≤g∧RNumBox wx g (((M:Nat):Rat)))
 case first =>
  have g1:Ext W0 W0.drew:=Below.drew (Below.refl _ _);refine wp_region_held_drew (S:=Ext W0) (by kernel_rfl) (g1) (fun hHeld => ?_);generalize W0.drew=wD1 at *
  apply wts 0 10 rfl rfl (by kernel_rfl) (fun _ _ _ h=>h) hHeld
  ·intro w' hSw;go_simp<;>with_reducible rfl
  apply wts 2 12 rfl rfl (by kernel_rfl) (fun _ _ _ h=>h) hHeld
  ·intro w' hSw;go_simp<;>with_reducible rfl
  apply wts 3 13 rfl rfl (by kernel_rfl) (fun _ _ _ h=>h) hHeld
  ·intro w' hSw;go_simp<;>with_reducible rfl
  apply wts 4 14 rfl rfl (by kernel_rfl) (fun _ _ _ h=>h) hHeld
  ·intro w' hSw;go_simp<;>with_reducible rfl
  apply wts 6 16 rfl rfl (by kernel_rfl) (fun _ _ _ h=>h) hHeld
  ·intro w' hSw;go_simp<;>with_reducible rfl
  try simp only [Act.put,pA,pB,pC]
  refine wpAnyH_ready (rs:=[1,8]) (by kernel_rfl) (by simp) ?_;refine consb 1 { dst:=some 11,op:=Op.call { callee:=Callee.value (Operand.func 132),args:=#[Operand.tmp 10],argTypes:=#[2] },type:=43,pos := "",after:=#[],guard:=none } rfl rfl (fun KK hKK => ?_) (consb 8 { dst:=some 9,op:=Op.alloc 43,type:=0,pos := "",after:=#[],guard:=none } rfl rfl (fun KK hKK => ?_) (AllReadyH.nil))
  ·go_simp;refine (CI.o _).mono ?_;rintro e w2 ⟨v2,rfl,k1,g2⟩;have hb1:=g1.trans g2
   try dsimp only
   refine hKK.out _ _ (hb1) (fun hHeld => ?_)
   try simp only [Act.put,pA,pB,pC]
   refine wpAnyH_ready (rs:=[5,8]) (by kernel_rfl) (by simp) ?_;refine consb 5 { dst:=some 15,op:=Op.call { callee:=Callee.value (Operand.func 141),args:=#[Operand.tmp 11,Operand.tmp 14],argTypes:=#[43,3] },type:=43,pos := "",after:=#[],guard:=none } rfl rfl (fun KK hKK => ?_) (consb 8 { dst:=some 9,op:=Op.alloc 43,type:=0,pos := "",after:=#[],guard:=none } rfl rfl (fun KK hKK => ?_) (AllReadyH.nil))
   ·go_simp;refine (CS.o _ _ k1).mono ?_;rintro e w3 ⟨v3,rfl,k2,g3⟩;have hb2:=hb1.trans g3
    try dsimp only
    refine hKK.out _ _ (hb2) (fun hHeld => ?_)
    try simp only [Act.put,pA,pB,pC]
    refine wpAnyH_ready (rs:=[7,8]) (by kernel_rfl) (by simp) ?_;refine consb 7 { dst:=some 17,op:=Op.call { callee:=Callee.value (Operand.func 89),args:=#[Operand.tmp 15,Operand.tmp 16],argTypes:=#[43,43] },type:=43,pos := "",after:=#[],guard:=none } rfl rfl (fun KK hKK => ?_) (consb 8 { dst:=some 9,op:=Op.alloc 43,type:=0,pos := "",after:=#[],guard:=none } rfl rfl (fun KK hKK => ?_) (AllReadyH.nil))
    ·go_simp;refine (CA.o _ _ _ k2 (hvx.ext hb2)).mono ?_;rintro e w4 ⟨v4,rfl,k9,g4⟩;have hb3:=hb2.trans g4;obtain ⟨s9,a9,n9,c9,a9',n9',c9',rfl⟩:=k9.shape
     try dsimp only
     refine hKK.out _ _ (hb3) (fun hHeld => ?_)
     try simp only [Act.put,pA,pB,pC]
     refine won 8 { dst:=some 9,op:=Op.alloc 43,type:=0,pos := "",after:=#[],guard:=none } (by kernel_rfl) rfl rfl (fun KK hKK => ?_);go_simp;have hs4:=(g1.trans (g2.trans (g3.trans g4))).size;obtain ⟨W5,hW5,g5,hy5,B_N⟩:=pro1 w4 #[.int .i64 0,.slice none 0 0,.slice none 0 0] 43;rw [←hW5];clear hW5;have hleN:=hb3.size;have hb5:=hb3.trans g5;have HB_N:=hid B_N;clear B_N;have hzN:=hb5.size
     try dsimp only
     refine hKK.out _ _ (hb5) (fun hHeld => ?_)
     try simp only [Act.put,pA,pB,pC]
     refine wons 9 43 9 17 (by kernel_rfl) rfl rfl (fun KK hKK => ?_);obtain ⟨J9,J10,J11⟩:=HB_N.o.c3;obtain ⟨U6,U7,U8⟩:=HB_N.o.f3;go_simp;clear U6 U7 U8 J9 J10 J11;obtain ⟨W6,hW6,g6,q6,B6,hy6,ho6⟩:=rsto3 hb5 (by omega) HB_N.o (by decide) (.int .i64 s9) (.slice a9 n9 c9) (.slice a9' n9' c9');rw [←hW6];clear hW6;replace HB_N:=hid B6
     try dsimp only
     refine hKK.out _ _ (g6) (fun hHeld => ?_);refine wpAnyH_done (by kernel_rfl) ?_ _;go_wp2_with fail;go_meet
     exact ⟨_,rfl,hid g6,hleN,_,_,_,_,_,_,_,HB_N.o,((k9.ext g5).keepR q6)⟩
    ·go_simp;have hs3:=(g1.trans (g2.trans g3)).size;obtain ⟨W4,hW4,g4,hy4,B_N⟩:=pro1 w3 #[.int .i64 0,.slice none 0 0,.slice none 0 0] 43;rw [←hW4];clear hW4;have hleN:=hb2.size;have hb4:=hb2.trans g4;have HB_N:=hid B_N;clear B_N;have hzN:=hb4.size
     try dsimp only
     refine hKK.out _ _ (hb4) (fun hHeld => ?_)
     try simp only [Act.put,pA,pB,pC]
     refine wonc 7 17 89 #[.tmp 15,.tmp 16] #[43,43] 43 (by kernel_rfl) rfl rfl (fun KK hKK => ?_);go_simp;refine (CA.o _ _ _ (k2.ext g4) (hvx.ext hb4)).mono ?_;rintro e w5 ⟨v5,rfl,k9,g5⟩;have hb5:=hb4.trans g5;obtain ⟨s9,a9,n9,c9,a9',n9',c9',rfl⟩:=k9.shape
     try dsimp only
     refine hKK.out _ _ (hb5) (fun hHeld => ?_)
     try simp only [Act.put,pA,pB,pC]
     refine wons 9 43 9 17 (by kernel_rfl) rfl rfl (fun KK hKK => ?_);obtain ⟨J9,J10,J11⟩:=(HB_N.o.ext g5).c3;obtain ⟨U6,U7,U8⟩:=(HB_N.o.ext g5).f3;go_simp;clear U6 U7 U8 J9 J10 J11;obtain ⟨W6,hW6,g6,q6,B6,hy6,ho6⟩:=rsto3 hb5 (by omega) (HB_N.o.ext g5) (by decide) (.int .i64 s9) (.slice a9 n9 c9) (.slice a9' n9' c9');rw [←hW6];clear hW6;replace HB_N:=hid B6
     try dsimp only
     refine hKK.out _ _ (g6) (fun hHeld => ?_);refine wpAnyH_done (by kernel_rfl) ?_ _;go_wp2_with fail;go_meet
     exact ⟨_,rfl,hid g6,hleN,_,_,_,_,_,_,_,HB_N.o,(k9.keepR q6)⟩
   ·go_simp;have hs2:=(g1.trans g2).size;obtain ⟨W3,hW3,g3,hy3,B_N⟩:=pro1 w2 #[.int .i64 0,.slice none 0 0,.slice none 0 0] 43;rw [←hW3];clear hW3;have hleN:=hb1.size;have hb3:=hb1.trans g3;have HB_N:=hid B_N;clear B_N;have hzN:=hb3.size
    try dsimp only
    refine hKK.out _ _ (hb3) (fun hHeld => ?_)
    try simp only [Act.put,pA,pB,pC]
    refine wonc 5 15 141 #[.tmp 11,.tmp 14] #[43,3] 43 (by kernel_rfl) rfl rfl (fun KK hKK => ?_);go_simp;refine (CS.o _ _ (k1.ext g3)).mono ?_;rintro e w4 ⟨v4,rfl,k2,g4⟩;have hb4:=hb3.trans g4
    try dsimp only
    refine hKK.out _ _ (hb4) (fun hHeld => ?_)
    try simp only [Act.put,pA,pB,pC]
    refine wonc 7 17 89 #[.tmp 15,.tmp 16] #[43,43] 43 (by kernel_rfl) rfl rfl (fun KK hKK => ?_);go_simp;refine (CA.o _ _ _ k2 (hvx.ext hb4)).mono ?_;rintro e w5 ⟨v5,rfl,k9,g5⟩;have hb5:=hb4.trans g5;obtain ⟨s9,a9,n9,c9,a9',n9',c9',rfl⟩:=k9.shape
    try dsimp only
    refine hKK.out _ _ (hb5) (fun hHeld => ?_)
    try simp only [Act.put,pA,pB,pC]
    refine wons 9 43 9 17 (by kernel_rfl) rfl rfl (fun KK hKK => ?_);obtain ⟨J9,J10,J11⟩:=(HB_N.o.ext (g4.trans g5)).c3;obtain ⟨U6,U7,U8⟩:=(HB_N.o.ext (g4.trans g5)).f3;go_simp;clear U6 U7 U8 J9 J10 J11;obtain ⟨W6,hW6,g6,q6,B6,hy6,ho6⟩:=rsto3 hb5 (by omega) (HB_N.o.ext (g4.trans g5)) (by decide) (.int .i64 s9) (.slice a9 n9 c9) (.slice a9' n9' c9');rw [←hW6];clear hW6;replace HB_N:=hid B6
    try dsimp only
    refine hKK.out _ _ (g6) (fun hHeld => ?_);refine wpAnyH_done (by kernel_rfl) ?_ _;go_wp2_with fail;go_meet
    exact ⟨_,rfl,hid g6,hleN,_,_,_,_,_,_,_,HB_N.o,(k9.keepR q6)⟩
  ·go_simp;have hs1:=g1.size;obtain ⟨W2,hW2,g2,hy2,B_N⟩:=pro1 wD1 #[.int .i64 0,.slice none 0 0,.slice none 0 0] 43;rw [←hW2];clear hW2;have hleN:=g1.size;have hb2:=g1.trans g2;have HB_N:=hid B_N;clear B_N;have hzN:=hb2.size
   try dsimp only
   refine hKK.out _ _ (hb2) (fun hHeld => ?_)
   try simp only [Act.put,pA,pB,pC]
   refine wonc 1 11 132 #[.tmp 10] #[2] 43 (by kernel_rfl) rfl rfl (fun KK hKK => ?_);go_simp;refine (CI.o _).mono ?_;rintro e w3 ⟨v3,rfl,k1,g3⟩;have hb3:=hb2.trans g3
   try dsimp only
   refine hKK.out _ _ (hb3) (fun hHeld => ?_)
   try simp only [Act.put,pA,pB,pC]
   refine wonc 5 15 141 #[.tmp 11,.tmp 14] #[43,3] 43 (by kernel_rfl) rfl rfl (fun KK hKK => ?_);go_simp;refine (CS.o _ _ k1).mono ?_;rintro e w4 ⟨v4,rfl,k2,g4⟩;have hb4:=hb3.trans g4
   try dsimp only
   refine hKK.out _ _ (hb4) (fun hHeld => ?_)
   try simp only [Act.put,pA,pB,pC]
   refine wonc 7 17 89 #[.tmp 15,.tmp 16] #[43,43] 43 (by kernel_rfl) rfl rfl (fun KK hKK => ?_);go_simp;refine (CA.o _ _ _ k2 (hvx.ext hb4)).mono ?_;rintro e w5 ⟨v5,rfl,k9,g5⟩;have hb5:=hb4.trans g5;obtain ⟨s9,a9,n9,c9,a9',n9',c9',rfl⟩:=k9.shape
   try dsimp only
   refine hKK.out _ _ (hb5) (fun hHeld => ?_)
   try simp only [Act.put,pA,pB,pC]
   refine wons 9 43 9 17 (by kernel_rfl) rfl rfl (fun KK hKK => ?_);obtain ⟨J9,J10,J11⟩:=(HB_N.o.ext (g3.trans (g4.trans g5))).c3;obtain ⟨U6,U7,U8⟩:=(HB_N.o.ext (g3.trans (g4.trans g5))).f3;go_simp;clear U6 U7 U8 J9 J10 J11;obtain ⟨W6,hW6,g6,q6,B6,hy6,ho6⟩:=rsto3 hb5 (by omega) (HB_N.o.ext (g3.trans (g4.trans g5))) (by decide) (.int .i64 s9) (.slice a9 n9 c9) (.slice a9' n9' c9');rw [←hW6];clear hW6;replace HB_N:=hid B6
   try dsimp only
   refine hKK.out _ _ (g6) (fun hHeld => ?_);refine wpAnyH_done (by kernel_rfl) ?_ _;go_wp2_with fail;go_meet
   exact ⟨_,rfl,hid g6,hleN,_,_,_,_,_,_,_,HB_N.o,(k9.keepR q6)⟩
 case rest =>
  obtain ⟨gN,rfl,gx7,hg7,s7,a7,n7,c7,a7',n7',c7',B7,kv7⟩:=hcut;obtain ⟨wc7,rfl⟩:∃ x,x=wc:=⟨_,rfl⟩;have HB_N:=hid B7;clear B7;have he13:=(HE.o.trans gx7.o);replace ac:=gx7.o.cl ac;have hr14:Ext wc7 wc7:=Below.refl _ _;replace ac:=cland ac HB_N.o.a3
  cases neg
  ·have HR:Hid (c=M):=hid (by rw [HC.o];simp);go_wp2_with fail;refine (rpacked_c _ (M) _ kv7 (by have:=HCB.o;simp at this;omega)).mono ?_;rintro e w8 ⟨rfl,g8⟩;obtain ⟨r0,r1,er⟩:=Word.shape (M);have ER:=hid er;clear er;rw [ER.o];obtain ⟨U15,U16⟩:=((HB_Z.o.ext gx7.o).ext g8).f2;go_wp2_with fail;clear U15 U16;obtain ⟨W9,hW9,g9,q9,B9,hy9,ho9⟩:=rsto2 (he13.trans g8) (by omega) ((HB_Z.o.ext gx7.o).ext g8) (by decide) (.int .u64 (r0:Nat)) (.int .u64 (r1:Nat));rw [←hW9];clear hW9;replace HB_Z:=hid B9;obtain ⟨J17,J18⟩:=HB_Z.o.c2;refine bodyPost_ret (v:=.agg #[.int .u64 (r0:Nat),.int .u64 (r1:Nat)]) (by simp [results,Tryz.results90,go_sem,J17,J18]) rfl ⟨by rw [HR.o,ER.o],g9⟩
  ·go_upto_region 3 with (fail)
   have kc:=(Box.bt (z:=gN) (HB_F.o.ext gx7.o) (by omega) Box.n2);have g8:Ext wc7 wc7.drew:=Below.drew (Below.refl _ _);refine wp_region_held_drew (S:=But wc7 (gN)) (by kernel_rfl) (g8.but) (fun hHeld => ?_);generalize wc7.drew=wD8 at *
   apply wts 1 20 rfl rfl (by kernel_rfl) (fun _ _ _ h=>h) hHeld
   ·intro w' hSw;go_simp<;>with_reducible rfl
   apply wts 2 21 rfl rfl (by kernel_rfl) (fun _ _ _ h=>h) hHeld
   ·intro w' hSw;go_simp<;>with_reducible rfl
   apply wts 3 22 rfl rfl (by kernel_rfl) (fun _ _ _ h=>h) hHeld
   ·intro w' hSw;go_simp<;>with_reducible rfl
   apply wts 4 23 rfl rfl (by kernel_rfl) (fun _ _ _ h=>h) hHeld
   ·intro w' hSw;go_simp<;>with_reducible rfl
   apply wts 5 24 rfl rfl (by kernel_rfl) (fun _ _ _ h=>h) hHeld
   ·intro w' hSw;go_simp<;>with_reducible rfl
   apply wts 6 25 rfl rfl (by kernel_rfl) (fun _ _ _ h=>h) hHeld
   ·intro w' hSw;go_simp<;>with_reducible rfl
   try simp only [Act.put,pA,pB,pC]
   refine wpAnyH_ready (rs:=[0,7]) (by kernel_rfl) (by simp) ?_;refine consb 0 { dst:=some 19,op:=Op.load 43 (Operand.tmp 9),type:=43,pos := "",after:=#[],guard:=none } rfl rfl (fun KK hKK => ?_) (consb 7 { dst:=some 26,op:=Op.call { callee:=Callee.value (Operand.func 88),args:=#[Operand.tmp 25],argTypes:=#[3] },type:=43,pos := "",after:=#[],guard:=none } rfl rfl (fun KK hKK => ?_) (AllReadyH.nil))
   ·obtain ⟨J15,J16,J17⟩:=(HB_N.o.ext g8).c3;go_simp;clear J15 J16 J17
    try dsimp only
    refine hKK.out _ _ (g8.but) (fun hHeld => ?_)
    try simp only [Act.put,pA,pB,pC]
    refine wonc 7 26 88 #[.tmp 25] #[3] 43 (by kernel_rfl) rfl rfl (fun KK hKK => ?_);go_simp;refine (CT.o _).mono ?_;rintro e w9 ⟨v9,rfl,k1,g9⟩;have hb18:=g8.trans g9
    try dsimp only
    refine hKK.out _ _ (hb18.but) (fun hHeld => ?_)
    try simp only [Act.put,pA,pB,pC]
    refine wonc 8 27 89 #[.tmp 19,.tmp 26] #[43,43] 43 (by kernel_rfl) rfl rfl (fun KK hKK => ?_);go_simp;refine (CB.o _ _ _ (kv7.ext hb18) k1).mono ?_;rintro e w10 ⟨v10,rfl,k8,g10⟩;have hb19:=hb18.trans g10;obtain ⟨s8,a8,n8,c8,a8',n8',c8',rfl⟩:=k8.shape
    try dsimp only
    refine hKK.out _ _ (hb19.but) (fun hHeld => ?_)
    try simp only [Act.put,pA,pB,pC]
    refine wons 9 43 9 27 (by kernel_rfl) rfl rfl (fun KK hKK => ?_);obtain ⟨U20,U21,U22⟩:=(HB_N.o.ext hb19).f3;go_simp;clear U20 U21 U22;obtain ⟨W11,hW11,g11,q11,B11,hy11,ho11⟩:=rsto3 (he13.trans hb19) (by omega) (HB_N.o.ext hb19) (by decide) (.int .i64 s8) (.slice a8 n8 c8) (.slice a8' n8' c8');rw [←hW11];clear hW11;replace HB_N:=hid B11;have hq11:But wc7 (gN) W11:=But.sto (hb19.but) ho11
    try dsimp only
    refine hKK.out _ _ (hq11) (fun hHeld => ?_);refine wpAnyH_done (by kernel_rfl) ?_ _;have HR:Hid (c=M+S):=hid (by rw [HC.o];simp;omega);have ac:=cland (ho11 _ _ _ (by omega) (HB_F.o.ext (gx7.o.trans (g8.trans (g9.trans g10))))).a2 (cland (ho11 _ _ _ (by omega) (HB_X.o.ext (gx7.o.trans (g8.trans (g9.trans g10))))).a3 (cland (ho11 _ _ _ (by omega) (HB_Z.o.ext (gx7.o.trans (g8.trans (g9.trans g10))))).a2 (HB_N.o.a3)));have hr23:Ext W11 W11:=Below.refl _ _;go_wp2_with fail;refine (rpacked_c _ (M+S) _ (k8.keepR q11) (by have:=HCB.o;simp at this;omega)).mono ?_;rintro e w12 ⟨rfl,g12⟩;obtain ⟨r0,r1,er⟩:=Word.shape (M+S);have ER:=hid er;clear er;rw [ER.o];obtain ⟨U24,U25⟩:=((ho11 _ _ _ (by omega) (HB_Z.o.ext (gx7.o.trans (g8.trans (g9.trans g10))))).ext g12).f2;go_wp2_with fail;clear U24 U25;obtain ⟨W13,hW13,g13,q13,B13,hy13,ho13⟩:=rsto2 (g11.trans g12) (by omega) ((ho11 _ _ _ (by omega) (HB_Z.o.ext (gx7.o.trans (g8.trans (g9.trans g10))))).ext g12) (by decide) (.int .u64 (r0:Nat)) (.int .u64 (r1:Nat));rw [←hW13];clear hW13;replace HB_Z:=hid B13;obtain ⟨J26,J27⟩:=HB_Z.o.c2;refine bodyPost_ret (v:=.agg #[.int .u64 (r0:Nat),.int .u64 (r1:Nat)]) (by simp [results,Tryz.results90,go_sem,J26,J27]) rfl ⟨by rw [HR.o,ER.o],g13⟩
   ·go_simp;refine (CT.o _).mono ?_;rintro e w9 ⟨v9,rfl,k1,g9⟩;have hb15:=g8.trans g9
    try dsimp only
    refine hKK.out _ _ (hb15.but) (fun hHeld => ?_)
    try simp only [Act.put,pA,pB,pC]
    refine won 0 { dst:=some 19,op:=Op.load 43 (Operand.tmp 9),type:=43,pos := "",after:=#[],guard:=none } (by kernel_rfl) rfl rfl (fun KK hKK => ?_);obtain ⟨J16,J17,J18⟩:=(HB_N.o.ext hb15).c3;go_simp;clear J16 J17 J18
    try dsimp only
    refine hKK.out _ _ (hb15.but) (fun hHeld => ?_)
    try simp only [Act.put,pA,pB,pC]
    refine wonc 8 27 89 #[.tmp 19,.tmp 26] #[43,43] 43 (by kernel_rfl) rfl rfl (fun KK hKK => ?_);go_simp;refine (CB.o _ _ _ (kv7.ext hb15) k1).mono ?_;rintro e w10 ⟨v10,rfl,k8,g10⟩;have hb19:=hb15.trans g10;obtain ⟨s8,a8,n8,c8,a8',n8',c8',rfl⟩:=k8.shape
    try dsimp only
    refine hKK.out _ _ (hb19.but) (fun hHeld => ?_)
    try simp only [Act.put,pA,pB,pC]
    refine wons 9 43 9 27 (by kernel_rfl) rfl rfl (fun KK hKK => ?_);obtain ⟨U20,U21,U22⟩:=(HB_N.o.ext hb19).f3;go_simp;clear U20 U21 U22;obtain ⟨W11,hW11,g11,q11,B11,hy11,ho11⟩:=rsto3 (he13.trans hb19) (by omega) (HB_N.o.ext hb19) (by decide) (.int .i64 s8) (.slice a8 n8 c8) (.slice a8' n8' c8');rw [←hW11];clear hW11;replace HB_N:=hid B11;have hq11:But wc7 (gN) W11:=But.sto (hb19.but) ho11
    try dsimp only
    refine hKK.out _ _ (hq11) (fun hHeld => ?_);refine wpAnyH_done (by kernel_rfl) ?_ _;have HR:Hid (c=M+S):=hid (by rw [HC.o];simp;omega);have ac:=cland (ho11 _ _ _ (by omega) (HB_F.o.ext (gx7.o.trans (g8.trans (g9.trans g10))))).a2 (cland (ho11 _ _ _ (by omega) (HB_X.o.ext (gx7.o.trans (g8.trans (g9.trans g10))))).a3 (cland (ho11 _ _ _ (by omega) (HB_Z.o.ext (gx7.o.trans (g8.trans (g9.trans g10))))).a2 (HB_N.o.a3)));have hr23:Ext W11 W11:=Below.refl _ _;go_wp2_with fail;refine (rpacked_c _ (M+S) _ (k8.keepR q11) (by have:=HCB.o;simp at this;omega)).mono ?_;rintro e w12 ⟨rfl,g12⟩;obtain ⟨r0,r1,er⟩:=Word.shape (M+S);have ER:=hid er;clear er;rw [ER.o];obtain ⟨U24,U25⟩:=((ho11 _ _ _ (by omega) (HB_Z.o.ext (gx7.o.trans (g8.trans (g9.trans g10))))).ext g12).f2;go_wp2_with fail;clear U24 U25;obtain ⟨W13,hW13,g13,q13,B13,hy13,ho13⟩:=rsto2 (g11.trans g12) (by omega) ((ho11 _ _ _ (by omega) (HB_Z.o.ext (gx7.o.trans (g8.trans (g9.trans g10))))).ext g12) (by decide) (.int .u64 (r0:Nat)) (.int .u64 (r1:Nat));rw [←hW13];clear hW13;replace HB_Z:=hid B13;obtain ⟨J26,J27⟩:=HB_Z.o.c2;refine bodyPost_ret (v:=.agg #[.int .u64 (r0:Nat),.int .u64 (r1:Nat)]) (by simp [results,Tryz.results90,go_sem,J26,J27]) rfl ⟨by rw [HR.o,ER.o],g13⟩
theorem codeN_lt {E P:Nat} (hE:1≤E) (hP:1≤P) (neg:Bool) {f r:Nat} (hf:f≤2^E-1) (hr:r<2^(P-1)):r+f*2^(P-1)<2^(E+P-1)∧codeN E P neg f r<2^(E+P):=by
 have h0:0<2^E:=Nat.pow_pos (by decide);have h1:2^(E+P-1)=2^E*2^(P-1):=by rw [←Nat.pow_add];congr 1;omega
 have h2:(f+1)*2^(P-1)≤2^E*2^(P-1):=Nat.mul_le_mul_right _ (by omega);rw [Nat.add_mul] at h2;have h3:2^(E+P)=2*2^(E+P-1):=by rw [←Nat.pow_succ'];congr 1;omega
 refine ⟨by omega,?_⟩;unfold codeN
 cases neg
 ·simp;omega
 ·simp;omega
theorem fmt_pow {E P:Nat} (hF:Fmt E P):2^(E+P)≤2^124:=Nat.pow_le_pow_right (by decide) (fmt_bounds hF).2.2.2.1
theorem codeN_small {E P:Nat} (hF:Fmt E P) (neg:Bool) {f r:Nat} (hf:f≤2^E-1) (hr:r<2^(P-1)):codeN E P neg f r<340282366920938463463374607431768211456:=by
 have h:=(codeN_lt (E:=E) (P:=P) (by have:=(fmt_bounds hF).1.1;omega) (by have:=(fmt_bounds hF).2.1.1;omega) neg hf hr).2
 have:=fmt_pow hF
 omega
theorem top_le {E P:Nat} (hF:Fmt E P):2^E-1≤4096:=by
 have:2^E≤2^11:=Nat.pow_le_pow_right (by decide) (fmt_bounds hF).1.2
 omega
theorem codeN_inf {E P:Nat} (hF:Fmt E P) (neg:Bool):codeN E P neg (2^E-1) 0=infw E P neg:=by
 have h:=(codeN_lt (E:=E) (P:=P) (by have:=(fmt_bounds hF).1.1;omega) (by have:=(fmt_bounds hF).2.1.1;omega) neg (Nat.le_refl (2^E-1)) (Nat.pow_pos (n:=P-1) (by decide:0<2))).1;rw [codeN_word neg h];unfold wordN infw;rw [Nat.zero_add]
theorem codeN_nan {E P:Nat} (hF:Fmt E P):codeN E P false (2^E-1) (2^(P-2))=nanw E P:=by
 obtain ⟨h1,h2,_,_,_⟩:=fmt_bounds hF;have hlt:2^(P-2)<2^(P-1):=Nat.pow_lt_pow_right (by decide) (by omega);unfold codeN nanw infw sgb;simp only [Bool.false_eq_true,if_false,Nat.zero_or,Nat.zero_add];have h3:=Nat.two_pow_add_eq_or_of_lt hlt (2^E-1);rw [Nat.mul_comm (2^E-1),Nat.add_comm,h3]
theorem rinfinite_c (E P:Nat) (neg:Bool) (w:World) (hF:Fmt E P) :
  Calls Tryz.prog 84 #[.agg #[.int .i64 (E:Nat),.int .i64 (P:Nat)],.bool neg] w fun e w'=>e=.returned (Word (infw E P neg))∧Ext w w':=by
 obtain ⟨T,hT⟩:∃ T,T=2^E-1:=⟨_,rfl⟩;have CT:Hid (∀ w,Calls Tryz.prog 91 #[.agg #[.int .i64 (E:Nat),.int .i64 (P:Nat)]] w fun e w'=>e=.returned (.int .i64 (T:Nat))∧Ext w w'):=hid fun w=>by rw [hT];exact rtop_c E P w hF
 have HF:=hid hF;have CC:Hid (∀ w x,RNumV w x ((0:Nat):Rat)→Calls Tryz.prog 90 #[.agg #[.int .i64 (E:Nat),.int .i64 (P:Nat)],.bool neg,.int .i64 (T:Nat),x] w fun e w'=>e=.returned (Word (infw E P neg))∧Ext w w'):=hid fun w x h=>by
  have h2:=rcoded_c E P neg T 0 x w hF h (by rw [hT];exact top_le hF) (by decide) (by rw [hT];exact codeN_small hF neg (Nat.le_refl _) (Nat.pow_pos (by decide)));rw [hT,codeN_inf hF] at h2;rw [hT];exact h2
 clear hF hT;obtain ⟨W0,hW0,g0,hz0,B_F,B_Z⟩:=pro2s w #[.int .i64 (E:Nat),.int .i64 (P:Nat)] #[.int .u64 0,.int .u64 0] 23 29;have HE:=hid g0;have HB_F:=hid B_F;have HB_Z:=hid B_Z;have ac:=cland HB_F.o.a2 (HB_Z.o.a2);have hr0:Ext W0 W0:=Below.refl _ _;clear g0 B_F B_Z 
 go_enter Tryz.func84,Tryz.ntmps84
 go_upto_region 1 with (fail)
 rw [←hW0];clear hW0;have kc:=(Box.bt (z:=w.heap.size+1) HB_F.o (by omega) Box.n2);have g1:Ext W0 W0.drew:=Below.drew (Below.refl _ _);refine wp_region_held_drew (S:=But W0 (w.heap.size+1)) (by kernel_rfl) (g1.but) (fun hHeld => ?_);generalize W0.drew=wD1 at *
 apply wts 0 5 rfl rfl (by kernel_rfl) (fun _ _ _ h=>h) hHeld
 ·intro w' hSw;go_simp<;>with_reducible rfl
 apply wts 1 6 rfl rfl (by kernel_rfl) (fun _ _ _ h=>h) hHeld
 ·intro w' hSw;go_simp<;>with_reducible rfl
 apply wts 2 7 rfl rfl (by kernel_rfl) (fun _ _ _ h=>h) hHeld
 ·intro w' hSw;go_simp<;>with_reducible rfl
 apply wts 4 9 rfl rfl (by kernel_rfl) (fun _ _ _ h=>h) hHeld
 ·intro w' hSw;go_simp<;>with_reducible rfl
 try simp only [Act.put,pA,pB,pC]
 refine wonc 3 8 91 #[.tmp 7] #[23] 3 (by kernel_rfl) rfl rfl (fun KK hKK => ?_);go_simp;refine (CT.o _).mono ?_;rintro e w2 ⟨rfl,g2⟩;have hb1:=g1.trans g2
 try dsimp only
 refine hKK.out _ _ (hb1.but) (fun hHeld => ?_)
 try simp only [Act.put,pA,pB,pC]
 refine wonc 5 10 90 #[.tmp 5,.tmp 6,.tmp 8,.tmp 9] #[23,4,3,43] 29 (by kernel_rfl) rfl rfl (fun KK hKK => ?_);go_simp;refine (CC.o _ _ (RNumV.zero _)).mono ?_;rintro e w3 ⟨rfl,g3⟩;have hb2:=hb1.trans g3;obtain ⟨r0,r1,er⟩:=Word.shape (infw E P neg);have ER:=hid er;clear er;rw [ER.o]
 try dsimp only
 refine hKK.out _ _ (hb2.but) (fun hHeld => ?_)
 try simp only [Act.put,pA,pB,pC]
 refine wons 6 29 4 10 (by kernel_rfl) rfl rfl (fun KK hKK => ?_);obtain ⟨U3,U4⟩:=(HB_Z.o.ext hb2).f2;go_simp;clear U3 U4;obtain ⟨W4,hW4,g4,q4,B4,hy4,ho4⟩:=rsto2 (HE.o.trans hb2) (by omega) (HB_Z.o.ext hb2) (by decide) (.int .u64 (r0:Nat)) (.int .u64 (r1:Nat));rw [←hW4];clear hW4;replace HB_Z:=hid B4;have hq4:But W0 (w.heap.size+1) W4:=But.sto (hb2.but) ho4
 try dsimp only
 refine hKK.out _ _ (hq4) (fun hHeld => ?_);refine wpAnyH_done (by kernel_rfl) ?_ _;have ac:=cland (ho4 _ _ _ (by omega) (HB_F.o.ext (g1.trans (g2.trans g3)))).a2 (HB_Z.o.a2);have hr5:Ext W4 W4:=Below.refl _ _;go_wp2_with fail;obtain ⟨J6,J7⟩:=HB_Z.o.c2;refine bodyPost_ret (v:=.agg #[.int .u64 (r0:Nat),.int .u64 (r1:Nat)]) (by simp [results,Tryz.results84,go_sem,J6,J7]) rfl ⟨by rw [ER.o],g4⟩
theorem rNaN_c (E P:Nat) (w:World) (hF:Fmt E P) :
  Calls Tryz.prog 150 #[.agg #[.int .i64 (E:Nat),.int .i64 (P:Nat)]] w fun e w'=>e=.returned (Word (nanw E P))∧Ext w w':=by
 obtain ⟨T,hT⟩:∃ T,T=2^E-1:=⟨_,rfl⟩;have CT:Hid (∀ w,Calls Tryz.prog 91 #[.agg #[.int .i64 (E:Nat),.int .i64 (P:Nat)]] w fun e w'=>e=.returned (.int .i64 (T:Nat))∧Ext w w'):=hid fun w=>by rw [hT];exact rtop_c E P w hF
 have HF:=hid hF;have hP:2≤P∧P≤113:=(fmt_bounds hF).2.1;obtain ⟨Q,hQ⟩:∃ Q,Q=2^(P-2):=⟨_,rfl⟩;have hQ1:Q≤2^111:=by rw [hQ];exact Nat.pow_le_pow_right (by decide) (by omega)
 have CQ:Hid (∀ w,Calls Tryz.prog 88 #[.int .i64 ((P:Int)-2)] w fun e w'=>∃ v,e=.returned v∧RNumV w' v ((Q:Nat):Rat)∧Ext w w'):=hid fun w=>by
  have h2:=rtwo_c ((P-2:Nat):Int) w (by omega) (by omega);rw [p2_nat,←hQ] at h2;rw [show (P:Int)-2=((P-2:Nat):Int) by omega];exact h2
 have hwp:IntKind.i64.wrap ((P:Int)-2)=(P:Int)-2:=IntWalk.i64_in _ (by omega);have CC:Hid (∀ w x,RNumV w x ((Q:Nat):Rat)→Calls Tryz.prog 90 #[.agg #[.int .i64 (E:Nat),.int .i64 (P:Nat)],.bool false,.int .i64 (T:Nat),x] w fun e w'=>e=.returned (Word (nanw E P))∧Ext w w'):=hid fun w x h=>by
  have h2:=rcoded_c E P false T Q x w hF h (by rw [hT];exact top_le hF) (by omega) (by rw [hT,hQ];exact codeN_small hF false (Nat.le_refl _) (Nat.pow_lt_pow_right (by decide) (by omega)));rw [hT,hQ,codeN_nan hF] at h2;rw [hT];exact h2
 clear hF hT hP hQ hQ1;obtain ⟨W0,hW0,g0,hz0,B_F,B_Z⟩:=pro2s w #[.int .i64 (E:Nat),.int .i64 (P:Nat)] #[.int .u64 0,.int .u64 0] 23 29;have HE:=hid g0;have HB_F:=hid B_F;have HB_Z:=hid B_Z;have ac:=cland HB_F.o.a2 (HB_Z.o.a2);have hr0:Ext W0 W0:=Below.refl _ _;clear g0 B_F B_Z 
 go_enter Tryz.func150,Tryz.ntmps150
 go_upto_region 1 with (fail)
 rw [←hW0];clear hW0;have kc:=(Box.bt (z:=w.heap.size+1) HB_F.o (by omega) Box.n2);have g1:Ext W0 W0.drew:=Below.drew (Below.refl _ _);refine wp_region_held_drew (S:=But W0 (w.heap.size+1)) (by kernel_rfl) (g1.but) (fun hHeld => ?_);generalize W0.drew=wD1 at *
 apply wts 0 3 rfl rfl (by kernel_rfl) (fun _ _ _ h=>h) hHeld
 ·intro w' hSw;go_simp<;>with_reducible rfl
 apply wts 1 4 rfl rfl (by kernel_rfl) (fun _ _ _ h=>h) hHeld
 ·intro w' hSw;go_simp<;>with_reducible rfl
 apply wts 3 6 rfl rfl (by kernel_rfl) (fun _ _ _ h=>h) hHeld
 ·intro w' hSw;go_simp<;>with_reducible rfl
 apply wts 4 7 rfl rfl (by kernel_rfl) (fun _ _ _ h=>h) hHeld
 ·intro w' hSw;go_simp<;>with_reducible rfl
 apply wts 5 8 rfl rfl (by kernel_rfl) (fun _ _ _ h=>h) hHeld
 ·intro w' hSw;go_simp<;>with_reducible rfl
 try simp only [Act.put,pA,pB,pC]
 refine wonc 2 5 91 #[.tmp 4] #[23] 3 (by kernel_rfl) rfl rfl (fun KK hKK => ?_);go_simp;refine (CT.o _).mono ?_;rintro e w2 ⟨rfl,g2⟩;have hb1:=g1.trans g2
 try dsimp only
 refine hKK.out _ _ (hb1.but) (fun hHeld => ?_)
 try simp only [Act.put,pA,pB,pC]
 refine wonc 6 9 88 #[.tmp 8] #[3] 43 (by kernel_rfl) rfl rfl (fun KK hKK => ?_);go_simp;refine (CQ.o _).mono ?_;rintro e w3 ⟨v3,rfl,k1,g3⟩;have hb2:=hb1.trans g3
 try dsimp only
 refine hKK.out _ _ (hb2.but) (fun hHeld => ?_)
 try simp only [Act.put,pA,pB,pC]
 refine wonc 7 10 90 #[.tmp 3,.const (Value.bool false),.tmp 5,.tmp 9] #[23,4,3,43] 29 (by kernel_rfl) rfl rfl (fun KK hKK => ?_);go_simp;refine (CC.o _ _ k1).mono ?_;rintro e w4 ⟨rfl,g4⟩;have hb3:=hb2.trans g4;obtain ⟨r0,r1,er⟩:=Word.shape (nanw E P);have ER:=hid er;clear er;rw [ER.o]
 try dsimp only
 refine hKK.out _ _ (hb3.but) (fun hHeld => ?_)
 try simp only [Act.put,pA,pB,pC]
 refine wons 8 29 2 10 (by kernel_rfl) rfl rfl (fun KK hKK => ?_);obtain ⟨U4,U5⟩:=(HB_Z.o.ext hb3).f2;go_simp;clear U4 U5;obtain ⟨W5,hW5,g5,q5,B5,hy5,ho5⟩:=rsto2 (HE.o.trans hb3) (by omega) (HB_Z.o.ext hb3) (by decide) (.int .u64 (r0:Nat)) (.int .u64 (r1:Nat));rw [←hW5];clear hW5;replace HB_Z:=hid B5;have hq5:But W0 (w.heap.size+1) W5:=But.sto (hb3.but) ho5
 try dsimp only
 refine hKK.out _ _ (hq5) (fun hHeld => ?_);refine wpAnyH_done (by kernel_rfl) ?_ _;have ac:=cland (ho5 _ _ _ (by omega) (HB_F.o.ext (g1.trans (g2.trans (g3.trans g4))))).a2 (HB_Z.o.a2);have hr6:Ext W5 W5:=Below.refl _ _;go_wp2_with fail;obtain ⟨J7,J8⟩:=HB_Z.o.c2;refine bodyPost_ret (v:=.agg #[.int .u64 (r0:Nat),.int .u64 (r1:Nat)]) (by simp [results,Tryz.results150,go_sem,J7,J8]) rfl ⟨by rw [ER.o],g5⟩
def wv (P b n f:Nat):Rat:=((n:Nat):Rat)*(2:Rat)^(2-(b:Int)-P+f)
theorem wv_nonneg (P b n f:Nat):0≤wv P b n f:=Rat.mul_nonneg (by exact_mod_cast Nat.zero_le n) (Rat.le_of_lt (p2_pos _))
theorem wv_abs (P b n f:Nat):absQ (wv P b n f)=wv P b n f:=absQ_nonneg (wv_nonneg P b n f)
theorem wv_sm {P b n f:Nat} (hn:n<2^P) (hP:P≤113) (hb:b≤1023) (hf:f≤4096):SmQ 6000 (wv P b n f):=by
 have h1:2^P≤2^113:=Nat.pow_le_pow_right (by decide) hP;unfold wv
 exact ((nat_sm (K:=113) (n:=n) (by omega)).mul_p2 _ 5500 (by omega)).mono (by decide)
theorem wv_below {P b n f:Nat} (hP:1≤P) (h:f=0∨2^(P-1)≤n):wv P b n f<(2:Rat)^(1-(b:Int))↔f=0∧n<2^(P-1):=by
 have e:(2:Rat)^(1-(b:Int))=((2^(P-1):Nat):Rat)*(2:Rat)^(2-(b:Int)-P):=by
  rw [←p2_nat,←p2_add];congr 1;omega
 unfold wv;rw [p2_add,←Rat.mul_assoc,e,Rat.mul_assoc,Rat.mul_comm ((2:Rat)^(2-(b:Int)-P)),←Rat.mul_assoc,Rat.mul_lt_mul_right (p2_pos _),p2_nat,←Rat.natCast_mul,Rat.natCast_lt_natCast]
 constructor
 ·intro h2
  rcases h with h3 | h3
  ·subst h3;simp at h2;exact ⟨rfl,h2⟩
  ·exfalso
   have h4:n*1≤n*2^f:=Nat.mul_le_mul_left _ (Nat.pow_pos (by decide))
   omega
 ·rintro ⟨h2,h3⟩;subst h2;simpa using h3
theorem wv_log {P b n f:Nat} (hP:1≤P) (h1:2^(P-1)≤n) (h2:n<2^P):IsLog (wv P b n f) (1-(b:Int)+f):=by
 unfold wv
 constructor
 ·have e:(2:Rat)^(1-(b:Int)+f)=((2^(P-1):Nat):Rat)*(2:Rat)^(2-(b:Int)-P+f):=by
   rw [←p2_nat,←p2_add];congr 1;omega
  rw [e]
  exact Rat.mul_le_mul_of_nonneg_right (by exact_mod_cast h1) (Rat.le_of_lt (p2_pos _))
 ·have e:(2:Rat)^(1-(b:Int)+f+1)=((2^P:Nat):Rat)*(2:Rat)^(2-(b:Int)-P+f):=by
   rw [←p2_nat,←p2_add];congr 1;omega
  rw [e,Rat.mul_lt_mul_right (p2_pos _),Rat.natCast_lt_natCast];exact h2
theorem wv_shift {P b n f:Nat}:wv P b n f*(2:Rat)^((P:Int)-1-(1-(b:Int)+f))=((n:Nat):Rat):=by
 unfold wv;rw [Rat.mul_assoc,←p2_add,show 2-(b:Int)-P+f+((P:Int)-1-(1-(b:Int)+f))=0 by omega,Rat.zpow_zero,Rat.mul_one]
theorem wv_over {P b n:Nat}:wv P b n 0/(2:Rat)^(2-(b:Int)-P)=((n:Nat):Rat):=by
 unfold wv;rw [show 2-(b:Int)-P+((0:Nat):Int)=2-(b:Int)-P by omega,Rat.div_def,Rat.mul_assoc,Rat.mul_inv_cancel _ (p2_ne _),Rat.mul_one]
theorem codeN_next {E P:Nat} (neg:Bool) {n f:Nat} (h1:2^(P-1)≤n):codeN E P neg (f+1) (n-2^(P-1))=codeN E P neg f n:=by
 unfold codeN;rw [Nat.add_mul];omega
theorem rword_c (E P n f:Nat) (neg:Bool) (x:Value) (w:World) (hF:Fmt E P) (hx:RNumV w x (wv P (bias E) n f)) (hn:n<2^P) (h:f=0∨2^(P-1)≤n) (hf:f+1≤2^E-1) :
  Calls Tryz.prog 82 #[.agg #[.int .i64 (E:Nat),.int .i64 (P:Nat)],.bool neg,x] w fun e w'=>e=.returned (Word (codeN E P neg f n))∧Ext w w':=by
 obtain ⟨s1,a1,n1,c1,a1',n1',c1',rfl⟩:=hx.shape;have hvx:=hx;have HF:=hid hF;obtain ⟨hE,hP,hb,hEP,_⟩:=fmt_bounds hF;have hf4:f≤4096:=by have:=top_le hF;omega
 have hP1:1≤P:=by omega
 have hP2:P≤113:=hP.2;obtain ⟨b,hbb⟩:∃ b,b=bias E:=⟨_,rfl⟩;rw [←hbb] at hvx hb;obtain ⟨Q,hQ⟩:∃ Q,Q=wv P b n f:=⟨_,rfl⟩;have SQ:Hid (SmQ 6000 Q):=hid (by rw [hQ];exact wv_sm hn hP2 hb hf4);have HA:Hid (absQ Q=Q):=hid (by rw [hQ];exact wv_abs P b n f);have hlt:2^P≤2^113:=Nat.pow_le_pow_right (by decide) hP2;have SN:Hid (SmQ 201 ((n:Nat):Rat)):=hid (nat_sm (by omega));rw [←hQ] at hvx;have CBI:Hid (∀ w,Calls Tryz.prog 142 #[.agg #[.int .i64 (E:Nat),.int .i64 (P:Nat)]] w fun e w'=>e=.returned (.int .i64 (b:Nat))∧Ext w w'):=hid fun w=>by rw [hbb];exact rbias_c E P w hF
 have CL:Hid (∀ w,Calls Tryz.prog 55 #[.agg #[.int .i64 (E:Nat),.int .i64 (P:Nat)]] w fun e w'=>∃ v,e=.returned v∧RNumV w' v ((2:Rat)^(2-(b:Int)-P))∧Ext w w'):=hid fun w=>by rw [hbb];exact rleast_c E P w hF
 have SL:Hid (SmQ 6000 ((2:Rat)^(2-(b:Int)-P))):=hid ((p2_sm (L:=1200) (by omega)).mono (by decide));have CB0:Hid (∀ w u,RNumV w u Q→Calls Tryz.prog 175 #[.agg #[.int .i64 (E:Nat),.int .i64 (P:Nat)],u] w fun e w'=>e=.returned (.bool (decide (f=0∧n<2^(P-1))))∧Ext w w'):=hid fun w u h2=>by
  have h3:=rbelow_c E P u Q 6000 w hF h2 SQ.o (by decide);have e:decide (absQ Q<(2:Rat)^(1-(bias E:Int)))=decide (f=0∧n<2^(P-1)):=by
   rw [HA.o,hQ,hbb,decide_eq_decide];exact wv_below hP1 h
  rw [e] at h3;exact h3
 by_cases hbel:f=0∧n<2^(P-1)
 ·obtain ⟨rfl,hn2⟩:=hbel;have CB:Hid (∀ w u,RNumV w u Q→Calls Tryz.prog 175 #[.agg #[.int .i64 (E:Nat),.int .i64 (P:Nat)],u] w fun e w'=>e=.returned (.bool true)∧Ext w w'):=hid fun w u h2=>by
   have h3:=CB0.o w u h2
   rwa [decide_eq_true ⟨rfl,hn2⟩] at h3
  have CO:Hid (∀ w u v,RNumV w u Q→RNumV w v ((2:Rat)^(2-(b:Int)-P))→Calls Tryz.prog 140 #[u,v] w fun e w'=>∃ z,e=.returned z∧RNumV w' z ((n:Nat):Rat)∧Ext w w'):=hid fun w u v h2 h3=>by
   have h4:=rover_c u v _ _ 6000 w h2 h3 SQ.o SL.o (by decide) (p2_ne _);rw [hQ,wv_over] at h4;exact h4
  have CC:Hid (∀ w u,RNumV w u ((n:Nat):Rat)→Calls Tryz.prog 90 #[.agg #[.int .i64 (E:Nat),.int .i64 (P:Nat)],.bool neg,.int .i64 0,u] w fun e w'=>e=.returned (Word (codeN E P neg 0 n))∧Ext w w'):=hid fun w u h2=>rcoded_c E P neg 0 n u w hF h2 (by decide) (by omega) (codeN_small hF neg (by omega) hn2);clear hF hx hn h hf CB0 hE hP hbb hQ hlt hn2 hEP;obtain ⟨W0,hW0,g0,hz0,B_F,B_X,B_Z⟩:=pro3s w #[.int .i64 (E:Nat),.int .i64 (P:Nat)] #[.int .i64 s1,.slice a1 n1 c1,.slice a1' n1' c1'] #[.int .u64 0,.int .u64 0] 23 43 29;have HE:=hid g0;have HB_F:=hid B_F;have HB_X:=hid B_X;have HB_Z:=hid B_Z;have ac:=cland HB_F.o.a2 (cland HB_X.o.a3 (HB_Z.o.a2));have hr0:Ext W0 W0:=Below.refl _ _;clear g0 B_F B_X B_Z 
  go_enter Tryz.func82,Tryz.ntmps82
  go_upto_region 1 with (fail)
  rw [←hW0];clear hW0;replace hvx:=hvx.ext HE.o;go_wp2_with fail;refine (CB.o _ _ hvx).mono ?_;rintro e w1 ⟨rfl,g1⟩
  go_upto_region 2 with (fail)
  have kc:=cland (Box.bt (z:=w.heap.size+1+1) HB_F.o (by omega) Box.n2) ((Box.bt (z:=w.heap.size+1+1) HB_X.o (by omega) Box.n3));have g2:Ext w1 w1.drew:=Below.drew (Below.refl _ _);have hb1:=g1.trans g2;refine wp_region_held_drew (S:=But W0 (w.heap.size+1+1)) (by kernel_rfl) (hb1.but) (fun hHeld => ?_);generalize w1.drew=wD2 at *
  apply wts 0 12 rfl rfl (by kernel_rfl) (fun _ _ _ h=>h) hHeld
  ·intro w' hSw;go_simp<;>with_reducible rfl
  apply wts 1 13 rfl rfl (by kernel_rfl) (fun _ _ _ h=>h) hHeld
  ·intro w' hSw;go_simp<;>with_reducible rfl
  apply wts 2 14 rfl rfl (by kernel_rfl) (fun _ _ _ h=>h) hHeld
  ·intro w' hSw;go_simp<;>with_reducible rfl
  apply wts 3 15 rfl rfl (by kernel_rfl) (fun _ _ _ h=>h) hHeld
  ·intro w' hSw;go_simp<;>with_reducible rfl
  try simp only [Act.put,pA,pB,pC]
  refine wonc 4 16 55 #[.tmp 15] #[23] 43 (by kernel_rfl) rfl rfl (fun KK hKK => ?_);go_simp;refine (CL.o _).mono ?_;rintro e w3 ⟨v3,rfl,k1,g3⟩;have hb2:=hb1.trans g3
  try dsimp only
  refine hKK.out _ _ (hb2.but) (fun hHeld => ?_)
  try simp only [Act.put,pA,pB,pC]
  refine wonc 5 17 140 #[.tmp 14,.tmp 16] #[43,43] 43 (by kernel_rfl) rfl rfl (fun KK hKK => ?_);go_simp;refine (CO.o _ _ _ (hvx.ext hb2) k1).mono ?_;rintro e w4 ⟨v4,rfl,k2,g4⟩;have hb3:=hb2.trans g4
  try dsimp only
  refine hKK.out _ _ (hb3.but) (fun hHeld => ?_)
  try simp only [Act.put,pA,pB,pC]
  refine wonc 6 18 90 #[.tmp 12,.tmp 13,.const (Value.int IntKind.i64 0),.tmp 17] #[23,4,3,43] 29 (by kernel_rfl) rfl rfl (fun KK hKK => ?_);go_simp;refine (CC.o _ _ k2).mono ?_;rintro e w5 ⟨rfl,g5⟩;have hb4:=hb3.trans g5;obtain ⟨r0,r1,er⟩:=Word.shape (codeN E P neg 0 n);have ER:=hid er;clear er;rw [ER.o]
  try dsimp only
  refine hKK.out _ _ (hb4.but) (fun hHeld => ?_)
  try simp only [Act.put,pA,pB,pC]
  refine wons 7 29 6 18 (by kernel_rfl) rfl rfl (fun KK hKK => ?_);obtain ⟨U5,U6⟩:=(HB_Z.o.ext hb4).f2;go_simp;clear U5 U6;obtain ⟨W6,hW6,g6,q6,B6,hy6,ho6⟩:=rsto2 (HE.o.trans hb4) (by omega) (HB_Z.o.ext hb4) (by decide) (.int .u64 (r0:Nat)) (.int .u64 (r1:Nat));rw [←hW6];clear hW6;replace HB_Z:=hid B6;have hq6:But W0 (w.heap.size+1+1) W6:=But.sto (hb4.but) ho6
  try dsimp only
  refine hKK.out _ _ (hq6) (fun hHeld => ?_);refine wpAnyH_done (by kernel_rfl) ?_ _;have ac:=cland (ho6 _ _ _ (by omega) (HB_F.o.ext (g1.trans (g2.trans (g3.trans (g4.trans g5)))))).a2 (cland (ho6 _ _ _ (by omega) (HB_X.o.ext (g1.trans (g2.trans (g3.trans (g4.trans g5)))))).a3 (HB_Z.o.a2));have hr7:Ext W6 W6:=Below.refl _ _;go_wp2_with fail;obtain ⟨J8,J9⟩:=HB_Z.o.c2;refine bodyPost_ret (v:=.agg #[.int .u64 (r0:Nat),.int .u64 (r1:Nat)]) (by simp [results,Tryz.results82,go_sem,J8,J9]) rfl ⟨by rw [ER.o],g6⟩
 ·have hn1:2^(P-1)≤n:=by omega
  have CB:Hid (∀ w u,RNumV w u Q→Calls Tryz.prog 175 #[.agg #[.int .i64 (E:Nat),.int .i64 (P:Nat)],u] w fun e w'=>e=.returned (.bool false)∧Ext w w'):=hid fun w u h2=>by
   have h3:=CB0.o w u h2
   rwa [decide_eq_false hbel] at h3
  obtain ⟨k,hk⟩:∃ k:Int,k=1-(b:Int)+f:=⟨_,rfl⟩;have HK:Hid (IsLog (absQ Q) k):=hid (by rw [HA.o,hQ,hk];exact wv_log hP1 hn1 hn);have HQ0:Hid (Q≠0):=hid (fun e=>by
   have h2:=HK.o.pos;rw [HA.o,e] at h2;exact Rat.lt_irrefl h2)
  have CLG:Hid (∀ w u,RNumV w u Q→Calls Tryz.prog 176 #[u] w fun e w'=>e=.returned (.int .i64 k)∧Ext w w'):=hid fun w u h2=>by
   refine (rlog_c u Q 6000 w h2 SQ.o (by decide) HQ0.o).mono ?_;rintro e w' ⟨l,rfl,hl,hb⟩
   exact ⟨by rw [hl.o.unique HK.o],hb⟩
  have hk1 : -1023≤k:=by omega
  have hk2:k≤5000:=by omega
  have hkb:k+(b:Int)=((f+1:Nat):Int):=by omega
  have CS:Hid (∀ w u,RNumV w u Q→Calls Tryz.prog 141 #[u,.int .i64 ((P:Int)-1-k)] w fun e w'=>∃ z,e=.returned z∧RNumV w' z ((n:Nat):Rat)∧Ext w w'):=hid fun w u h2=>by
   have h3:=rshiftq_c u Q 6000 ((P:Int)-1-k) w h2 SQ.o (by omega) (by omega) (by decide);rw [hQ,hk,wv_shift] at h3;rw [hk];exact h3
  obtain ⟨H,hH⟩:∃ H,H=2^(P-1):=⟨_,rfl⟩;have CT:Hid (∀ w,Calls Tryz.prog 88 #[.int .i64 ((P:Int)-1)] w fun e w'=>∃ v,e=.returned v∧RNumV w' v ((H:Nat):Rat)∧Ext w w'):=hid fun w=>by
   have h2:=rtwo_c ((P-1:Nat):Int) w (by omega) (by omega);rw [p2_nat,←hH] at h2;rw [show (P:Int)-1=((P-1:Nat):Int) by omega];exact h2
  have CSU:Hid (∀ w u v,RNumV w u ((n:Nat):Rat)→RNumV w v ((H:Nat):Rat)→Calls Tryz.prog 129 #[u,v] w fun e w'=>∃ z,e=.returned z∧RNumV w' z ((n-H:Nat):Rat)∧Ext w w'):=hid fun w u v h2 h3=>by
   have h4:=rsubq_c u v _ _ 201 w h2 h3 SN.o (nat_sm (by omega)) (by decide);rw [nat_sub (by omega)] at h4;exact h4
  have hnH:n-H<2^(P-1):=by
   have:2^P=2*2^(P-1):=by rw [←Nat.pow_succ'];congr 1;omega
   omega
  have CC:Hid (∀ w u,RNumV w u ((n-H:Nat):Rat)→Calls Tryz.prog 90 #[.agg #[.int .i64 (E:Nat),.int .i64 (P:Nat)],.bool neg,.int .i64 (k+(b:Int)),u] w fun e w'=>e=.returned (Word (codeN E P neg f n))∧Ext w w'):=hid fun w u h2=>by
   have h3:=rcoded_c E P neg (f+1) (n-H) u w hF h2 (by have:=top_le hF;omega) (by omega) (codeN_small hF neg hf hnH);rw [hH,codeN_next neg hn1] at h3;rw [hkb];exact h3
  have hw1:IntKind.i64.wrap (k+(b:Int))=k+(b:Int):=IntWalk.i64_in _ (by omega);have hw2:IntKind.i64.wrap ((P:Int)-1)=(P:Int)-1:=IntWalk.i64_in _ (by omega);clear hF hx hn h hf CB0 hE hP hbb hQ hlt hEP hbel hk hn1 hkb hH hnH;obtain ⟨W0,hW0,g0,hz0,B_F,B_X,B_Z⟩:=pro3s w #[.int .i64 (E:Nat),.int .i64 (P:Nat)] #[.int .i64 s1,.slice a1 n1 c1,.slice a1' n1' c1'] #[.int .u64 0,.int .u64 0] 23 43 29;have HE:=hid g0;have HB_F:=hid B_F;have HB_X:=hid B_X;have HB_Z:=hid B_Z;have ac:=cland HB_F.o.a2 (cland HB_X.o.a3 (HB_Z.o.a2));have hr0:Ext W0 W0:=Below.refl _ _;clear g0 B_F B_X B_Z 
  go_enter Tryz.func82,Tryz.ntmps82
  go_upto_region 1 with (fail)
  rw [←hW0];clear hW0;replace hvx:=hvx.ext HE.o;go_wp2_with fail;refine (CB.o _ _ hvx).mono ?_;rintro e w1 ⟨rfl,g1⟩;go_wp2_with fail;refine (CLG.o _ _ (hvx.ext g1)).mono ?_;rintro e w2 ⟨rfl,g2⟩;have hb1:=g1.trans g2;go_wp2_with fail;refine (CS.o _ _ (hvx.ext hb1)).mono ?_;rintro e w3 ⟨v3,rfl,k1,g3⟩;have hb2:=hb1.trans g3;obtain ⟨s3,a3,n3,c3,a3',n3',c3',rfl⟩:=k1.shape;have gA:=hb2.trans (Ext.alloc w3 (.cells #[.int .i64 s3,.slice a3 n3 c3,.slice a3' n3' c3'] 43))
  go_upto_region 5 with (fail)
  clear gA;have hs3:=(g1.trans (g2.trans g3)).size;obtain ⟨W4,hW4,g4,hy4,B_M⟩:=pro1 w3 #[.int .i64 s3,.slice a3 n3 c3,.slice a3' n3' c3'] 43;rw [←hW4];clear hW4;have hb4:=hb2.trans g4;have HB_M:=hid B_M;clear B_M;have he5:=(HE.o.trans hb4);replace ac:=hb4.cl ac;have hr6:Ext W4 W4:=Below.refl _ _;replace ac:=cland ac HB_M.o.a3;have kc:=cland (Box.bt (z:=w.heap.size+1+1) (HB_F.o.ext (g1.trans (g2.trans (g3.trans g4)))) (by omega) Box.n2) ((Box.bt (z:=w.heap.size+1+1) HB_M.o (by omega) Box.n3));have g5:Ext W4 W4.drew:=Below.drew (Below.refl _ _);refine wp_region_held_drew (S:=But W4 (w.heap.size+1+1)) (by kernel_rfl) (g5.but) (fun hHeld => ?_);generalize W4.drew=wD5 at *
  apply wts 0 28 rfl rfl (by kernel_rfl) (fun _ _ _ h=>h) hHeld
  ·intro w' hSw;go_simp<;>with_reducible rfl
  apply wts 1 29 rfl rfl (by kernel_rfl) (fun _ _ _ h=>h) hHeld
  ·intro w' hSw;go_simp<;>with_reducible rfl
  apply wts 2 30 rfl rfl (by kernel_rfl) (fun _ _ _ h=>h) hHeld
  ·intro w' hSw;go_simp<;>with_reducible rfl
  apply wts 3 31 rfl rfl (by kernel_rfl) (fun _ _ _ h=>h) hHeld
  ·intro w' hSw;go_simp<;>with_reducible rfl
  apply wts 6 34 rfl rfl (by kernel_rfl) (fun _ _ _ h=>h) hHeld
  ·intro w' hSw;go_simp<;>with_reducible rfl
  apply wts 7 35 rfl rfl (by kernel_rfl) (fun _ _ _ h=>h) hHeld
  ·intro w' hSw;go_simp<;>with_reducible rfl
  apply wts 8 36 rfl rfl (by kernel_rfl) (fun _ _ _ h=>h) hHeld
  ·intro w' hSw;go_simp<;>with_reducible rfl
  apply wts 9 37 rfl rfl (by kernel_rfl) (fun _ _ _ h=>h) hHeld
  ·intro w' hSw;go_simp<;>with_reducible rfl
  try simp only [Act.put,pA,pB,pC]
  refine wonc 4 32 142 #[.tmp 31] #[23] 3 (by kernel_rfl) rfl rfl (fun KK hKK => ?_);go_simp;refine (CBI.o _).mono ?_;rintro e w6 ⟨rfl,g6⟩;have hb7:=g5.trans g6
  try dsimp only
  refine hKK.out _ _ (hb7.but) (fun hHeld => ?_);apply wts 5 33 rfl rfl (by kernel_rfl) (fun _ _ _ h=>h) hHeld
  ·intro w' hSw;go_simp<;>with_reducible rfl
  try simp only [Act.put,pA,pB,pC]
  refine wonc 10 38 88 #[.tmp 37] #[3] 43 (by kernel_rfl) rfl rfl (fun KK hKK => ?_);go_simp;refine (CT.o _).mono ?_;rintro e w7 ⟨v7,rfl,k2,g7⟩;have hb8:=hb7.trans g7
  try dsimp only
  refine hKK.out _ _ (hb8.but) (fun hHeld => ?_)
  try simp only [Act.put,pA,pB,pC]
  refine wonc 11 39 129 #[.tmp 34,.tmp 38] #[43,43] 43 (by kernel_rfl) rfl rfl (fun KK hKK => ?_);go_simp;refine (CSU.o _ _ _ ((k1.ext g4).ext hb8) k2).mono ?_;rintro e w8 ⟨v8,rfl,k3,g8⟩;have hb9:=hb8.trans g8
  try dsimp only
  refine hKK.out _ _ (hb9.but) (fun hHeld => ?_)
  try simp only [Act.put,pA,pB,pC]
  refine wonc 12 40 90 #[.tmp 28,.tmp 29,.tmp 33,.tmp 39] #[23,4,3,43] 29 (by kernel_rfl) rfl rfl (fun KK hKK => ?_);go_simp;refine (CC.o _ _ k3).mono ?_;rintro e w9 ⟨rfl,g9⟩;have hb10:=hb9.trans g9;obtain ⟨r0,r1,er⟩:=Word.shape (codeN E P neg f n);have ER:=hid er;clear er;rw [ER.o]
  try dsimp only
  refine hKK.out _ _ (hb10.but) (fun hHeld => ?_)
  try simp only [Act.put,pA,pB,pC]
  refine wons 13 29 6 40 (by kernel_rfl) rfl rfl (fun KK hKK => ?_);obtain ⟨U11,U12⟩:=((HB_Z.o.ext (g1.trans (g2.trans (g3.trans g4)))).ext hb10).f2;go_simp;clear U11 U12;obtain ⟨W10,hW10,g10,q10,B10,hy10,ho10⟩:=rsto2 (he5.trans hb10) (by omega) ((HB_Z.o.ext (g1.trans (g2.trans (g3.trans g4)))).ext hb10) (by decide) (.int .u64 (r0:Nat)) (.int .u64 (r1:Nat));rw [←hW10];clear hW10;replace HB_Z:=hid B10;have hq10:But W4 (w.heap.size+1+1) W10:=But.sto (hb10.but) ho10
  try dsimp only
  refine hKK.out _ _ (hq10) (fun hHeld => ?_);refine wpAnyH_done (by kernel_rfl) ?_ _;have ac:=cland (ho10 _ _ _ (by omega) (HB_F.o.ext (g1.trans (g2.trans (g3.trans (g4.trans (g5.trans (g6.trans (g7.trans (g8.trans g9)))))))))).a2 (cland (ho10 _ _ _ (by omega) (HB_X.o.ext (g1.trans (g2.trans (g3.trans (g4.trans (g5.trans (g6.trans (g7.trans (g8.trans g9)))))))))).a3 (cland HB_Z.o.a2 ((ho10 _ _ _ (by omega) (HB_M.o.ext (g5.trans (g6.trans (g7.trans (g8.trans g9)))))).a3)));have hr13:Ext W10 W10:=Below.refl _ _;go_wp2_with fail;obtain ⟨J14,J15⟩:=HB_Z.o.c2;refine bodyPost_ret (v:=.agg #[.int .u64 (r0:Nat),.int .u64 (r1:Nat)]) (by simp [results,Tryz.results82,go_sem,J14,J15]) rfl ⟨by rw [ER.o],g10⟩


def ROpV (w:World) (v:Value) (k:Int) (neg:Bool) (q:Rat):Prop:=∃ (s:Int) (a:Option Addr) (n c:Nat) (a':Option Addr) (n' c':Nat),v=.agg #[.int .i64 k,.bool neg,.int .i64 s,.slice a n c,.slice a' n' c']∧RNumV w (.agg #[.int .i64 s,.slice a n c,.slice a' n' c']) q
structure LookC (E P n f r T:Nat) (neg:Bool):Prop where
 cw:∀ h l:Nat,Word n=.agg #[.int .u64 (h:Nat),.int .u64 (l:Nat)]→∀ w,Calls Tryz.prog 194 #[.agg #[.int .u64 (h:Nat),.int .u64 (l:Nat)]] w fun e w'=>∃ v,e=.returned v∧RNumV w' v ((n:Nat):Rat)∧Ext w w'
 p1:∀ w x,RNumV w x ((n:Nat):Rat)→Calls Tryz.prog 195 #[x,.int .i64 0,.int .i64 ((P:Int)-1)] w fun e w'=>∃ v,e=.returned v∧RNumV w' v ((r:Nat):Rat)∧Ext w w'
 p2:∀ w x,RNumV w x ((n:Nat):Rat)→Calls Tryz.prog 195 #[x,.int .i64 ((P:Int)-1),.int .i64 (E:Nat)] w fun e w'=>∃ v,e=.returned v∧RNumV w' v ((f:Nat):Rat)∧Ext w w'
 p3:∀ w x,RNumV w x ((n:Nat):Rat)→Calls Tryz.prog 195 #[x,.int .i64 ((E:Int)+(P:Int)-1),.int .i64 1] w fun e w'=>∃ v,e=.returned v∧RNumV w' v (((if neg then 1 else 0:Nat):Nat):Rat)∧Ext w w'
 f1:f<4294967296
 tw:∀ w,Calls Tryz.prog 88 #[.int .i64 ((P:Int)-2)] w fun e w'=>∃ v,e=.returned v∧RNumV w' v ((2^(P-2):Nat):Rat)∧Ext w w'
 tp:∀ w,Calls Tryz.prog 91 #[.agg #[.int .i64 (E:Nat),.int .i64 (P:Nat)]] w fun e w'=>e=.returned (.int .i64 (T:Nat))∧Ext w w'
 hT:T=2^E-1
 hr:r<2^(P-1)
 hf:f≤T
theorem LookC.of {E P n:Nat} (hF:Fmt E P) (hn:n<2^(E+P)):LookC E P n (n/2^(P-1)%2^E) (n%2^(P-1)) (2^E-1) (wn E P n):=by
 obtain ⟨hE,hP,hb,hEP,hb1⟩:=fmt_bounds hF;have h124:=fmt_pow hF;have hn200:n<2^200:=by omega
 have hE0:0<2^E:=Nat.pow_pos (by decide);refine ⟨fun h l e w => ?_,fun w x h => ?_,fun w x h => ?_,fun w x h => ?_,?_,fun w => ?_,fun w=>rtop_c E P w hF,rfl,Nat.mod_lt _ (Nat.pow_pos (by decide)),?_⟩
 ·rw [←e];exact rbits_c n w (by omega)
 ·have h2:=rpart_c x n 0 (P-1) 0 ((P:Int)-1) w h hn200 rfl (by omega) (by omega) (by omega);rw [Nat.pow_zero,Nat.div_one] at h2;exact h2
 ·exact rpart_c x n (P-1) E ((P:Int)-1) (E:Int) w h hn200 (by omega) rfl (by omega) (by omega)
 ·have h2:=rpart_c x n (E+P-1) 1 ((E:Int)+(P:Int)-1) 1 w h hn200 (by omega) rfl (by omega) (by omega);have h3:n/2^(E+P-1)<2:=by
   apply Nat.div_lt_of_lt_mul
   rw [Nat.mul_comm,←Nat.pow_succ']
   rwa [show (E+P-1).succ=E+P by omega]
  have e:n/2^(E+P-1)%2^1=if wn E P n then 1 else 0:=by
   unfold wn;generalize n/2^(E+P-1)=d at *
   by_cases h4:d=0
   ·rw [h4];simp
   ·rw [show d=1 by omega];simp
  rw [e] at h2;exact h2
 ·have:n/2^(P-1)%2^E<2^E:=Nat.mod_lt _ hE0
  have:2^E≤2^11:=Nat.pow_le_pow_right (by decide) hE.2
  omega
 ·have h2:=rtwo_c ((P-2:Nat):Int) w (by omega) (by omega);rw [p2_nat] at h2;rw [show (P:Int)-2=((P-2:Nat):Int) by omega];exact h2
 ·have:n/2^(P-1)%2^E<2^E:=Nat.mod_lt _ hE0
  omega
theorem bl_top {r P:Nat} (hP:2≤P) (h:r<2^(P-1)):bl r=P-1↔2^(P-2)≤r:=by
 have h1:=bl_lt r;have h2:=bl_le_of_lt h
 constructor
 ·intro h3
  have h4:0<r:=by
   rcases Nat.eq_zero_or_pos r with h5 | h5
   ·rw [h5,show bl 0=0 from rfl] at h3;omega
   ·exact h5
  have h6:=bl_le h4;rw [h3] at h6
  rwa [show P-1-1=P-2 by omega] at h6
 ·intro h3
  rcases Nat.lt_or_ge (bl r) (P-1) with h4 | h4
  ·have:2^bl r≤2^(P-2):=Nat.pow_le_pow_right (by decide) (by omega)
   omega
  ·omega
theorem ROpV.ext {w w':World} {v:Value} {k:Int} {neg:Bool} {q:Rat} (h:ROpV w v k neg q) (e:Ext w w'):ROpV w' v k neg q:=by
 obtain ⟨s,a,n,c,a',n',c',h1,h2⟩:=h;exact ⟨s,a,n,c,a',n',c',h1,h2.ext e⟩
end Go.Proofs.YtgabigepocfllaaGreatDoor
