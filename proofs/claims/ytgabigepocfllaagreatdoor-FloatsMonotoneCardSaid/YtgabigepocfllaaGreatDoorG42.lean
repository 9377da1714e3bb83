/- The reference's numbers: Log, Int64. -/
import Derived.Test.YtgabigepocfllaaGreatDoorG40
import Derived.Test.YtgabigepocfllaaGreatDoorG41
namespace Go.Proofs.YtgabigepocfllaaGreatDoor
open Go.RowKit Vn
set_option maxRecDepth 100000
set_option maxHeartbeats 8000000
theorem Sm.bl {K n:Nat} (h:Sm K n):bl n≤K:=bl_le_of_lt h
theorem dv_drop_le (B:Nat) (hB:0<B) (l:List Nat) (k:Nat) (h:k≤l.length):dv B (l.drop k)≤dv B l:=by
 rw [dv_take_drop B l k h];have h1:1*dv B (l.drop k)≤B^k*dv B (l.drop k):=Nat.mul_le_mul_right _ (Nat.pow_pos hB)
 omega
def TopI (s:Int) (l:List Nat) (k:Nat):Int:=s*(dv 1000000000 (l.drop k):Nat)
theorem TopI.step {s:Int} {l:List Nat} {j:Nat} (h:j<l.length):1000000000*TopI s l (j+1)+s*((l.getD j 0:Nat):Int)=TopI s l j:=by
 unfold TopI;rw [dv_drop 1000000000 l j h,Int.natCast_add,Int.natCast_mul,Int.mul_add,Int.mul_left_comm]
 exact Int.add_comm _ _
theorem TopI.range {s N:Int} {l:List Nat} (hs:s=1∨s = -1) (hN:N=s*(dv 1000000000 l:Nat)) (h0 : -9223372036854775808≤N) (h1:N<9223372036854775808) {j:Nat} (h:j≤l.length) : -9223372036854775808≤TopI s l j∧TopI s l j<9223372036854775808:=by
 have h2:=dv_drop_le 1000000000 (by decide) l j h;unfold TopI
 rcases hs with rfl | rfl<;>omega
theorem TopI.mid {s N:Int} {l:List Nat} (hs:s=1∨s = -1) (hN:N=s*(dv 1000000000 l:Nat)) (h0 : -9223372036854775808≤N) (h1:N<9223372036854775808) {j:Nat} (h:j<l.length) : -9223372036854775808≤1000000000*TopI s l (j+1)∧1000000000*TopI s l (j+1)<9223372036854775808:=by
 have h2:=TopI.range hs hN h0 h1 (Nat.le_of_lt h);have h3:=TopI.step (s:=s) h;have h4:=dv_drop 1000000000 l j h;unfold TopI at *
 rcases hs with rfl | rfl<;>omega
theorem rint_i (m:Int) (k:Nat) (w:World) (hm:m=(k:Int)) (hk:k<9223372036854775808) :
  Calls Tryz.prog 132 #[.int .i64 m] w fun e w'=>∃ v,e=.returned v∧RNumV w' v ((k:Nat):Rat)∧Ext w w':=by
 subst hm;exact rint_c (k:Int) w (by omega) (by omega)
theorem nat_sm {K n:Nat} (h:n<2^K):SmQ (K+1) ((n:Nat):Rat):=SmQ.nat (by omega) (Nat.lt_of_lt_of_le h (Nat.pow_le_pow_right (by decide) (by omega)))
theorem nat_up (n k:Nat):((n:Nat):Rat)*(2:Rat)^(k:Int)=((n*2^k:Nat):Rat):=by rw [p2_nat,Rat.natCast_mul]
theorem runsigned_c (n:Nat) (w:World) (h:n<18446744073709551616) :
  Calls Tryz.prog 239 #[.int .u64 (n:Nat)] w fun e w'=>∃ v,e=.returned v∧RNumV w' v ((n:Nat):Rat)∧Ext w w':=by
 have HN:=hid h;have HV:Hid (((n/4294967296:Nat):Rat)*(2:Rat)^(32:Int)+((n%4294967296:Nat):Rat)=((n:Nat):Rat)):=hid (by
  rw [show (32:Int)=((32:Nat):Int) from rfl,nat_up,←Rat.natCast_add]
  congr 1
  omega)
 clear h;obtain ⟨W0,hW0,g0,hz0,B_Z⟩:=pro1 w #[.int .i64 0,.slice none 0 0,.slice none 0 0] 43;have HE:=hid g0;have HB_Z:=hid B_Z;have ac:=HB_Z.o.a3;have hr0:Ext W0 W0:=Below.refl _ _;clear g0 B_Z 
 go_enter Tryz.func239,Tryz.ntmps239
 go_upto_region 1 with (fail)
 rw [←hW0];clear hW0;go_wp2_with fail;refine (rint_i _ (n/4294967296) _ (by rw [w64r _ (by have:=HN.o;omega)];omega) (by have:=HN.o;omega)).mono ?_;rintro e w1 ⟨v1,rfl,k1,g1⟩;go_wp2_with fail;refine (rshiftq_c _ _ 64 32 _ k1 (nat_sm (show n/4294967296<2^63 by have:=HN.o;omega)) (by decide) (by decide) (by decide)).mono ?_;rintro e w2 ⟨v2,rfl,k2,g2⟩;have hb1:=g1.trans g2;go_wp2_with fail;refine (rint_i _ (n%4294967296) _ (by omega) (by have:=HN.o;omega)).mono ?_;rintro e w3 ⟨v3,rfl,k3,g3⟩;have hb2:=hb1.trans g3;go_wp2_with fail;refine (raddq_c _ _ _ _ 200 _ (k2.ext g3) k3 (((nat_sm (show n/4294967296<2^63 by have:=HN.o;omega)).mul_p2 32 33 (by decide)).mono (by decide)) ((nat_sm (show n%4294967296<2^63 by omega)).mono (by decide)) (by decide)).mono ?_;rintro e w4 ⟨v,rfl,k9,g4⟩;have hb3:=hb2.trans g4;obtain ⟨s9,a9,n9,c9,a9',n9',c9',rfl⟩:=k9.shape;obtain ⟨U4,U5,U6⟩:=(HB_Z.o.ext hb3).f3;go_wp2_with fail;clear U4 U5 U6;obtain ⟨W5,hW5,g5,q5,B5,hy5,ho5⟩:=rsto3 (HE.o.trans hb3) (by omega) (HB_Z.o.ext hb3) (by decide) (.int .i64 s9) (.slice a9 n9 c9) (.slice a9' n9' c9');rw [←hW5];clear hW5;replace HB_Z:=hid B5;obtain ⟨J7,J8,J9⟩:=HB_Z.o.c3;refine bodyPost_ret (v:=.agg #[.int .i64 s9,.slice a9 n9 c9,.slice a9' n9' c9']) (by simp [results,Tryz.results239,go_sem,J7,J8,J9]) rfl ⟨_,rfl,by rw [←HV.o];exact (k9.keepR q5),g5⟩
theorem rbits_hl (h l:Nat) (w:World) (hh:h<18446744073709551616) (hl:l<18446744073709551616) :
  Calls Tryz.prog 194 #[.agg #[.int .u64 (h:Nat),.int .u64 (l:Nat)]] w fun e w'=>∃ v,e=.returned v∧RNumV w' v ((h*2^64+l:Nat):Rat)∧Ext w w':=by
 have HH:=hid hh;have HL:=hid hl;have HV:Hid (((h:Nat):Rat)*(2:Rat)^(64:Int)+((l:Nat):Rat)=((h*2^64+l:Nat):Rat)):=hid (by
  rw [show (64:Int)=((64:Nat):Int) from rfl,nat_up,←Rat.natCast_add])
 clear hh hl;obtain ⟨W0,hW0,g0,hz0,B_X,B_Z⟩:=pro2s w #[.int .u64 (h:Nat),.int .u64 (l:Nat)] #[.int .i64 0,.slice none 0 0,.slice none 0 0] 29 43;have HE:=hid g0;have HB_X:=hid B_X;have HB_Z:=hid B_Z;have ac:=cland HB_X.o.a2 (HB_Z.o.a3);have hr0:Ext W0 W0:=Below.refl _ _;clear g0 B_X B_Z 
 go_enter Tryz.func194,Tryz.ntmps194
 go_upto_region 1 with (fail)
 rw [←hW0];clear hW0;have kc:=(Box.bt (z:=w.heap.size+1) HB_X.o (by omega) Box.n2);have g1:Ext W0 W0.drew:=Below.drew (Below.refl _ _);refine wp_region_held_drew (S:=But W0 (w.heap.size+1)) (by kernel_rfl) (g1.but) (fun hHeld => ?_);generalize W0.drew=wD1 at *
 apply wts 0 3 rfl rfl (by kernel_rfl) (fun _ _ _ h=>h) hHeld
 ·intro w' hSw;go_simp<;>with_reducible rfl
 apply wts 1 4 rfl rfl (by kernel_rfl) (fun _ _ _ h=>h) hHeld
 ·intro w' hSw;go_simp<;>with_reducible rfl
 apply wts 4 7 rfl rfl (by kernel_rfl) (fun _ _ _ h=>h) hHeld
 ·intro w' hSw;go_simp<;>with_reducible rfl
 apply wts 5 8 rfl rfl (by kernel_rfl) (fun _ _ _ h=>h) hHeld
 ·intro w' hSw;go_simp<;>with_reducible rfl
 try simp only [Act.put,pA,pB,pC]
 refine wonc 2 5 239 #[.tmp 4] #[27] 43 (by kernel_rfl) rfl rfl (fun KK hKK => ?_);go_simp;refine (runsigned_c h _ HH.o).mono ?_;rintro e w2 ⟨v2,rfl,k1,g2⟩;have hb1:=g1.trans g2
 try dsimp only
 refine hKK.out _ _ (hb1.but) (fun hHeld => ?_)
 try simp only [Act.put,pA,pB,pC]
 refine wonc 3 6 141 #[.tmp 5,.const (Value.int IntKind.i64 64)] #[43,3] 43 (by kernel_rfl) rfl rfl (fun KK hKK => ?_);go_simp;refine (rshiftq_c _ _ 65 64 _ k1 (nat_sm HH.o) (by decide) (by decide) (by decide)).mono ?_;rintro e w3 ⟨v3,rfl,k2,g3⟩;have hb2:=hb1.trans g3
 try dsimp only
 refine hKK.out _ _ (hb2.but) (fun hHeld => ?_)
 try simp only [Act.put,pA,pB,pC]
 refine wonc 6 9 239 #[.tmp 8] #[27] 43 (by kernel_rfl) rfl rfl (fun KK hKK => ?_);go_simp;refine (runsigned_c l _ HL.o).mono ?_;rintro e w4 ⟨v4,rfl,k3,g4⟩;have hb3:=hb2.trans g4
 try dsimp only
 refine hKK.out _ _ (hb3.but) (fun hHeld => ?_)
 try simp only [Act.put,pA,pB,pC]
 refine wonc 7 10 89 #[.tmp 6,.tmp 9] #[43,43] 43 (by kernel_rfl) rfl rfl (fun KK hKK => ?_);go_simp;refine (raddq_c _ _ _ _ 200 _ (k2.ext g4) k3 (((nat_sm (K:=64) HH.o).mul_p2 64 65 (by decide)).mono (by decide)) ((nat_sm (K:=64) HL.o).mono (by decide)) (by decide)).mono ?_;rintro e w5 ⟨v,rfl,k9,g5⟩;have hb4:=hb3.trans g5;obtain ⟨s9,a9,n9,c9,a9',n9',c9',rfl⟩:=k9.shape
 try dsimp only
 refine hKK.out _ _ (hb4.but) (fun hHeld => ?_)
 try simp only [Act.put,pA,pB,pC]
 refine wons 8 43 2 10 (by kernel_rfl) rfl rfl (fun KK hKK => ?_);obtain ⟨U5,U6,U7⟩:=(HB_Z.o.ext hb4).f3;go_simp;clear U5 U6 U7;obtain ⟨W6,hW6,g6,q6,B6,hy6,ho6⟩:=rsto3 (HE.o.trans hb4) (by omega) (HB_Z.o.ext hb4) (by decide) (.int .i64 s9) (.slice a9 n9 c9) (.slice a9' n9' c9');rw [←hW6];clear hW6;replace HB_Z:=hid B6;have hq6:But W0 (w.heap.size+1) W6:=But.sto (hb4.but) ho6
 try dsimp only
 refine hKK.out _ _ (hq6) (fun hHeld => ?_);refine wpAnyH_done (by kernel_rfl) ?_ _;have ac:=cland (ho6 _ _ _ (by omega) (HB_X.o.ext (g1.trans (g2.trans (g3.trans (g4.trans g5)))))).a2 (HB_Z.o.a3);have hr8:Ext W6 W6:=Below.refl _ _;go_wp2_with fail;obtain ⟨J9,J10,J11⟩:=HB_Z.o.c3;refine bodyPost_ret (v:=.agg #[.int .i64 s9,.slice a9 n9 c9,.slice a9' n9' c9']) (by simp [results,Tryz.results194,go_sem,J9,J10,J11]) rfl ⟨_,rfl,by rw [←HV.o];exact (k9.keepR q6),g6⟩
theorem rbits_c (n:Nat) (w:World) (hn:n<340282366920938463463374607431768211456):Calls Tryz.prog 194 #[Word n] w fun e w'=>∃ v,e=.returned v∧RNumV w' v ((n:Nat):Rat)∧Ext w w':=by
 have h:=rbits_hl (n/18446744073709551616) (n%18446744073709551616) w (by omega) (by omega);rw [show n/18446744073709551616*2^64+n%18446744073709551616=n from by omega] at h
 exact h
theorem rpart_c (x:Value) (N fr b:Nat) (f g:Int) (w:World) (hx:RNumV w x ((N:Nat):Rat)) (hN:N<2^200) (hf:f=(fr:Int)) (hg:g=(b:Int)) (hf1:fr≤1000) (hg1:b≤1000) :
  Calls Tryz.prog 195 #[x,.int .i64 f,.int .i64 g] w fun e w'=>∃ v,e=.returned v∧RNumV w' v ((N/2^fr%2^b:Nat):Rat)∧Ext w w':=by
 obtain ⟨s1,a1,n1,c1,a1',n1',c1',rfl⟩:=hx.shape;have hvx:=hx;have f0:0≤f:=by omega
 have f1:f≤1000:=by omega
 have g0:0≤g:=by omega
 have g1':g≤1000:=by omega
 obtain ⟨M,hM⟩:∃ M,M=N/2^fr:=⟨_,rfl⟩;have SN:Hid (SmQ 201 ((N:Nat):Rat)):=hid (nat_sm hN);have SM:Hid (SmQ 201 ((M:Nat):Rat)):=hid (nat_sm (by rw [hM];exact Nat.lt_of_le_of_lt (Nat.div_le_self _ _) hN));have SD:Hid (SmQ 201 ((M/2^b:Nat):Rat)):=hid (nat_sm (by rw [hM];exact Nat.lt_of_le_of_lt (Nat.le_trans (Nat.div_le_self _ _) (Nat.div_le_self _ _)) hN));have SB:Hid (SmQ 201 ((M/2^b*2^b:Nat):Rat)):=hid (nat_sm (by rw [hM];exact Nat.lt_of_le_of_lt (Nat.le_trans (Nat.div_mul_le_self _ _) (Nat.div_le_self _ _)) hN));have V1:Hid ((((N:Nat):Rat)*(2:Rat)^(-f)).floor=((M:Nat):Int)):=hid (by rw [hf,hM,nat_floor_half]);have V2:Hid ((((M:Nat):Rat)*(2:Rat)^(-g)).floor=((M/2^b:Nat):Int)):=hid (by rw [hg,nat_floor_half]);have V3:Hid (((M/2^b:Nat):Rat)*(2:Rat)^g=((M/2^b*2^b:Nat):Rat)):=hid (by rw [hg,nat_up]);have V4:Hid (((M:Nat):Rat)-((M/2^b*2^b:Nat):Rat)=((N/2^fr%2^b:Nat):Rat)):=hid (by
  rw [←hM];have h1:M=M/2^b*2^b+M%2^b:=by have:=Nat.div_add_mod M (2^b);rw [Nat.mul_comm];omega
  have h2:((M:Nat):Rat)=((M/2^b*2^b:Nat):Rat)+((M%2^b:Nat):Rat):=by rw [←Rat.natCast_add,←h1]
  rw [h2];grind)
 have CS1:Hid (∀ w u,RNumV w u ((N:Nat):Rat)→Calls Tryz.prog 141 #[u,.int .i64 (-f)] w fun e w'=>∃ v,e=.returned v∧RNumV w' v (((N:Nat):Rat)*(2:Rat)^(-f))∧Ext w w'):=hid fun w u h=>rshiftq_c u _ 201 (-f) w h SN.o (by omega) (by omega) (by decide);have CF1:Hid (∀ w u,RNumV w u (((N:Nat):Rat)*(2:Rat)^(-f))→Calls Tryz.prog 203 #[u] w fun e w'=>∃ v,e=.returned v∧RNumV w' v ((M:Nat):Rat)∧Ext w w'):=hid fun w u h=>by
  have h2:=rfloor_c u _ 1202 w h ((SN.o.mul_p2 (-f) 1001 (by omega)).mono (by decide)) (by decide);rw [V1.o] at h2;exact h2
 have CS2:Hid (∀ w u,RNumV w u ((M:Nat):Rat)→Calls Tryz.prog 141 #[u,.int .i64 (-g)] w fun e w'=>∃ v,e=.returned v∧RNumV w' v (((M:Nat):Rat)*(2:Rat)^(-g))∧Ext w w'):=hid fun w u h=>rshiftq_c u _ 201 (-g) w h SM.o (by omega) (by omega) (by decide);have CF2:Hid (∀ w u,RNumV w u (((M:Nat):Rat)*(2:Rat)^(-g))→Calls Tryz.prog 203 #[u] w fun e w'=>∃ v,e=.returned v∧RNumV w' v ((M/2^b:Nat):Rat)∧Ext w w'):=hid fun w u h=>by
  have h2:=rfloor_c u _ 1202 w h ((SM.o.mul_p2 (-g) 1001 (by omega)).mono (by decide)) (by decide);rw [V2.o] at h2;exact h2
 have CS3:Hid (∀ w u,RNumV w u ((M/2^b:Nat):Rat)→Calls Tryz.prog 141 #[u,.int .i64 g] w fun e w'=>∃ v,e=.returned v∧RNumV w' v ((M/2^b*2^b:Nat):Rat)∧Ext w w'):=hid fun w u h=>by
  have h2:=rshiftq_c u _ 201 g w h SD.o (by omega) (by omega) (by decide);rw [V3.o] at h2;exact h2
 have CD:Hid (∀ w u v,RNumV w u ((M:Nat):Rat)→RNumV w v ((M/2^b*2^b:Nat):Rat)→Calls Tryz.prog 129 #[u,v] w fun e w'=>∃ v,e=.returned v∧RNumV w' v ((N/2^fr%2^b:Nat):Rat)∧Ext w w'):=hid fun w u v h1 h2=>by
  have h3:=rsubq_c u v _ _ 201 w h1 h2 SM.o SB.o (by decide);rw [V4.o] at h3;exact h3
 clear hx hN hf hg hM hf1 hg1;obtain ⟨W0,hW0,g0,hz0,B_X,B_Z⟩:=pro2s w #[.int .i64 s1,.slice a1 n1 c1,.slice a1' n1' c1'] #[.int .i64 0,.slice none 0 0,.slice none 0 0] 43 43;have HE:=hid g0;have HB_X:=hid B_X;have HB_Z:=hid B_Z;have ac:=cland HB_X.o.a3 (HB_Z.o.a3);have hr0:Ext W0 W0:=Below.refl _ _;clear g0 B_X B_Z 
 go_enter Tryz.func195,Tryz.ntmps195
 go_upto_region 1 with (fail)
 rw [←hW0];clear hW0;replace hvx:=hvx.ext HE.o;go_wp2_with fail;refine (CS1.o _ _ hvx).mono ?_;rintro e w1 ⟨v1,rfl,k1,g1⟩;go_wp2_with fail;refine (CF1.o _ _ k1).mono ?_;rintro e w2 ⟨v2,rfl,k2,g2⟩;have hb1:=g1.trans g2;obtain ⟨s2,a2,n2,c2,a2',n2',c2',rfl⟩:=k2.shape;have gA:=hb1.trans (Ext.alloc w2 (.cells #[.int .i64 s2,.slice a2 n2 c2,.slice a2' n2' c2'] 43))
 go_upto_region 2 with (fail)
 clear gA;have hs2:=(g1.trans g2).size;obtain ⟨W3,hW3,g3,hy3,B_Q⟩:=pro1 w2 #[.int .i64 s2,.slice a2 n2 c2,.slice a2' n2' c2'] 43;rw [←hW3];clear hW3;have hb3:=hb1.trans g3;have HB_Q:=hid B_Q;clear B_Q;have he4:=(HE.o.trans hb3);replace ac:=hb3.cl ac;have hr5:Ext W3 W3:=Below.refl _ _;replace ac:=cland ac HB_Q.o.a3;clear k1;have hwg:IntKind.i64.wrap (-g) = -g:=IntWalk.i64_in _ (by omega);have kc:=(Box.bt (z:=w.heap.size+1) HB_Q.o (by omega) Box.n3);have g4:Ext W3 W3.drew:=Below.drew (Below.refl _ _);refine wp_region_held_drew (S:=But W3 (w.heap.size+1)) (by kernel_rfl) (g4.but) (fun hHeld => ?_);generalize W3.drew=wD4 at *
 apply wts 0 13 rfl rfl (by kernel_rfl) (fun _ _ _ h=>h) hHeld
 ·intro w' hSw;go_simp<;>with_reducible rfl
 apply wts 1 14 rfl rfl (by kernel_rfl) (fun _ _ _ h=>h) hHeld
 ·intro w' hSw;go_simp<;>with_reducible rfl
 apply wts 2 15 rfl rfl (by kernel_rfl) (fun _ _ _ h=>h) hHeld
 ·intro w' hSw;go_simp<;>with_reducible rfl
 apply wts 3 16 rfl rfl (by kernel_rfl) (fun _ _ _ h=>h) hHeld
 ·intro w' hSw;go_simp<;>with_reducible rfl
 apply wts 6 19 rfl rfl (by kernel_rfl) (fun _ _ _ h=>h) hHeld
 ·intro w' hSw;go_simp<;>with_reducible rfl
 try simp only [Act.put,pA,pB,pC]
 refine wonc 4 17 141 #[.tmp 14,.tmp 16] #[43,3] 43 (by kernel_rfl) rfl rfl (fun KK hKK => ?_);go_simp;refine (CS2.o _ _ ((k2.ext g3).ext g4)).mono ?_;rintro e w5 ⟨v5,rfl,k3,g5⟩;have hb6:=g4.trans g5
 try dsimp only
 refine hKK.out _ _ (hb6.but) (fun hHeld => ?_)
 try simp only [Act.put,pA,pB,pC]
 refine wonc 5 18 203 #[.tmp 17] #[43] 43 (by kernel_rfl) rfl rfl (fun KK hKK => ?_);go_simp;refine (CF2.o _ _ k3).mono ?_;rintro e w6 ⟨v6,rfl,k4,g6⟩;have hb7:=hb6.trans g6
 try dsimp only
 refine hKK.out _ _ (hb7.but) (fun hHeld => ?_)
 try simp only [Act.put,pA,pB,pC]
 refine wonc 7 20 141 #[.tmp 18,.tmp 19] #[43,3] 43 (by kernel_rfl) rfl rfl (fun KK hKK => ?_);go_simp;refine (CS3.o _ _ k4).mono ?_;rintro e w7 ⟨v7,rfl,k5,g7⟩;have hb8:=hb7.trans g7
 try dsimp only
 refine hKK.out _ _ (hb8.but) (fun hHeld => ?_)
 try simp only [Act.put,pA,pB,pC]
 refine wonc 8 21 129 #[.tmp 13,.tmp 20] #[43,43] 43 (by kernel_rfl) rfl rfl (fun KK hKK => ?_);go_simp;refine (CD.o _ _ _ ((k2.ext g3).ext hb8) k5).mono ?_;rintro e w8 ⟨v8,rfl,k9,g8⟩;have hb9:=hb8.trans g8;obtain ⟨s9,a9,n9,c9,a9',n9',c9',rfl⟩:=k9.shape
 try dsimp only
 refine hKK.out _ _ (hb9.but) (fun hHeld => ?_)
 try simp only [Act.put,pA,pB,pC]
 refine wons 9 43 6 21 (by kernel_rfl) rfl rfl (fun KK hKK => ?_);obtain ⟨U10,U11,U12⟩:=((HB_Z.o.ext (g1.trans (g2.trans g3))).ext hb9).f3;go_simp;clear U10 U11 U12;obtain ⟨W9,hW9,g9,q9,B9,hy9,ho9⟩:=rsto3 (he4.trans hb9) (by omega) ((HB_Z.o.ext (g1.trans (g2.trans g3))).ext hb9) (by decide) (.int .i64 s9) (.slice a9 n9 c9) (.slice a9' n9' c9');rw [←hW9];clear hW9;replace HB_Z:=hid B9;have hq9:But W3 (w.heap.size+1) W9:=But.sto (hb9.but) ho9
 try dsimp only
 refine hKK.out _ _ (hq9) (fun hHeld => ?_);refine wpAnyH_done (by kernel_rfl) ?_ _;have ac:=cland (ho9 _ _ _ (by omega) (HB_X.o.ext (g1.trans (g2.trans (g3.trans (g4.trans (g5.trans (g6.trans (g7.trans g8))))))))).a3 (cland HB_Z.o.a3 ((ho9 _ _ _ (by omega) (HB_Q.o.ext (g4.trans (g5.trans (g6.trans (g7.trans g8)))))).a3));have hr13:Ext W9 W9:=Below.refl _ _;go_wp2_with fail;obtain ⟨J14,J15,J16⟩:=HB_Z.o.c3;refine bodyPost_ret (v:=.agg #[.int .i64 s9,.slice a9 n9 c9,.slice a9' n9' c9']) (by simp [results,Tryz.results195,go_sem,J14,J15,J16]) rfl ⟨_,rfl,(k9.keepR q9),g9⟩

theorem rbias_c (E P:Nat) (w:World) (hF:Fmt E P) :
  Calls Tryz.prog 142 #[.agg #[.int .i64 (E:Nat),.int .i64 (P:Nat)]] w fun e w'=>e=.returned (.int .i64 (bias E:Nat))∧Ext w w':=by
 obtain ⟨hE1,hE2,_,_,_⟩:=hF;obtain ⟨b,hb⟩:∃ b,b=bias E:=⟨_,rfl⟩;rw [←hb];have HB:=hid hb;clear hb;obtain ⟨W0,hW0,g0,hz0,B_F⟩:=pro1 w #[.int .i64 (E:Nat),.int .i64 (P:Nat)] 23;have HE:=hid g0;have HB_F:=hid B_F;have ac:=HB_F.o.a2;have hr0:Ext W0 W0:=Below.refl _ _;clear g0 B_F 
 go_enter Tryz.func142,Tryz.ntmps142
 go_upto_region 1 with (fail)
 rw [←hW0];clear hW0;go_wp2_with fail
 go_loopg [3,4] (E-1) (fun g x i wx=>∃ j:Nat,x=.int .i64 ((2^j:Nat):Int)∧i=.int .i64 ((j+1:Nat):Int)∧g+j+1=E∧Hid (Ext W0 wx))
 case atStart=>exact ⟨0,rfl,rfl,by omega,hid (Below.refl _ _)⟩
 case round =>
  obtain ⟨j,rfl,rfl,hj,HEr⟩:=hrel;have HXr:=hid (HB_F.o.ext HEr.o);obtain ⟨y0,y1⟩:=HXr.o.c2;have hp:2^j≤2^11:=Nat.pow_le_pow_right (by decide) (by omega);obtain ⟨p,hp2⟩:∃ p,p=2^j:=⟨_,rfl⟩;rw [←hp2] at hp ⊢;have HP:=hid hp2;clear hp2;have hp3:p≤2048:=hp;clear hp
  rcases Nat.eq_zero_or_pos gk with h0 | h0
  ·have hd:decide (j+1<E)=false:=decide_eq_false (by omega);have hd2:decide (((j:Int)+1)<(E:Int))=false:=decide_eq_false (by omega);have HJ:=hid hj;have HG:=hid h0;clear h0;go_wp2_with fail;go_ret
   exact ⟨(by rw [HB.o];unfold bias;rw [show E-1=j by have:=HJ.o;have:=HG.o;omega,←HP.o];show Ending.returned (.int .i64 ((p:Int)-1))=_;have h7:0<p:=(by rw [HP.o];exact Nat.pow_pos (by decide));rw [show ((p-1:Nat):Int)=(p:Int)-1 from (by omega)]),HE.o.trans HEr.o⟩
  ·have hd:decide (j+1<E)=true:=decide_eq_true (by omega);have hd2:decide (((j:Int)+1)<(E:Int))=true:=decide_eq_true (by omega);go_wp2_with fail
   go_roundg (gk-1)
   case measure=>omega
   case rel=>exact ⟨j+1,vint (by rw [Nat.pow_succ,←HP.o];omega),by go_num,by omega,HEr⟩
theorem rtop_c (E P:Nat) (w:World) (hF:Fmt E P) :
  Calls Tryz.prog 91 #[.agg #[.int .i64 (E:Nat),.int .i64 (P:Nat)]] w fun e w'=>e=.returned (.int .i64 ((2^E-1:Nat):Int))∧Ext w w':=by
 obtain ⟨b,hb⟩:∃ b,b=bias E:=⟨_,rfl⟩;have CB:Hid (∀ w,Calls Tryz.prog 142 #[.agg #[.int .i64 (E:Nat),.int .i64 (P:Nat)]] w fun e w'=>e=.returned (.int .i64 (b:Nat))∧Ext w w'):=hid fun w=>by rw [hb];exact rbias_c E P w hF
 obtain ⟨t,ht⟩:∃ t,t=2^E-1:=⟨_,rfl⟩;have HT:Hid (2*(b:Int)+1=(t:Int)):=hid (by
  have h1:2^E=2*2^(E-1):=by rw [←Nat.pow_succ'];congr 1;have:=(fmt_bounds hF).1.1;omega
  have h2:0<2^(E-1):=Nat.pow_pos (by decide);rw [ht,hb];unfold bias;omega)
 have hb1:b≤1023:=by rw [hb];exact (fmt_bounds hF).2.2.1
 rw [←ht];clear hF hb ht;obtain ⟨W0,hW0,g0,hz0,B_F⟩:=pro1 w #[.int .i64 (E:Nat),.int .i64 (P:Nat)] 23;have HE:=hid g0;have HB_F:=hid B_F;have ac:=HB_F.o.a2;have hr0:Ext W0 W0:=Below.refl _ _;clear g0 B_F 
 go_enter Tryz.func91,Tryz.ntmps91
 go_upto_region 1 with (fail)
 rw [←hW0];clear hW0;go_wp2_with fail;refine (CB.o _).mono ?_;rintro e w1 ⟨rfl,g1⟩;go_wp2_with fail;go_ret
 exact ⟨(by show Ending.returned (.int .i64 (2*(b:Int)+1))=_;rw [HT.o]),(HE.o.trans g1)⟩

theorem fmt_pow {E P:Nat} (hF:Fmt E P):2^(E+P)≤2^124:=Nat.pow_le_pow_right (by decide) (fmt_bounds hF).2.2.2.1


def ROpV (w:World) (v:Value) (k:Int) (neg:Bool) (q:Rat):Prop:=∃ (s:Int) (a:Option Addr) (n c:Nat) (a':Option Addr) (n' c':Nat),v=.agg #[.int .i64 k,.bool neg,.int .i64 s,.slice a n c,.slice a' n' c']∧RNumV w (.agg #[.int .i64 s,.slice a n c,.slice a' n' c']) q
structure LookC (E P n f r T:Nat) (neg:Bool):Prop where
 cw:∀ h l:Nat,Word n=.agg #[.int .u64 (h:Nat),.int .u64 (l:Nat)]→∀ w,Calls Tryz.prog 194 #[.agg #[.int .u64 (h:Nat),.int .u64 (l:Nat)]] w fun e w'=>∃ v,e=.returned v∧RNumV w' v ((n:Nat):Rat)∧Ext w w'
 p1:∀ w x,RNumV w x ((n:Nat):Rat)→Calls Tryz.prog 195 #[x,.int .i64 0,.int .i64 ((P:Int)-1)] w fun e w'=>∃ v,e=.returned v∧RNumV w' v ((r:Nat):Rat)∧Ext w w'
 p2:∀ w x,RNumV w x ((n:Nat):Rat)→Calls Tryz.prog 195 #[x,.int .i64 ((P:Int)-1),.int .i64 (E:Nat)] w fun e w'=>∃ v,e=.returned v∧RNumV w' v ((f:Nat):Rat)∧Ext w w'
 p3:∀ w x,RNumV w x ((n:Nat):Rat)→Calls Tryz.prog 195 #[x,.int .i64 ((E:Int)+(P:Int)-1),.int .i64 1] w fun e w'=>∃ v,e=.returned v∧RNumV w' v (((if neg then 1 else 0:Nat):Nat):Rat)∧Ext w w'
 f1:f<4294967296
 tw:∀ w,Calls Tryz.prog 88 #[.int .i64 ((P:Int)-2)] w fun e w'=>∃ v,e=.returned v∧RNumV w' v ((2^(P-2):Nat):Rat)∧Ext w w'
 tp:∀ w,Calls Tryz.prog 91 #[.agg #[.int .i64 (E:Nat),.int .i64 (P:Nat)]] w fun e w'=>e=.returned (.int .i64 (T:Nat))∧Ext w w'
 hT:T=2^E-1
 hr:r<2^(P-1)
 hf:f≤T
theorem LookC.of {E P n:Nat} (hF:Fmt E P) (hn:n<2^(E+P)):LookC E P n (n/2^(P-1)%2^E) (n%2^(P-1)) (2^E-1) (wn E P n):=by
 obtain ⟨hE,hP,hb,hEP,hb1⟩:=fmt_bounds hF;have h124:=fmt_pow hF;have hn200:n<2^200:=by omega
 have hE0:0<2^E:=Nat.pow_pos (by decide);refine ⟨fun h l e w => ?_,fun w x h => ?_,fun w x h => ?_,fun w x h => ?_,?_,fun w => ?_,fun w=>rtop_c E P w hF,rfl,Nat.mod_lt _ (Nat.pow_pos (by decide)),?_⟩
 ·rw [←e];exact rbits_c n w (by omega)
 ·have h2:=rpart_c x n 0 (P-1) 0 ((P:Int)-1) w h hn200 rfl (by omega) (by omega) (by omega);rw [Nat.pow_zero,Nat.div_one] at h2;exact h2
 ·exact rpart_c x n (P-1) E ((P:Int)-1) (E:Int) w h hn200 (by omega) rfl (by omega) (by omega)
 ·have h2:=rpart_c x n (E+P-1) 1 ((E:Int)+(P:Int)-1) 1 w h hn200 (by omega) rfl (by omega) (by omega);have h3:n/2^(E+P-1)<2:=by
   apply Nat.div_lt_of_lt_mul
   rw [Nat.mul_comm,←Nat.pow_succ']
   rwa [show (E+P-1).succ=E+P by omega]
  have e:n/2^(E+P-1)%2^1=if wn E P n then 1 else 0:=by
   unfold wn;generalize n/2^(E+P-1)=d at *
   by_cases h4:d=0
   ·rw [h4];simp
   ·rw [show d=1 by omega];simp
  rw [e] at h2;exact h2
 ·have:n/2^(P-1)%2^E<2^E:=Nat.mod_lt _ hE0
  have:2^E≤2^11:=Nat.pow_le_pow_right (by decide) hE.2
  omega
 ·have h2:=rtwo_c ((P-2:Nat):Int) w (by omega) (by omega);rw [p2_nat] at h2;rw [show (P:Int)-2=((P-2:Nat):Int) by omega];exact h2
 ·have:n/2^(P-1)%2^E<2^E:=Nat.mod_lt _ hE0
  omega
theorem ROpV.ext {w w':World} {v:Value} {k:Int} {neg:Bool} {q:Rat} (h:ROpV w v k neg q) (e:Ext w w'):ROpV w' v k neg q:=by
 obtain ⟨s,a,n,c,a',n',c',h1,h2⟩:=h;exact ⟨s,a,n,c,a',n',c',h1,h2.ext e⟩
end Go.Proofs.YtgabigepocfllaaGreatDoor
