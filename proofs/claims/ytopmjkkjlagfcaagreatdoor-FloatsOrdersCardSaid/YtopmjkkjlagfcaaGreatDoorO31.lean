/- floats: ranked, Next, Nth. -/
import Derived.Test.YtopmjkkjlagfcaaGreatDoorO27
import Derived.Test.YtopmjkkjlagfcaaGreatDoorO30
namespace Go.Proofs.YtopmjkkjlagfcaaGreatDoor
open Go.RowKit Vn
set_option maxRecDepth 100000
set_option maxHeartbeats 8000000
theorem Word.inj {n k:Nat} (h:Word n=Word k):n=k:=by
 unfold Word at h;have h2:((n/18446744073709551616:Nat):Int)=((k/18446744073709551616:Nat):Int)∧((n%18446744073709551616:Nat):Int)=((k%18446744073709551616:Nat):Int):=by simpa using h
 omega
theorem ranked_c (E P m b:Nat) (x:Value) (z:Int) (w:World) (hF:Fmt E P) (hx:NumV w x ((z:Int):Rat)) (hz:z.natAbs<2^124) :
  Calls Tryz.prog 84 #[.agg #[.int .i64 (E:Nat),.int .i64 (P:Nat),.int .i64 (m:Nat),.int .i64 (b:Nat)],x] w fun e w'=>e=.returned (Word (rankW E P z))∧Ext w w':=by
 obtain ⟨ng,a,n,c,a',n',c',rfl⟩:=hx.shape;obtain ⟨hE,hP,_,hEP,_⟩:=fmt_bounds hF;obtain ⟨sg,hsg⟩:∃ s,s=z.sign:=⟨_,rfl⟩;obtain ⟨neg,hneg⟩:∃ s,s=decide (z<0):=⟨_,rfl⟩;have hd:decide (sg<0)=neg:=by
  rw [hsg,hneg]
  by_cases h:z<0
  ·rw [decide_eq_true h,decide_eq_true (Int.sign_neg_iff.2 h)]
  ·rw [decide_eq_false h,decide_eq_false (fun k=>h (Int.sign_neg_iff.1 k))]
 obtain ⟨s0,s1,es⟩:=Word.shape (sgb E P neg);obtain ⟨p0,p1,ep⟩:=Word.shape z.natAbs;obtain ⟨r0,r1,er⟩:=Word.shape (rankW E P z);have p8:W128 z.natAbs:=by show _<2^128;omega
 have CSG:Hid (∀ v w,NumV w v ((z:Int):Rat)→Calls Tryz.prog 27 #[v] w fun e w'=>e=.returned (.int .i64 sg)∧Ext w w'):=hid fun v w h=>by rw [hsg];exact sign_c v _ w h
 have CS:Hid (∀ w,Calls Tryz.prog 111 #[.agg #[.int .i64 (E:Nat),.int .i64 (P:Nat),.int .i64 (m:Nat),.int .i64 (b:Nat)],.bool neg] w fun e w'=>e=.returned (.agg #[.int .u64 s0,.int .u64 s1])∧Ext w w'):=hid fun w=>by
  have:=sign_c' E P m b neg w hF
  rwa [es] at this
 have CAB:Hid (∀ v w,NumV w v ((z:Int):Rat)→Calls Tryz.prog 25 #[v] w fun e w'=>∃ t,e=.returned t∧NumV w' t ((z.natAbs:Nat):Rat)∧Ext w w'):=hid fun v w h=>by
  have:=abs_c v _ w h
  rwa [show mkq false ((z:Int):Rat).num.natAbs ((z:Int):Rat).den=((z.natAbs:Nat):Rat) from mkq_nat _] at this
 have CPK:Hid (∀ v w,NumV w v ((z.natAbs:Nat):Rat)→Calls Tryz.prog 49 #[v] w fun e w'=>e=.returned (.agg #[.int .u64 p0,.int .u64 p1])∧Ext w w'):=hid fun v w h=>by
  have:=packed_c v z.natAbs w h p8
  rwa [ep] at this
 have CBO:Hid (∀ w,Calls Tryz.prog 48 #[.agg #[.int .u64 s0,.int .u64 s1],.agg #[.int .u64 p0,.int .u64 p1]] w fun e w'=>e=.returned (.agg #[.int .u64 r0,.int .u64 r1])∧Ext w w'):=hid fun w=>by
  have:=both_w (sgb E P neg) z.natAbs w (sgb_w128 hEP neg) p8
  rw [hneg] at this es;unfold rankW at er
  rwa [es,ep,er] at this
 rw [er];have HX:=hid hx;clear hF hx hz hE hP hEP hsg hneg es ep er p8;obtain ⟨W0,hW0,g0,hz0,B_M,B_X,B_Z⟩:=pro3s w #[.int .i64 (E:Nat),.int .i64 (P:Nat),.int .i64 (m:Nat),.int .i64 (b:Nat)] #[.bool ng,.slice a n c,.slice a' n' c'] #[.int .u64 0,.int .u64 0] 81 40 29;have HE:=hid g0;have HB_M:=hid B_M;have HB_X:=hid B_X;have HB_Z:=hid B_Z;have ac:=cland HB_M.o.a4 (cland HB_X.o.a3 (HB_Z.o.a2));have hr0:Ext W0 W0:=Below.refl _ _;clear g0 B_M B_X B_Z 
 go_enter Tryz.func84,Tryz.ntmps84
 go_upto_region 1 with (fail)
 rw [←hW0];clear hW0;have kx:=HX.o.ext HE.o;have kc:=cland (Box.bt (z:=w.heap.size+1+1) HB_M.o (by omega) Box.n4) ((Box.bt (z:=w.heap.size+1+1) HB_X.o (by omega) Box.n3));have g1:Ext W0 W0.drew:=Below.drew (Below.refl _ _);refine wp_region_held_drew (S:=But W0 (w.heap.size+1+1)) (by kernel_rfl) (g1.but) (fun hHeld => ?_);generalize W0.drew=wD1 at *
 apply wts 0 5 rfl rfl (by kernel_rfl) (fun _ _ _ h=>h) hHeld
 ·intro w' hSw;go_simp<;>with_reducible rfl
 apply wts 1 6 rfl rfl (by kernel_rfl) (fun _ _ _ h=>h) hHeld
 ·intro w' hSw;go_simp<;>with_reducible rfl
 apply wts 5 10 rfl rfl (by kernel_rfl) (fun _ _ _ h=>h) hHeld
 ·intro w' hSw;go_simp<;>with_reducible rfl
 try simp only [Act.put,pA,pB,pC]
 refine wonc 2 7 27 #[.tmp 6] #[40] 3 (by kernel_rfl) rfl rfl (fun KK hKK => ?_);go_simp;refine (CSG.o _ _ (kx.ext g1)).mono ?_;rintro e w2 ⟨rfl,g2⟩;have hb1:=g1.trans g2
 try dsimp only
 refine hKK.out _ _ (hb1.but) (fun hHeld => ?_);apply wts 3 8 rfl rfl (by kernel_rfl) (fun _ _ _ h=>h) hHeld
 ·intro w' hSw;go_simp<;>with_reducible rfl
 try simp only [Act.put,pA,pB,pC]
 refine wonc 4 9 111 #[.tmp 5,.tmp 8] #[81,4] 29 (by kernel_rfl) rfl rfl (fun KK hKK => ?_);go_simp;refine (CS.o _).mono ?_;rintro e w3 ⟨rfl,g3⟩;have hb2:=hb1.trans g3
 try dsimp only
 refine hKK.out _ _ (hb2.but) (fun hHeld => ?_)
 try simp only [Act.put,pA,pB,pC]
 refine wonc 6 11 25 #[.tmp 10] #[40] 40 (by kernel_rfl) rfl rfl (fun KK hKK => ?_);go_simp;refine (CAB.o _ _ (kx.ext hb2)).mono ?_;rintro e w4 ⟨v3,rfl,k3,g4⟩;have hb3:=hb2.trans g4
 try dsimp only
 refine hKK.out _ _ (hb3.but) (fun hHeld => ?_)
 try simp only [Act.put,pA,pB,pC]
 refine wonc 7 12 49 #[.tmp 11] #[40] 29 (by kernel_rfl) rfl rfl (fun KK hKK => ?_);go_simp;refine (CPK.o _ _ k3).mono ?_;rintro e w5 ⟨rfl,g5⟩;have hb4:=hb3.trans g5
 try dsimp only
 refine hKK.out _ _ (hb4.but) (fun hHeld => ?_)
 try simp only [Act.put,pA,pB,pC]
 refine wonc 8 13 48 #[.tmp 9,.tmp 12] #[29,29] 29 (by kernel_rfl) rfl rfl (fun KK hKK => ?_);go_simp;refine (CBO.o _).mono ?_;rintro e w6 ⟨rfl,g6⟩;have hb5:=hb4.trans g6
 try dsimp only
 refine hKK.out _ _ (hb5.but) (fun hHeld => ?_)
 try simp only [Act.put,pA,pB,pC]
 refine wons 9 29 4 13 (by kernel_rfl) rfl rfl (fun KK hKK => ?_);obtain ⟨U6,U7⟩:=(HB_Z.o.ext hb5).f2;go_simp;clear U6 U7;obtain ⟨W7,hW7,g7,q7,B7,hy7,ho7⟩:=rsto2 (HE.o.trans hb5) (by omega) (HB_Z.o.ext hb5) (by decide) (.int .u64 r0) (.int .u64 r1);rw [←hW7];clear hW7;replace HB_Z:=hid B7;have hq7:But W0 (w.heap.size+1+1) W7:=But.sto (hb5.but) ho7
 try dsimp only
 refine hKK.out _ _ (hq7) (fun hHeld => ?_);refine wpAnyH_done (by kernel_rfl) ?_ _;have ac:=cland (ho7 _ _ _ (by omega) (HB_M.o.ext (g1.trans (g2.trans (g3.trans (g4.trans (g5.trans g6))))))).a4 (cland (ho7 _ _ _ (by omega) (HB_X.o.ext (g1.trans (g2.trans (g3.trans (g4.trans (g5.trans g6))))))).a3 (HB_Z.o.a2));have hr8:Ext W7 W7:=Below.refl _ _;go_wp2_with fail;obtain ⟨J9,J10⟩:=HB_Z.o.c2;refine bodyPost_ret (v:=.agg #[.int .u64 r0,.int .u64 r1]) (by simp [results,Tryz.results84,go_sem,J9,J10]) rfl ⟨rfl,g7⟩
theorem Next_nan_u (E P n:Nat) (w:World) (hF:Fmt E P) (hn:n<2^(E+P)) (hk:4≤wkind E P n) :
  Calls Tryz.prog 21 #[.agg #[.int .i64 (E:Nat),.int .i64 (P:Nat)],Word n,.bool true] w fun e w'=>e=.returned (.tuple #[.agg #[.int .u64 0,.int .u64 0],.int .i64 4])∧Ext w w':=by
 obtain ⟨hE,hP,hb,hEP,hb1⟩:=fmt_bounds hF;have hn8:W128 n:=w128_of hEP hn;obtain ⟨i0,hi0⟩:∃ x:Nat,x=n/18446744073709551616:=⟨_,rfl⟩;obtain ⟨i1,hi1⟩:∃ x:Nat,x=n%18446744073709551616:=⟨_,rfl⟩;have ei:Word n=.agg #[.int .u64 i0,.int .u64 i1]:=by unfold Word;rw [←hi0,←hi1]
 obtain ⟨kd,hkd⟩:∃ x,x=wkind E P n:=⟨_,rfl⟩;have CI:Hid (∀ w,Calls Tryz.prog 69 #[.agg #[.int .i64 (E:Nat),.int .i64 (P:Nat),.int .i64 0,.int .i64 (bias E:Nat)],.agg #[.int .u64 i0,.int .u64 i1]] w (LookPost kd (wn E P n) (wvalK E P (bias E) n) w)):=hid fun w=>by
  rw [←ei,hkd];exact look_c E P 0 (bias E) n w hF hb hn8
 have HW:Hid (withRes E P 0 [n]=.tuple #[.agg #[.int .i64 (E:Nat),.int .i64 (P:Nat),.int .i64 0,.int .i64 (bias E:Nat)],.int .i64 0]):=hid (by unfold withRes;rw [if_pos (fun x hx=>by rw [List.mem_singleton] at hx;rw [hx];exact hn)];rfl);have hd:decide (4≤kd)=true:=decide_eq_true (by rw [hkd];exact hk);rw [ei];have HF:=hid hF;have HN:=hid hn8;have HI0:=hid hi0;have HI1:=hid hi1;clear hF hn hE hP hb hEP hb1 hn8 hi0 hi1 ei hkd hk;obtain ⟨W0,hW0,g0,hz0,B_F,B_A,B_Z⟩:=pro3s w #[.int .i64 (E:Nat),.int .i64 (P:Nat)] #[.int .u64 i0,.int .u64 i1] #[.int .u64 0,.int .u64 0] 23 29 29;have HE:=hid g0;have HB_F:=hid B_F;have HB_A:=hid B_A;have HB_Z:=hid B_Z;have ac:=cland HB_F.o.a2 (cland HB_A.o.a2 (HB_Z.o.a2));have hr0:Ext W0 W0:=Below.refl _ _;clear g0 B_F B_A B_Z 
 go_enter Tryz.func21,Tryz.ntmps21
 go_upto_region 1 with (fail)
 rw [←hW0];clear hW0;go_wp2_with fail;obtain ⟨W1,hW1,g1,hy1,B_R⟩:=pro1 W0 #[.int .u64 i0,.int .u64 i1] 29;rw [←hW1];clear hW1;have HB_R:=hid B_R;clear B_R;have he1:=(HE.o.trans g1);replace ac:=g1.cl ac;have hr2:Ext W1 W1:=Below.refl _ _;replace ac:=cland ac HB_R.o.a2;have HWS:Hid (WSl W1 (.slice (some ⟨W0.heap.size,0,none⟩) 1 1) [n]):=hid ⟨some ⟨W0.heap.size,0,none⟩,W0.heap.size,0,1,rfl,Nat.le_refl _,by decide,fun _=>rfl,fun x hx=>by
   rw [List.mem_singleton] at hx;rw [hx];exact HN.o,fun i hi=>by
   obtain rfl:i=0:=by simpa using hi
   refine ⟨?_,?_⟩
   ·have:=HB_R.o.cell 0;rw [HI0.o] at this;exact this
   ·have:=HB_R.o.cell 1;rw [HI1.o] at this;exact this⟩
 refine (with_good E P 0 _ [n] _ (by decide) HF.o HWS.o).mono ?_;rintro e w2 ⟨rfl,g2⟩;rw [HW.o];have gA:=g2.trans (Ext.alloc w2 (.cells #[.int .i64 (E:Nat),.int .i64 (P:Nat),.int .i64 0,.int .i64 (bias E:Nat)] 81));go_wp2_with fail;clear gA;have hs3:=g2.size;obtain ⟨W3,hW3,g3,hy3,B_M⟩:=pro1 w2 #[.int .i64 (E:Nat),.int .i64 (P:Nat),.int .i64 0,.int .i64 (bias E:Nat)] 81;rw [←hW3];clear hW3;have hb4:=g2.trans g3;have HB_M:=hid B_M;clear B_M;have he5:=(he1.trans hb4);replace ac:=hb4.cl ac;have hr6:Ext W3 W3:=Below.refl _ _;replace ac:=cland ac HB_M.o.a4;generalize wn E P n=sg at *
 generalize wvalK E P (bias E) n=qv at *
 refine (CI.o _).mono ?_;rintro e w4 ⟨v1,rfl,⟨ng,a,k,c,a',k',c',rfl,kv⟩,g4⟩;clear kv;have hfd:∀ W,(Instr.field 112 (.agg #[.int .i64 kd,.bool sg,.bool ng,.slice a k c,.slice a' k' c']) 0).run Tryz.prog W=.ok (.int .i64 kd) W:=fun W=>by kernel_rfl
 obtain ⟨U7,U8⟩:=((HB_Z.o.ext (g1.trans (g2.trans g3))).ext g4).f2;go_wp2_with fail;clear U7 U8;obtain ⟨W5,hW5,g5,q5,B5,hy5,ho5⟩:=rsto2 (he5.trans g4) (by omega) ((HB_Z.o.ext (g1.trans (g2.trans g3))).ext g4) (by decide) (.int .u64 0) (.int .u64 0);rw [←hW5];clear hW5;replace HB_Z:=hid B5;obtain ⟨J9,J10⟩:=HB_Z.o.c2;refine bodyPost_ret (v:=.tuple #[.agg #[.int .u64 0,.int .u64 0],.int .i64 4]) (by simp [results,Tryz.results21,go_sem,J9,J10]) rfl ⟨rfl,g5⟩
theorem Next_nan_d (E P n:Nat) (w:World) (hF:Fmt E P) (hn:n<2^(E+P)) (hk:4≤wkind E P n) :
  Calls Tryz.prog 21 #[.agg #[.int .i64 (E:Nat),.int .i64 (P:Nat)],Word n,.bool false] w fun e w'=>e=.returned (.tuple #[.agg #[.int .u64 0,.int .u64 0],.int .i64 4])∧Ext w w':=by
 obtain ⟨hE,hP,hb,hEP,hb1⟩:=fmt_bounds hF;have hn8:W128 n:=w128_of hEP hn;obtain ⟨i0,hi0⟩:∃ x:Nat,x=n/18446744073709551616:=⟨_,rfl⟩;obtain ⟨i1,hi1⟩:∃ x:Nat,x=n%18446744073709551616:=⟨_,rfl⟩;have ei:Word n=.agg #[.int .u64 i0,.int .u64 i1]:=by unfold Word;rw [←hi0,←hi1]
 obtain ⟨kd,hkd⟩:∃ x,x=wkind E P n:=⟨_,rfl⟩;have CI:Hid (∀ w,Calls Tryz.prog 69 #[.agg #[.int .i64 (E:Nat),.int .i64 (P:Nat),.int .i64 0,.int .i64 (bias E:Nat)],.agg #[.int .u64 i0,.int .u64 i1]] w (LookPost kd (wn E P n) (wvalK E P (bias E) n) w)):=hid fun w=>by
  rw [←ei,hkd];exact look_c E P 0 (bias E) n w hF hb hn8
 have HW:Hid (withRes E P 0 [n]=.tuple #[.agg #[.int .i64 (E:Nat),.int .i64 (P:Nat),.int .i64 0,.int .i64 (bias E:Nat)],.int .i64 0]):=hid (by unfold withRes;rw [if_pos (fun x hx=>by rw [List.mem_singleton] at hx;rw [hx];exact hn)];rfl);have hd:decide (4≤kd)=true:=decide_eq_true (by rw [hkd];exact hk);rw [ei];have HF:=hid hF;have HN:=hid hn8;have HI0:=hid hi0;have HI1:=hid hi1;clear hF hn hE hP hb hEP hb1 hn8 hi0 hi1 ei hkd hk;obtain ⟨W0,hW0,g0,hz0,B_F,B_A,B_Z⟩:=pro3s w #[.int .i64 (E:Nat),.int .i64 (P:Nat)] #[.int .u64 i0,.int .u64 i1] #[.int .u64 0,.int .u64 0] 23 29 29;have HE:=hid g0;have HB_F:=hid B_F;have HB_A:=hid B_A;have HB_Z:=hid B_Z;have ac:=cland HB_F.o.a2 (cland HB_A.o.a2 (HB_Z.o.a2));have hr0:Ext W0 W0:=Below.refl _ _;clear g0 B_F B_A B_Z 
 go_enter Tryz.func21,Tryz.ntmps21
 go_upto_region 1 with (fail)
 rw [←hW0];clear hW0;go_wp2_with fail;obtain ⟨W1,hW1,g1,hy1,B_R⟩:=pro1 W0 #[.int .u64 i0,.int .u64 i1] 29;rw [←hW1];clear hW1;have HB_R:=hid B_R;clear B_R;have he1:=(HE.o.trans g1);replace ac:=g1.cl ac;have hr2:Ext W1 W1:=Below.refl _ _;replace ac:=cland ac HB_R.o.a2;have HWS:Hid (WSl W1 (.slice (some ⟨W0.heap.size,0,none⟩) 1 1) [n]):=hid ⟨some ⟨W0.heap.size,0,none⟩,W0.heap.size,0,1,rfl,Nat.le_refl _,by decide,fun _=>rfl,fun x hx=>by
   rw [List.mem_singleton] at hx;rw [hx];exact HN.o,fun i hi=>by
   obtain rfl:i=0:=by simpa using hi
   refine ⟨?_,?_⟩
   ·have:=HB_R.o.cell 0;rw [HI0.o] at this;exact this
   ·have:=HB_R.o.cell 1;rw [HI1.o] at this;exact this⟩
 refine (with_good E P 0 _ [n] _ (by decide) HF.o HWS.o).mono ?_;rintro e w2 ⟨rfl,g2⟩;rw [HW.o];have gA:=g2.trans (Ext.alloc w2 (.cells #[.int .i64 (E:Nat),.int .i64 (P:Nat),.int .i64 0,.int .i64 (bias E:Nat)] 81));go_wp2_with fail;clear gA;have hs3:=g2.size;obtain ⟨W3,hW3,g3,hy3,B_M⟩:=pro1 w2 #[.int .i64 (E:Nat),.int .i64 (P:Nat),.int .i64 0,.int .i64 (bias E:Nat)] 81;rw [←hW3];clear hW3;have hb4:=g2.trans g3;have HB_M:=hid B_M;clear B_M;have he5:=(he1.trans hb4);replace ac:=hb4.cl ac;have hr6:Ext W3 W3:=Below.refl _ _;replace ac:=cland ac HB_M.o.a4;generalize wn E P n=sg at *
 generalize wvalK E P (bias E) n=qv at *
 refine (CI.o _).mono ?_;rintro e w4 ⟨v1,rfl,⟨ng,a,k,c,a',k',c',rfl,kv⟩,g4⟩;clear kv;have hfd:∀ W,(Instr.field 112 (.agg #[.int .i64 kd,.bool sg,.bool ng,.slice a k c,.slice a' k' c']) 0).run Tryz.prog W=.ok (.int .i64 kd) W:=fun W=>by kernel_rfl
 obtain ⟨U7,U8⟩:=((HB_Z.o.ext (g1.trans (g2.trans g3))).ext g4).f2;go_wp2_with fail;clear U7 U8;obtain ⟨W5,hW5,g5,q5,B5,hy5,ho5⟩:=rsto2 (he5.trans g4) (by omega) ((HB_Z.o.ext (g1.trans (g2.trans g3))).ext g4) (by decide) (.int .u64 0) (.int .u64 0);rw [←hW5];clear hW5;replace HB_Z:=hid B5;obtain ⟨J9,J10⟩:=HB_Z.o.c2;refine bodyPost_ret (v:=.tuple #[.agg #[.int .u64 0,.int .u64 0],.int .i64 4]) (by simp [results,Tryz.results21,go_sem,J9,J10]) rfl ⟨rfl,g5⟩
theorem Next_same_u (E P n:Nat) (w:World) (hF:Fmt E P) (hn:n<2^(E+P)) (hk:wkind E P n≤3) (hs:n=infw E P false) :
  Calls Tryz.prog 21 #[.agg #[.int .i64 (E:Nat),.int .i64 (P:Nat)],Word n,.bool true] w fun e w'=>e=.returned (.tuple #[Word n,.int .i64 0])∧Ext w w':=by
 obtain ⟨hE,hP,hb,hEP,hb1⟩:=fmt_bounds hF;have hn8:W128 n:=w128_of hEP hn;obtain ⟨i0,hi0⟩:∃ x:Nat,x=n/18446744073709551616:=⟨_,rfl⟩;obtain ⟨i1,hi1⟩:∃ x:Nat,x=n%18446744073709551616:=⟨_,rfl⟩;have ei:Word n=.agg #[.int .u64 i0,.int .u64 i1]:=by unfold Word;rw [←hi0,←hi1]
 obtain ⟨kd,hkd⟩:∃ x,x=wkind E P n:=⟨_,rfl⟩;have CI:Hid (∀ w,Calls Tryz.prog 69 #[.agg #[.int .i64 (E:Nat),.int .i64 (P:Nat),.int .i64 0,.int .i64 (bias E:Nat)],.agg #[.int .u64 i0,.int .u64 i1]] w (LookPost kd (wn E P n) (wvalK E P (bias E) n) w)):=hid fun w=>by
  rw [←ei,hkd];exact look_c E P 0 (bias E) n w hF hb hn8
 have HW:Hid (withRes E P 0 [n]=.tuple #[.agg #[.int .i64 (E:Nat),.int .i64 (P:Nat),.int .i64 0,.int .i64 (bias E:Nat)],.int .i64 0]):=hid (by unfold withRes;rw [if_pos (fun x hx=>by rw [List.mem_singleton] at hx;rw [hx];exact hn)];rfl);have hd:decide (4≤kd)=false:=decide_eq_false (by rw [hkd];omega);obtain ⟨a0,a1,ea⟩:=Word.shape (infw E P false);have CIF:Hid (∀ w,Calls Tryz.prog 45 #[.agg #[.int .i64 (E:Nat),.int .i64 (P:Nat),.int .i64 0,.int .i64 (bias E:Nat)],.bool false] w fun e w'=>e=.returned (.agg #[.int .u64 a0,.int .u64 a1])∧Ext w w'):=hid fun w=>by
  have:=infinite_c E P 0 (bias E) false w hF
  rwa [ea] at this
 obtain ⟨rfl,rfl⟩:i0=a0∧i1=a1:=by
  rw [hs,ea] at ei;have h2:((a0:Nat):Int)=i0∧((a1:Nat):Int)=i1:=by simpa using ei
  omega
 rw [ei];have HF:=hid hF;have HN:=hid hn8;have HI0:=hid hi0;have HI1:=hid hi1;clear hF hn hE hP hb hEP hb1 hn8 hi0 hi1 ei hkd hk hs ea;obtain ⟨W0,hW0,g0,hz0,B_F,B_A,B_Z⟩:=pro3s w #[.int .i64 (E:Nat),.int .i64 (P:Nat)] #[.int .u64 i0,.int .u64 i1] #[.int .u64 0,.int .u64 0] 23 29 29;have HE:=hid g0;have HB_F:=hid B_F;have HB_A:=hid B_A;have HB_Z:=hid B_Z;have ac:=cland HB_F.o.a2 (cland HB_A.o.a2 (HB_Z.o.a2));have hr0:Ext W0 W0:=Below.refl _ _;clear g0 B_F B_A B_Z 
 go_enter Tryz.func21,Tryz.ntmps21
 go_upto_region 1 with (fail)
 rw [←hW0];clear hW0;go_wp2_with fail;obtain ⟨W1,hW1,g1,hy1,B_R⟩:=pro1 W0 #[.int .u64 i0,.int .u64 i1] 29;rw [←hW1];clear hW1;have HB_R:=hid B_R;clear B_R;have he1:=(HE.o.trans g1);replace ac:=g1.cl ac;have hr2:Ext W1 W1:=Below.refl _ _;replace ac:=cland ac HB_R.o.a2;have HWS:Hid (WSl W1 (.slice (some ⟨W0.heap.size,0,none⟩) 1 1) [n]):=hid ⟨some ⟨W0.heap.size,0,none⟩,W0.heap.size,0,1,rfl,Nat.le_refl _,by decide,fun _=>rfl,fun x hx=>by
   rw [List.mem_singleton] at hx;rw [hx];exact HN.o,fun i hi=>by
   obtain rfl:i=0:=by simpa using hi
   refine ⟨?_,?_⟩
   ·have:=HB_R.o.cell 0;rw [HI0.o] at this;exact this
   ·have:=HB_R.o.cell 1;rw [HI1.o] at this;exact this⟩
 refine (with_good E P 0 _ [n] _ (by decide) HF.o HWS.o).mono ?_;rintro e w2 ⟨rfl,g2⟩;rw [HW.o];have gA:=g2.trans (Ext.alloc w2 (.cells #[.int .i64 (E:Nat),.int .i64 (P:Nat),.int .i64 0,.int .i64 (bias E:Nat)] 81));go_wp2_with fail;clear gA;have hs3:=g2.size;obtain ⟨W3,hW3,g3,hy3,B_M⟩:=pro1 w2 #[.int .i64 (E:Nat),.int .i64 (P:Nat),.int .i64 0,.int .i64 (bias E:Nat)] 81;rw [←hW3];clear hW3;have hb4:=g2.trans g3;have HB_M:=hid B_M;clear B_M;have he5:=(he1.trans hb4);replace ac:=hb4.cl ac;have hr6:Ext W3 W3:=Below.refl _ _;replace ac:=cland ac HB_M.o.a4;generalize wn E P n=sg at *
 generalize wvalK E P (bias E) n=qv at *
 refine (CI.o _).mono ?_;rintro e w4 ⟨v1,rfl,⟨ng,a,k,c,a',k',c',rfl,kv⟩,g4⟩;clear kv;have hfd:∀ W,(Instr.field 112 (.agg #[.int .i64 kd,.bool sg,.bool ng,.slice a k c,.slice a' k' c']) 0).run Tryz.prog W=.ok (.int .i64 kd) W:=fun W=>by kernel_rfl
 go_upto_region 6 with (fail)
 have g5:Ext w4 w4.drew:=Below.drew (Below.refl _ _);have hb7:=g4.trans g5;refine wp_region_held_drew (S:=Ext W3) (by kernel_rfl) (hb7) (fun hHeld => ?_);generalize w4.drew=wD5 at *
 apply wts 0 32 rfl rfl (by kernel_rfl) (fun _ _ _ h=>h) hHeld
 ·intro w' hSw;go_simp<;>with_reducible rfl
 apply wts 1 33 rfl rfl (by kernel_rfl) (fun _ _ _ h=>h) hHeld
 ·intro w' hSw;go_simp<;>with_reducible rfl
 apply wts 2 34 rfl rfl (by kernel_rfl) (fun _ _ _ h=>h) hHeld
 ·intro w' hSw;go_simp<;>with_reducible rfl
 apply wts 3 35 rfl rfl (by kernel_rfl) (fun _ _ _ h=>h) hHeld
 ·intro w' hSw;go_simp<;>with_reducible rfl
 try simp only [Act.put,pA,pB,pC]
 refine wonc 4 36 45 #[.tmp 33,.tmp 35] #[81,4] 29 (by kernel_rfl) rfl rfl (fun KK hKK => ?_);go_simp;refine (CIF.o _).mono ?_;rintro e w6 ⟨rfl,g6⟩;have hb8:=hb7.trans g6
 try dsimp only
 refine hKK.out _ _ (hb8) (fun hHeld => ?_);apply wts 5 37 rfl rfl (by kernel_rfl) (fun _ _ _ h=>h) hHeld
 ·intro w' hSw;go_simp<;>with_reducible rfl
 apply wts 6 31 rfl rfl (by kernel_rfl) (fun _ _ _ h=>h) hHeld
 ·intro w' hSw;go_simp<;>with_reducible rfl
 refine wpAnyH_done (by kernel_rfl) ?_ _;obtain ⟨U9,U10⟩:=((HB_Z.o.ext (g1.trans (g2.trans g3))).ext hb8).f2;go_wp2_with fail;clear U9 U10;obtain ⟨W7,hW7,g7,q7,B7,hy7,ho7⟩:=rsto2 (he5.trans hb8) (by omega) ((HB_Z.o.ext (g1.trans (g2.trans g3))).ext hb8) (by decide) (.int .u64 i0) (.int .u64 i1);rw [←hW7];clear hW7;replace HB_Z:=hid B7;obtain ⟨J11,J12⟩:=HB_Z.o.c2;refine bodyPost_ret (v:=.tuple #[.agg #[.int .u64 i0,.int .u64 i1],.int .i64 0]) (by simp [results,Tryz.results21,go_sem,J11,J12]) rfl ⟨rfl,g7⟩
theorem Next_zero_u (E P n:Nat) (w:World) (hF:Fmt E P) (hn:n<2^(E+P)) (hk:wkind E P n≤3) (hs:n≠infw E P false) (hr:rankZ E P n+1=0) :
  Calls Tryz.prog 21 #[.agg #[.int .i64 (E:Nat),.int .i64 (P:Nat)],Word n,.bool true] w fun e w'=>e=.returned (.tuple #[Word (sgb E P true),.int .i64 0])∧Ext w w':=by
 obtain ⟨hE,hP,hb,hEP,hb1⟩:=fmt_bounds hF;have hn8:W128 n:=w128_of hEP hn;obtain ⟨i0,hi0⟩:∃ x:Nat,x=n/18446744073709551616:=⟨_,rfl⟩;obtain ⟨i1,hi1⟩:∃ x:Nat,x=n%18446744073709551616:=⟨_,rfl⟩;have ei:Word n=.agg #[.int .u64 i0,.int .u64 i1]:=by unfold Word;rw [←hi0,←hi1]
 obtain ⟨kd,hkd⟩:∃ x,x=wkind E P n:=⟨_,rfl⟩;have CI:Hid (∀ w,Calls Tryz.prog 69 #[.agg #[.int .i64 (E:Nat),.int .i64 (P:Nat),.int .i64 0,.int .i64 (bias E:Nat)],.agg #[.int .u64 i0,.int .u64 i1]] w (LookPost kd (wn E P n) (wvalK E P (bias E) n) w)):=hid fun w=>by
  rw [←ei,hkd];exact look_c E P 0 (bias E) n w hF hb hn8
 have HW:Hid (withRes E P 0 [n]=.tuple #[.agg #[.int .i64 (E:Nat),.int .i64 (P:Nat),.int .i64 0,.int .i64 (bias E:Nat)],.int .i64 0]):=hid (by unfold withRes;rw [if_pos (fun x hx=>by rw [List.mem_singleton] at hx;rw [hx];exact hn)];rfl);have hd:decide (4≤kd)=false:=decide_eq_false (by rw [hkd];omega);obtain ⟨a0,a1,ea⟩:=Word.shape (infw E P false);have CIF:Hid (∀ w,Calls Tryz.prog 45 #[.agg #[.int .i64 (E:Nat),.int .i64 (P:Nat),.int .i64 0,.int .i64 (bias E:Nat)],.bool false] w fun e w'=>e=.returned (.agg #[.int .u64 a0,.int .u64 a1])∧Ext w w'):=hid fun w=>by
  have:=infinite_c E P 0 (bias E) false w hF
  rwa [ea] at this
 have hne:(i0≠a0)∨(i0=a0∧i1≠a1):=by
  by_cases h0:i0=a0
  ·right;refine ⟨h0,fun h1=>hs ?_⟩
   have e2:Word n=Word (infw E P false):=by rw [ei,ea,h0,h1]
   exact Word.inj e2
  ·left;exact h0
 obtain ⟨r0,r1,er⟩:=Word.shape (sgb E P true);have CK:Hid (∀ w,Calls Tryz.prog 70 #[.agg #[.int .i64 (E:Nat),.int .i64 (P:Nat),.int .i64 0,.int .i64 (bias E:Nat)],.agg #[.int .u64 i0,.int .u64 i1]] w fun e w'=>∃ v,e=.returned v∧NumV w' v ((rankZ E P n:Int):Rat)∧Ext w w'):=hid fun w=>by
  have:=rank_c E P 0 (bias E) n w hF hb hn8
  rwa [ei] at this
 have b0:=rankZ_lt (n:=n) hEP;obtain ⟨z,hz⟩:∃ z,z=rankZ E P n:=⟨_,rfl⟩;rw [←hz] at CK b0 hr ;obtain ⟨t,ht⟩:∃ t,t=z+1:=⟨_,rfl⟩;rw [←ht] at hr ;have et:((z:Int):Rat)+((1:Int):Rat)=((t:Int):Rat):=by rw [ht,Rat.intCast_add]
 have tb:t.natAbs<2^124+1:=by omega
 have CI1:Hid (∀ w,_):=hid fun w=>Int_c 1 w (by decide) (by decide);have CAD:Hid (∀ u v w,NumV w u ((z:Int):Rat)→NumV w v ((1:Int):Rat)→Calls Tryz.prog 83 #[u,v] w fun e w'=>∃ x,e=.returned x∧NumV w' x ((t:Int):Rat)∧Ext w w'):=hid fun u v w h k=>by
  have:=Add_c u v _ _ 124 w h k (SmQ.int (by decide) b0) (SmQ.int (by decide) (by decide)) (by decide)
  rwa [et] at this
 obtain ⟨sgn,hsgn⟩:∃ s,s=t.sign:=⟨_,rfl⟩;have CSG:Hid (∀ v w,NumV w v ((t:Int):Rat)→Calls Tryz.prog 27 #[v] w fun e w'=>e=.returned (.int .i64 sgn)∧Ext w w'):=hid fun v w h=>by rw [hsgn];exact sign_c v _ w h
 obtain rfl:sgn=0:=by rw [hsgn,hr];rfl
 have CX:Hid (∀ w,Calls Tryz.prog 43 #[.agg #[.int .i64 (E:Nat),.int .i64 (P:Nat),.int .i64 0,.int .i64 (bias E:Nat)],.bool true] w fun e w'=>e=.returned (.agg #[.int .u64 r0,.int .u64 r1])∧Ext w w'):=hid fun w=>by
  have:=zero_c E P 0 (bias E) true w hF
  rwa [er] at this
 rw [er];rw [ei];have HF:=hid hF;have HN:=hid hn8;have HI0:=hid hi0;have HI1:=hid hi1;clear hF hn hE hP hb hEP hb1 hn8 hi0 hi1 ei hkd hr hk hs ea er hz ht et b0 tb hsgn;obtain ⟨W0,hW0,g0,hz0,B_F,B_A,B_Z⟩:=pro3s w #[.int .i64 (E:Nat),.int .i64 (P:Nat)] #[.int .u64 i0,.int .u64 i1] #[.int .u64 0,.int .u64 0] 23 29 29;have HE:=hid g0;have HB_F:=hid B_F;have HB_A:=hid B_A;have HB_Z:=hid B_Z;have ac:=cland HB_F.o.a2 (cland HB_A.o.a2 (HB_Z.o.a2));have hr0:Ext W0 W0:=Below.refl _ _;clear g0 B_F B_A B_Z 
 go_enter Tryz.func21,Tryz.ntmps21
 go_upto_region 1 with (fail)
 rw [←hW0];clear hW0;go_wp2_with fail;obtain ⟨W1,hW1,g1,hy1,B_R⟩:=pro1 W0 #[.int .u64 i0,.int .u64 i1] 29;rw [←hW1];clear hW1;have HB_R:=hid B_R;clear B_R;have he1:=(HE.o.trans g1);replace ac:=g1.cl ac;have hr2:Ext W1 W1:=Below.refl _ _;replace ac:=cland ac HB_R.o.a2;have HWS:Hid (WSl W1 (.slice (some ⟨W0.heap.size,0,none⟩) 1 1) [n]):=hid ⟨some ⟨W0.heap.size,0,none⟩,W0.heap.size,0,1,rfl,Nat.le_refl _,by decide,fun _=>rfl,fun x hx=>by
   rw [List.mem_singleton] at hx;rw [hx];exact HN.o,fun i hi=>by
   obtain rfl:i=0:=by simpa using hi
   refine ⟨?_,?_⟩
   ·have:=HB_R.o.cell 0;rw [HI0.o] at this;exact this
   ·have:=HB_R.o.cell 1;rw [HI1.o] at this;exact this⟩
 refine (with_good E P 0 _ [n] _ (by decide) HF.o HWS.o).mono ?_;rintro e w2 ⟨rfl,g2⟩;rw [HW.o];have gA:=g2.trans (Ext.alloc w2 (.cells #[.int .i64 (E:Nat),.int .i64 (P:Nat),.int .i64 0,.int .i64 (bias E:Nat)] 81));go_wp2_with fail;clear gA;have hs3:=g2.size;obtain ⟨W3,hW3,g3,hy3,B_M⟩:=pro1 w2 #[.int .i64 (E:Nat),.int .i64 (P:Nat),.int .i64 0,.int .i64 (bias E:Nat)] 81;rw [←hW3];clear hW3;have hb4:=g2.trans g3;have HB_M:=hid B_M;clear B_M;have he5:=(he1.trans hb4);replace ac:=hb4.cl ac;have hr6:Ext W3 W3:=Below.refl _ _;replace ac:=cland ac HB_M.o.a4;generalize wn E P n=sg at *
 generalize wvalK E P (bias E) n=qv at *
 refine (CI.o _).mono ?_;rintro e w4 ⟨v1,rfl,⟨ng,a,k,c,a',k',c',rfl,kv⟩,g4⟩;clear kv;have hfd:∀ W,(Instr.field 112 (.agg #[.int .i64 kd,.bool sg,.bool ng,.slice a k c,.slice a' k' c']) 0).run Tryz.prog W=.ok (.int .i64 kd) W:=fun W=>by kernel_rfl
 go_upto_region 6 with (fail)
 have he7:=(he5.trans g4);replace ac:=g4.cl ac;have hr8:Ext w4 w4:=Below.refl _ _
 go_cut [31] (fun sv wx=>sv=.bool false∧Hid (Ext w4 wx))
 case first =>
  rcases hne with h | ⟨h,h2⟩
  ·have hq:¬ ((i0:Nat):Int)=(a0:Int):=by omega
   clear h;have g5:Ext w4 w4.drew:=Below.drew (Below.refl _ _);refine wp_region_held_drew (S:=Ext w4) (by kernel_rfl) (g5) (fun hHeld => ?_);generalize w4.drew=wD5 at *
   apply wts 0 32 rfl rfl (by kernel_rfl) (fun _ _ _ h=>h) hHeld
   ·intro w' hSw;go_simp<;>with_reducible rfl
   apply wts 1 33 rfl rfl (by kernel_rfl) (fun _ _ _ h=>h) hHeld
   ·intro w' hSw;go_simp<;>with_reducible rfl
   apply wts 2 34 rfl rfl (by kernel_rfl) (fun _ _ _ h=>h) hHeld
   ·intro w' hSw;go_simp<;>with_reducible rfl
   apply wts 3 35 rfl rfl (by kernel_rfl) (fun _ _ _ h=>h) hHeld
   ·intro w' hSw;go_simp<;>with_reducible rfl
   try simp only [Act.put,pA,pB,pC]
   refine wonc 4 36 45 #[.tmp 33,.tmp 35] #[81,4] 29 (by kernel_rfl) rfl rfl (fun KK hKK => ?_);go_simp;refine (CIF.o _).mono ?_;rintro e w6 ⟨rfl,g6⟩;have hb9:=g5.trans g6
   try dsimp only
   refine hKK.out _ _ (hb9) (fun hHeld => ?_);apply wts 5 37 rfl rfl (by kernel_rfl) (fun _ _ _ h=>h) hHeld
   ·intro w' hSw;go_simp<;>with_reducible rfl
   apply wts 6 31 rfl rfl (by kernel_rfl) (fun _ _ _ h=>h) hHeld
   ·intro w' hSw;go_simp<;>with_reducible rfl
   refine wpAnyH_done (by kernel_rfl) ?_ _;go_wp2_with fail;go_meet
   exact ⟨rfl,hid hb9⟩
  ·subst h;have hq:¬ ((i1:Nat):Int)=(a1:Int):=by omega
   clear h2;have g5:Ext w4 w4.drew:=Below.drew (Below.refl _ _);refine wp_region_held_drew (S:=Ext w4) (by kernel_rfl) (g5) (fun hHeld => ?_);generalize w4.drew=wD5 at *
   apply wts 0 32 rfl rfl (by kernel_rfl) (fun _ _ _ h=>h) hHeld
   ·intro w' hSw;go_simp<;>with_reducible rfl
   apply wts 1 33 rfl rfl (by kernel_rfl) (fun _ _ _ h=>h) hHeld
   ·intro w' hSw;go_simp<;>with_reducible rfl
   apply wts 2 34 rfl rfl (by kernel_rfl) (fun _ _ _ h=>h) hHeld
   ·intro w' hSw;go_simp<;>with_reducible rfl
   apply wts 3 35 rfl rfl (by kernel_rfl) (fun _ _ _ h=>h) hHeld
   ·intro w' hSw;go_simp<;>with_reducible rfl
   try simp only [Act.put,pA,pB,pC]
   refine wonc 4 36 45 #[.tmp 33,.tmp 35] #[81,4] 29 (by kernel_rfl) rfl rfl (fun KK hKK => ?_);go_simp;refine (CIF.o _).mono ?_;rintro e w6 ⟨rfl,g6⟩;have hb9:=g5.trans g6
   try dsimp only
   refine hKK.out _ _ (hb9) (fun hHeld => ?_);apply wts 5 37 rfl rfl (by kernel_rfl) (fun _ _ _ h=>h) hHeld
   ·intro w' hSw;go_simp<;>with_reducible rfl
   apply wts 6 31 rfl rfl (by kernel_rfl) (fun _ _ _ h=>h) hHeld
   ·intro w' hSw;go_simp<;>with_reducible rfl
   refine wpAnyH_done (by kernel_rfl) ?_ _;go_wp2_with fail;go_meet
   exact ⟨rfl,hid hb9⟩
 case rest =>
  obtain ⟨rfl,gx6⟩:=hcut;obtain ⟨w6,rfl⟩:∃ x,x=wc:=⟨_,rfl⟩;clear hne;go_wp2_with fail;refine (CI1.o _).mono ?_;rintro e w12 ⟨v5,rfl,k5,g12⟩;have hb9:=gx6.o.trans g12;obtain ⟨s910,a910,n910,c910,a910',n910',c910',rfl⟩:=k5.shape;have gA:=hb9.trans (Ext.alloc w12 (.cells #[.bool s910,.slice a910 n910 c910,.slice a910' n910' c910'] 40));go_wp2_with fail;clear gA;have hs11:=(g4.trans (gx6.o.trans g12)).size;obtain ⟨W13,hW13,g13,hy13,B_N⟩:=pro1 w12 #[.bool s910,.slice a910 n910 c910,.slice a910' n910' c910'] 40;rw [←hW13];clear hW13;have hb12:=hb9.trans g13;have HB_N:=hid B_N;clear B_N;have he13:=(he7.trans hb12);replace ac:=hb12.cl ac;have hr14:Ext W13 W13:=Below.refl _ _;replace ac:=cland ac HB_N.o.a3
  go_upto_region 11 with (fail)
  go_cut [11] (fun sv wx=>∃ g:Nat,sv=.pointer (some ⟨g,0,none⟩)∧Hid (Ext W13 wx)∧W13.heap.size≤g∧NumBox wx g (((t:Int):Rat)))
  case first =>
   have g14:Ext W13 W13.drew:=Below.drew (Below.refl _ _);refine wp_region_held_drew (S:=Ext W13) (by kernel_rfl) (g14) (fun hHeld => ?_);generalize W13.drew=wD14 at *
   apply wts 0 43 rfl rfl (by kernel_rfl) (fun _ _ _ h=>h) hHeld
   ·intro w' hSw;go_simp<;>with_reducible rfl
   apply wts 1 44 rfl rfl (by kernel_rfl) (fun _ _ _ h=>h) hHeld
   ·intro w' hSw;go_simp<;>with_reducible rfl
   apply wts 3 46 rfl rfl (by kernel_rfl) (fun _ _ _ h=>h) hHeld
   ·intro w' hSw;go_simp<;>with_reducible rfl
   try simp only [Act.put,pA,pB,pC]
   refine wpAnyH_ready (rs:=[2,5]) (by kernel_rfl) (by simp) ?_;refine consb 2 { dst:=some 45,op:=Op.call { callee:=Callee.value (Operand.func 70),args:=#[Operand.tmp 43,Operand.tmp 44],argTypes:=#[81,29] },type:=40,pos := "",after:=#[],guard:=none } rfl rfl (fun KK hKK => ?_) (consb 5 { dst:=some 11,op:=Op.alloc 40,type:=0,pos := "",after:=#[],guard:=none } rfl rfl (fun KK hKK => ?_) (AllReadyH.nil))
   ·go_simp;refine (CK.o _).mono ?_;rintro e w15 ⟨v7,rfl,m7,g15⟩;have hb15:=g14.trans g15
    try dsimp only
    refine hKK.out _ _ (hb15) (fun hHeld => ?_)
    try simp only [Act.put,pA,pB,pC]
    refine wpAnyH_ready (rs:=[4,5]) (by kernel_rfl) (by simp) ?_;refine consb 4 { dst:=some 47,op:=Op.call { callee:=Callee.value (Operand.func 83),args:=#[Operand.tmp 45,Operand.tmp 46],argTypes:=#[40,40] },type:=40,pos := "",after:=#[],guard:=none } rfl rfl (fun KK hKK => ?_) (consb 5 { dst:=some 11,op:=Op.alloc 40,type:=0,pos := "",after:=#[],guard:=none } rfl rfl (fun KK hKK => ?_) (AllReadyH.nil))
    ·go_simp;refine (CAD.o _ _ _ m7 ((k5.ext g13).ext hb15)).mono ?_;rintro e w16 ⟨v8,rfl,k88,g16⟩;have hb16:=hb15.trans g16;obtain ⟨s88,a88,n88,c88,a88',n88',c88',rfl⟩:=k88.shape
     try dsimp only
     refine hKK.out _ _ (hb16) (fun hHeld => ?_)
     try simp only [Act.put,pA,pB,pC]
     refine won 5 { dst:=some 11,op:=Op.alloc 40,type:=0,pos := "",after:=#[],guard:=none } (by kernel_rfl) rfl rfl (fun KK hKK => ?_);go_simp;have hs17:=(g14.trans (g15.trans g16)).size;obtain ⟨W17,hW17,g17,hy17,B_R⟩:=pro1 w16 #[.bool false,.slice none 0 0,.slice none 0 0] 40;rw [←hW17];clear hW17;have hleR:=hb16.size;have hb18:=hb16.trans g17;have HB_R:=hid B_R;clear B_R;have hzR:=hb18.size
     try dsimp only
     refine hKK.out _ _ (hb18) (fun hHeld => ?_)
     try simp only [Act.put,pA,pB,pC]
     refine wons 6 40 11 47 (by kernel_rfl) rfl rfl (fun KK hKK => ?_);obtain ⟨J22,J23,J24⟩:=HB_R.o.c3;obtain ⟨U19,U20,U21⟩:=HB_R.o.f3;go_simp;clear U19 U20 U21 J22 J23 J24;obtain ⟨W18,hW18,g18,q18,B18,hy18,ho18⟩:=rsto3 hb18 (by omega) HB_R.o (by decide) (.bool s88) (.slice a88 n88 c88) (.slice a88' n88' c88');rw [←hW18];clear hW18;replace HB_R:=hid B18
     try dsimp only
     refine hKK.out _ _ (g18) (fun hHeld => ?_);refine wpAnyH_done (by kernel_rfl) ?_ _;go_wp2_with fail;go_meet
     exact ⟨_,rfl,hid g18,hleR,_,_,_,_,_,_,_,HB_R.o,((k88.ext g17).keepR q18)⟩
    ·go_simp;have hs16:=(g14.trans g15).size;obtain ⟨W16,hW16,g16,hy16,B_R⟩:=pro1 w15 #[.bool false,.slice none 0 0,.slice none 0 0] 40;rw [←hW16];clear hW16;have hleR:=hb15.size;have hb17:=hb15.trans g16;have HB_R:=hid B_R;clear B_R;have hzR:=hb17.size
     try dsimp only
     refine hKK.out _ _ (hb17) (fun hHeld => ?_)
     try simp only [Act.put,pA,pB,pC]
     refine wonc 4 47 83 #[.tmp 45,.tmp 46] #[40,40] 40 (by kernel_rfl) rfl rfl (fun KK hKK => ?_);go_simp;refine (CAD.o _ _ _ (m7.ext g16) ((k5.ext g13).ext hb17)).mono ?_;rintro e w17 ⟨v8,rfl,k88,g17⟩;have hb18:=hb17.trans g17;obtain ⟨s88,a88,n88,c88,a88',n88',c88',rfl⟩:=k88.shape
     try dsimp only
     refine hKK.out _ _ (hb18) (fun hHeld => ?_)
     try simp only [Act.put,pA,pB,pC]
     refine wons 6 40 11 47 (by kernel_rfl) rfl rfl (fun KK hKK => ?_);obtain ⟨J22,J23,J24⟩:=(HB_R.o.ext g17).c3;obtain ⟨U19,U20,U21⟩:=(HB_R.o.ext g17).f3;go_simp;clear U19 U20 U21 J22 J23 J24;obtain ⟨W18,hW18,g18,q18,B18,hy18,ho18⟩:=rsto3 hb18 (by omega) (HB_R.o.ext g17) (by decide) (.bool s88) (.slice a88 n88 c88) (.slice a88' n88' c88');rw [←hW18];clear hW18;replace HB_R:=hid B18
     try dsimp only
     refine hKK.out _ _ (g18) (fun hHeld => ?_);refine wpAnyH_done (by kernel_rfl) ?_ _;go_wp2_with fail;go_meet
     exact ⟨_,rfl,hid g18,hleR,_,_,_,_,_,_,_,HB_R.o,(k88.keepR q18)⟩
   ·go_simp;have hs15:=g14.size;obtain ⟨W15,hW15,g15,hy15,B_R⟩:=pro1 wD14 #[.bool false,.slice none 0 0,.slice none 0 0] 40;rw [←hW15];clear hW15;have hleR:=g14.size;have hb16:=g14.trans g15;have HB_R:=hid B_R;clear B_R;have hzR:=hb16.size
    try dsimp only
    refine hKK.out _ _ (hb16) (fun hHeld => ?_)
    try simp only [Act.put,pA,pB,pC]
    refine wonc 2 45 70 #[.tmp 43,.tmp 44] #[81,29] 40 (by kernel_rfl) rfl rfl (fun KK hKK => ?_);go_simp;refine (CK.o _).mono ?_;rintro e w16 ⟨v7,rfl,m7,g16⟩;have hb17:=hb16.trans g16
    try dsimp only
    refine hKK.out _ _ (hb17) (fun hHeld => ?_)
    try simp only [Act.put,pA,pB,pC]
    refine wonc 4 47 83 #[.tmp 45,.tmp 46] #[40,40] 40 (by kernel_rfl) rfl rfl (fun KK hKK => ?_);go_simp;refine (CAD.o _ _ _ m7 ((k5.ext g13).ext hb17)).mono ?_;rintro e w17 ⟨v8,rfl,k88,g17⟩;have hb18:=hb17.trans g17;obtain ⟨s88,a88,n88,c88,a88',n88',c88',rfl⟩:=k88.shape
    try dsimp only
    refine hKK.out _ _ (hb18) (fun hHeld => ?_)
    try simp only [Act.put,pA,pB,pC]
    refine wons 6 40 11 47 (by kernel_rfl) rfl rfl (fun KK hKK => ?_);obtain ⟨J22,J23,J24⟩:=(HB_R.o.ext (g16.trans g17)).c3;obtain ⟨U19,U20,U21⟩:=(HB_R.o.ext (g16.trans g17)).f3;go_simp;clear U19 U20 U21 J22 J23 J24;obtain ⟨W18,hW18,g18,q18,B18,hy18,ho18⟩:=rsto3 hb18 (by omega) (HB_R.o.ext (g16.trans g17)) (by decide) (.bool s88) (.slice a88 n88 c88) (.slice a88' n88' c88');rw [←hW18];clear hW18;replace HB_R:=hid B18
    try dsimp only
    refine hKK.out _ _ (g18) (fun hHeld => ?_);refine wpAnyH_done (by kernel_rfl) ?_ _;go_wp2_with fail;go_meet
    exact ⟨_,rfl,hid g18,hleR,_,_,_,_,_,_,_,HB_R.o,(k88.keepR q18)⟩
  case rest =>
   obtain ⟨gR,rfl,gx19,hg19,s19,a19,n19,c19,a19',n19',c19',B19,kv19⟩:=hcut;obtain ⟨wc19,rfl⟩:∃ x,x=wc:=⟨_,rfl⟩;have HB_R:=hid B19;clear B19;have he26:=(he13.trans gx19.o);replace ac:=gx19.o.cl ac;have hr27:Ext wc19 wc19:=Below.refl _ _;replace ac:=cland ac HB_R.o.a3;go_wp2_with fail;refine (CSG.o _ _ kv19).mono ?_;rintro e w20 ⟨rfl,g20⟩;go_wp2_with fail;refine (CX.o _).mono ?_;rintro e w21 ⟨rfl,g21⟩;have hb28:=g20.trans g21;obtain ⟨U29,U30⟩:=((HB_Z.o.ext (g1.trans (g2.trans (g3.trans (g4.trans (gx6.o.trans (g12.trans (g13.trans gx19.o)))))))).ext hb28).f2;go_wp2_with fail;clear U29 U30;obtain ⟨W22,hW22,g22,q22,B22,hy22,ho22⟩:=rsto2 (he26.trans hb28) (by omega) ((HB_Z.o.ext (g1.trans (g2.trans (g3.trans (g4.trans (gx6.o.trans (g12.trans (g13.trans gx19.o)))))))).ext hb28) (by decide) (.int .u64 r0) (.int .u64 r1);rw [←hW22];clear hW22;replace HB_Z:=hid B22;obtain ⟨J31,J32⟩:=HB_Z.o.c2;refine bodyPost_ret (v:=.tuple #[.agg #[.int .u64 r0,.int .u64 r1],.int .i64 0]) (by simp [results,Tryz.results21,go_sem,J31,J32]) rfl ⟨rfl,g22⟩
theorem Next_step_u (E P n:Nat) (w:World) (hF:Fmt E P) (hn:n<2^(E+P)) (hk:wkind E P n≤3) (hs:n≠infw E P false) (hr:rankZ E P n+1≠0) (htb:(rankZ E P n+1).natAbs<2^124) :
  Calls Tryz.prog 21 #[.agg #[.int .i64 (E:Nat),.int .i64 (P:Nat)],Word n,.bool true] w fun e w'=>e=.returned (.tuple #[Word (rankW E P (rankZ E P n+1)),.int .i64 0])∧Ext w w':=by
 obtain ⟨hE,hP,hb,hEP,hb1⟩:=fmt_bounds hF;have hn8:W128 n:=w128_of hEP hn;obtain ⟨i0,hi0⟩:∃ x:Nat,x=n/18446744073709551616:=⟨_,rfl⟩;obtain ⟨i1,hi1⟩:∃ x:Nat,x=n%18446744073709551616:=⟨_,rfl⟩;have ei:Word n=.agg #[.int .u64 i0,.int .u64 i1]:=by unfold Word;rw [←hi0,←hi1]
 obtain ⟨kd,hkd⟩:∃ x,x=wkind E P n:=⟨_,rfl⟩;have CI:Hid (∀ w,Calls Tryz.prog 69 #[.agg #[.int .i64 (E:Nat),.int .i64 (P:Nat),.int .i64 0,.int .i64 (bias E:Nat)],.agg #[.int .u64 i0,.int .u64 i1]] w (LookPost kd (wn E P n) (wvalK E P (bias E) n) w)):=hid fun w=>by
  rw [←ei,hkd];exact look_c E P 0 (bias E) n w hF hb hn8
 have HW:Hid (withRes E P 0 [n]=.tuple #[.agg #[.int .i64 (E:Nat),.int .i64 (P:Nat),.int .i64 0,.int .i64 (bias E:Nat)],.int .i64 0]):=hid (by unfold withRes;rw [if_pos (fun x hx=>by rw [List.mem_singleton] at hx;rw [hx];exact hn)];rfl);have hd:decide (4≤kd)=false:=decide_eq_false (by rw [hkd];omega);obtain ⟨a0,a1,ea⟩:=Word.shape (infw E P false);have CIF:Hid (∀ w,Calls Tryz.prog 45 #[.agg #[.int .i64 (E:Nat),.int .i64 (P:Nat),.int .i64 0,.int .i64 (bias E:Nat)],.bool false] w fun e w'=>e=.returned (.agg #[.int .u64 a0,.int .u64 a1])∧Ext w w'):=hid fun w=>by
  have:=infinite_c E P 0 (bias E) false w hF
  rwa [ea] at this
 have hne:(i0≠a0)∨(i0=a0∧i1≠a1):=by
  by_cases h0:i0=a0
  ·right;refine ⟨h0,fun h1=>hs ?_⟩
   have e2:Word n=Word (infw E P false):=by rw [ei,ea,h0,h1]
   exact Word.inj e2
  ·left;exact h0
 obtain ⟨r0,r1,er⟩:=Word.shape (rankW E P (rankZ E P n+1));have CK:Hid (∀ w,Calls Tryz.prog 70 #[.agg #[.int .i64 (E:Nat),.int .i64 (P:Nat),.int .i64 0,.int .i64 (bias E:Nat)],.agg #[.int .u64 i0,.int .u64 i1]] w fun e w'=>∃ v,e=.returned v∧NumV w' v ((rankZ E P n:Int):Rat)∧Ext w w'):=hid fun w=>by
  have:=rank_c E P 0 (bias E) n w hF hb hn8
  rwa [ei] at this
 have b0:=rankZ_lt (n:=n) hEP;obtain ⟨z,hz⟩:∃ z,z=rankZ E P n:=⟨_,rfl⟩;rw [←hz] at CK b0 htb hr er;obtain ⟨t,ht⟩:∃ t,t=z+1:=⟨_,rfl⟩;rw [←ht] at htb hr er;have et:((z:Int):Rat)+((1:Int):Rat)=((t:Int):Rat):=by rw [ht,Rat.intCast_add]
 have tb:t.natAbs<2^124+1:=by omega
 have CI1:Hid (∀ w,_):=hid fun w=>Int_c 1 w (by decide) (by decide);have CAD:Hid (∀ u v w,NumV w u ((z:Int):Rat)→NumV w v ((1:Int):Rat)→Calls Tryz.prog 83 #[u,v] w fun e w'=>∃ x,e=.returned x∧NumV w' x ((t:Int):Rat)∧Ext w w'):=hid fun u v w h k=>by
  have:=Add_c u v _ _ 124 w h k (SmQ.int (by decide) b0) (SmQ.int (by decide) (by decide)) (by decide)
  rwa [et] at this
 obtain ⟨sgn,hsgn⟩:∃ s,s=t.sign:=⟨_,rfl⟩;have CSG:Hid (∀ v w,NumV w v ((t:Int):Rat)→Calls Tryz.prog 27 #[v] w fun e w'=>e=.returned (.int .i64 sgn)∧Ext w w'):=hid fun v w h=>by rw [hsgn];exact sign_c v _ w h
 have hsz:(sgn==0)=false:=beq_eq_false_iff_ne.2 (fun h=>hr (Int.sign_eq_zero_iff_zero.1 (by rw [←hsgn];exact h)));have CX:Hid (∀ v w,NumV w v ((t:Int):Rat)→Calls Tryz.prog 84 #[.agg #[.int .i64 (E:Nat),.int .i64 (P:Nat),.int .i64 0,.int .i64 (bias E:Nat)],v] w fun e w'=>e=.returned (.agg #[.int .u64 r0,.int .u64 r1])∧Ext w w'):=hid fun v w h=>by
  have:=ranked_c E P 0 (bias E) v t w hF h htb
  rwa [er] at this
 rw [←hz,←ht,er];rw [ei];have HF:=hid hF;have HN:=hid hn8;have HI0:=hid hi0;have HI1:=hid hi1;clear hF hn hE hP hb hEP hb1 hn8 hi0 hi1 ei hkd hr hk hs ea er hz ht et b0 tb hsgn htb;obtain ⟨W0,hW0,g0,hz0,B_F,B_A,B_Z⟩:=pro3s w #[.int .i64 (E:Nat),.int .i64 (P:Nat)] #[.int .u64 i0,.int .u64 i1] #[.int .u64 0,.int .u64 0] 23 29 29;have HE:=hid g0;have HB_F:=hid B_F;have HB_A:=hid B_A;have HB_Z:=hid B_Z;have ac:=cland HB_F.o.a2 (cland HB_A.o.a2 (HB_Z.o.a2));have hr0:Ext W0 W0:=Below.refl _ _;clear g0 B_F B_A B_Z 
 go_enter Tryz.func21,Tryz.ntmps21
 go_upto_region 1 with (fail)
 rw [←hW0];clear hW0;go_wp2_with fail;obtain ⟨W1,hW1,g1,hy1,B_R⟩:=pro1 W0 #[.int .u64 i0,.int .u64 i1] 29;rw [←hW1];clear hW1;have HB_R:=hid B_R;clear B_R;have he1:=(HE.o.trans g1);replace ac:=g1.cl ac;have hr2:Ext W1 W1:=Below.refl _ _;replace ac:=cland ac HB_R.o.a2;have HWS:Hid (WSl W1 (.slice (some ⟨W0.heap.size,0,none⟩) 1 1) [n]):=hid ⟨some ⟨W0.heap.size,0,none⟩,W0.heap.size,0,1,rfl,Nat.le_refl _,by decide,fun _=>rfl,fun x hx=>by
   rw [List.mem_singleton] at hx;rw [hx];exact HN.o,fun i hi=>by
   obtain rfl:i=0:=by simpa using hi
   refine ⟨?_,?_⟩
   ·have:=HB_R.o.cell 0;rw [HI0.o] at this;exact this
   ·have:=HB_R.o.cell 1;rw [HI1.o] at this;exact this⟩
 refine (with_good E P 0 _ [n] _ (by decide) HF.o HWS.o).mono ?_;rintro e w2 ⟨rfl,g2⟩;rw [HW.o];have gA:=g2.trans (Ext.alloc w2 (.cells #[.int .i64 (E:Nat),.int .i64 (P:Nat),.int .i64 0,.int .i64 (bias E:Nat)] 81));go_wp2_with fail;clear gA;have hs3:=g2.size;obtain ⟨W3,hW3,g3,hy3,B_M⟩:=pro1 w2 #[.int .i64 (E:Nat),.int .i64 (P:Nat),.int .i64 0,.int .i64 (bias E:Nat)] 81;rw [←hW3];clear hW3;have hb4:=g2.trans g3;have HB_M:=hid B_M;clear B_M;have he5:=(he1.trans hb4);replace ac:=hb4.cl ac;have hr6:Ext W3 W3:=Below.refl _ _;replace ac:=cland ac HB_M.o.a4;generalize wn E P n=sg at *
 generalize wvalK E P (bias E) n=qv at *
 refine (CI.o _).mono ?_;rintro e w4 ⟨v1,rfl,⟨ng,a,k,c,a',k',c',rfl,kv⟩,g4⟩;clear kv;have hfd:∀ W,(Instr.field 112 (.agg #[.int .i64 kd,.bool sg,.bool ng,.slice a k c,.slice a' k' c']) 0).run Tryz.prog W=.ok (.int .i64 kd) W:=fun W=>by kernel_rfl
 go_upto_region 6 with (fail)
 have he7:=(he5.trans g4);replace ac:=g4.cl ac;have hr8:Ext w4 w4:=Below.refl _ _
 go_cut [31] (fun sv wx=>sv=.bool false∧Hid (Ext w4 wx))
 case first =>
  rcases hne with h | ⟨h,h2⟩
  ·have hq:¬ ((i0:Nat):Int)=(a0:Int):=by omega
   clear h;have g5:Ext w4 w4.drew:=Below.drew (Below.refl _ _);refine wp_region_held_drew (S:=Ext w4) (by kernel_rfl) (g5) (fun hHeld => ?_);generalize w4.drew=wD5 at *
   apply wts 0 32 rfl rfl (by kernel_rfl) (fun _ _ _ h=>h) hHeld
   ·intro w' hSw;go_simp<;>with_reducible rfl
   apply wts 1 33 rfl rfl (by kernel_rfl) (fun _ _ _ h=>h) hHeld
   ·intro w' hSw;go_simp<;>with_reducible rfl
   apply wts 2 34 rfl rfl (by kernel_rfl) (fun _ _ _ h=>h) hHeld
   ·intro w' hSw;go_simp<;>with_reducible rfl
   apply wts 3 35 rfl rfl (by kernel_rfl) (fun _ _ _ h=>h) hHeld
   ·intro w' hSw;go_simp<;>with_reducible rfl
   try simp only [Act.put,pA,pB,pC]
   refine wonc 4 36 45 #[.tmp 33,.tmp 35] #[81,4] 29 (by kernel_rfl) rfl rfl (fun KK hKK => ?_);go_simp;refine (CIF.o _).mono ?_;rintro e w6 ⟨rfl,g6⟩;have hb9:=g5.trans g6
   try dsimp only
   refine hKK.out _ _ (hb9) (fun hHeld => ?_);apply wts 5 37 rfl rfl (by kernel_rfl) (fun _ _ _ h=>h) hHeld
   ·intro w' hSw;go_simp<;>with_reducible rfl
   apply wts 6 31 rfl rfl (by kernel_rfl) (fun _ _ _ h=>h) hHeld
   ·intro w' hSw;go_simp<;>with_reducible rfl
   refine wpAnyH_done (by kernel_rfl) ?_ _;go_wp2_with fail;go_meet
   exact ⟨rfl,hid hb9⟩
  ·subst h;have hq:¬ ((i1:Nat):Int)=(a1:Int):=by omega
   clear h2;have g5:Ext w4 w4.drew:=Below.drew (Below.refl _ _);refine wp_region_held_drew (S:=Ext w4) (by kernel_rfl) (g5) (fun hHeld => ?_);generalize w4.drew=wD5 at *
   apply wts 0 32 rfl rfl (by kernel_rfl) (fun _ _ _ h=>h) hHeld
   ·intro w' hSw;go_simp<;>with_reducible rfl
   apply wts 1 33 rfl rfl (by kernel_rfl) (fun _ _ _ h=>h) hHeld
   ·intro w' hSw;go_simp<;>with_reducible rfl
   apply wts 2 34 rfl rfl (by kernel_rfl) (fun _ _ _ h=>h) hHeld
   ·intro w' hSw;go_simp<;>with_reducible rfl
   apply wts 3 35 rfl rfl (by kernel_rfl) (fun _ _ _ h=>h) hHeld
   ·intro w' hSw;go_simp<;>with_reducible rfl
   try simp only [Act.put,pA,pB,pC]
   refine wonc 4 36 45 #[.tmp 33,.tmp 35] #[81,4] 29 (by kernel_rfl) rfl rfl (fun KK hKK => ?_);go_simp;refine (CIF.o _).mono ?_;rintro e w6 ⟨rfl,g6⟩;have hb9:=g5.trans g6
   try dsimp only
   refine hKK.out _ _ (hb9) (fun hHeld => ?_);apply wts 5 37 rfl rfl (by kernel_rfl) (fun _ _ _ h=>h) hHeld
   ·intro w' hSw;go_simp<;>with_reducible rfl
   apply wts 6 31 rfl rfl (by kernel_rfl) (fun _ _ _ h=>h) hHeld
   ·intro w' hSw;go_simp<;>with_reducible rfl
   refine wpAnyH_done (by kernel_rfl) ?_ _;go_wp2_with fail;go_meet
   exact ⟨rfl,hid hb9⟩
 case rest =>
  obtain ⟨rfl,gx6⟩:=hcut;obtain ⟨w6,rfl⟩:∃ x,x=wc:=⟨_,rfl⟩;clear hne;go_wp2_with fail;refine (CI1.o _).mono ?_;rintro e w12 ⟨v5,rfl,k5,g12⟩;have hb9:=gx6.o.trans g12;obtain ⟨s910,a910,n910,c910,a910',n910',c910',rfl⟩:=k5.shape;have gA:=hb9.trans (Ext.alloc w12 (.cells #[.bool s910,.slice a910 n910 c910,.slice a910' n910' c910'] 40));go_wp2_with fail;clear gA;have hs11:=(g4.trans (gx6.o.trans g12)).size;obtain ⟨W13,hW13,g13,hy13,B_N⟩:=pro1 w12 #[.bool s910,.slice a910 n910 c910,.slice a910' n910' c910'] 40;rw [←hW13];clear hW13;have hb12:=hb9.trans g13;have HB_N:=hid B_N;clear B_N;have he13:=(he7.trans hb12);replace ac:=hb12.cl ac;have hr14:Ext W13 W13:=Below.refl _ _;replace ac:=cland ac HB_N.o.a3
  go_upto_region 11 with (fail)
  go_cut [11] (fun sv wx=>∃ g:Nat,sv=.pointer (some ⟨g,0,none⟩)∧Hid (Ext W13 wx)∧W13.heap.size≤g∧NumBox wx g (((t:Int):Rat)))
  case first =>
   have g14:Ext W13 W13.drew:=Below.drew (Below.refl _ _);refine wp_region_held_drew (S:=Ext W13) (by kernel_rfl) (g14) (fun hHeld => ?_);generalize W13.drew=wD14 at *
   apply wts 0 43 rfl rfl (by kernel_rfl) (fun _ _ _ h=>h) hHeld
   ·intro w' hSw;go_simp<;>with_reducible rfl
   apply wts 1 44 rfl rfl (by kernel_rfl) (fun _ _ _ h=>h) hHeld
   ·intro w' hSw;go_simp<;>with_reducible rfl
   apply wts 3 46 rfl rfl (by kernel_rfl) (fun _ _ _ h=>h) hHeld
   ·intro w' hSw;go_simp<;>with_reducible rfl
   try simp only [Act.put,pA,pB,pC]
   refine wpAnyH_ready (rs:=[2,5]) (by kernel_rfl) (by simp) ?_;refine consb 2 { dst:=some 45,op:=Op.call { callee:=Callee.value (Operand.func 70),args:=#[Operand.tmp 43,Operand.tmp 44],argTypes:=#[81,29] },type:=40,pos := "",after:=#[],guard:=none } rfl rfl (fun KK hKK => ?_) (consb 5 { dst:=some 11,op:=Op.alloc 40,type:=0,pos := "",after:=#[],guard:=none } rfl rfl (fun KK hKK => ?_) (AllReadyH.nil))
   ·go_simp;refine (CK.o _).mono ?_;rintro e w15 ⟨v7,rfl,m7,g15⟩;have hb15:=g14.trans g15
    try dsimp only
    refine hKK.out _ _ (hb15) (fun hHeld => ?_)
    try simp only [Act.put,pA,pB,pC]
    refine wpAnyH_ready (rs:=[4,5]) (by kernel_rfl) (by simp) ?_;refine consb 4 { dst:=some 47,op:=Op.call { callee:=Callee.value (Operand.func 83),args:=#[Operand.tmp 45,Operand.tmp 46],argTypes:=#[40,40] },type:=40,pos := "",after:=#[],guard:=none } rfl rfl (fun KK hKK => ?_) (consb 5 { dst:=some 11,op:=Op.alloc 40,type:=0,pos := "",after:=#[],guard:=none } rfl rfl (fun KK hKK => ?_) (AllReadyH.nil))
    ·go_simp;refine (CAD.o _ _ _ m7 ((k5.ext g13).ext hb15)).mono ?_;rintro e w16 ⟨v8,rfl,k88,g16⟩;have hb16:=hb15.trans g16;obtain ⟨s88,a88,n88,c88,a88',n88',c88',rfl⟩:=k88.shape
     try dsimp only
     refine hKK.out _ _ (hb16) (fun hHeld => ?_)
     try simp only [Act.put,pA,pB,pC]
     refine won 5 { dst:=some 11,op:=Op.alloc 40,type:=0,pos := "",after:=#[],guard:=none } (by kernel_rfl) rfl rfl (fun KK hKK => ?_);go_simp;have hs17:=(g14.trans (g15.trans g16)).size;obtain ⟨W17,hW17,g17,hy17,B_R⟩:=pro1 w16 #[.bool false,.slice none 0 0,.slice none 0 0] 40;rw [←hW17];clear hW17;have hleR:=hb16.size;have hb18:=hb16.trans g17;have HB_R:=hid B_R;clear B_R;have hzR:=hb18.size
     try dsimp only
     refine hKK.out _ _ (hb18) (fun hHeld => ?_)
     try simp only [Act.put,pA,pB,pC]
     refine wons 6 40 11 47 (by kernel_rfl) rfl rfl (fun KK hKK => ?_);obtain ⟨J22,J23,J24⟩:=HB_R.o.c3;obtain ⟨U19,U20,U21⟩:=HB_R.o.f3;go_simp;clear U19 U20 U21 J22 J23 J24;obtain ⟨W18,hW18,g18,q18,B18,hy18,ho18⟩:=rsto3 hb18 (by omega) HB_R.o (by decide) (.bool s88) (.slice a88 n88 c88) (.slice a88' n88' c88');rw [←hW18];clear hW18;replace HB_R:=hid B18
     try dsimp only
     refine hKK.out _ _ (g18) (fun hHeld => ?_);refine wpAnyH_done (by kernel_rfl) ?_ _;go_wp2_with fail;go_meet
     exact ⟨_,rfl,hid g18,hleR,_,_,_,_,_,_,_,HB_R.o,((k88.ext g17).keepR q18)⟩
    ·go_simp;have hs16:=(g14.trans g15).size;obtain ⟨W16,hW16,g16,hy16,B_R⟩:=pro1 w15 #[.bool false,.slice none 0 0,.slice none 0 0] 40;rw [←hW16];clear hW16;have hleR:=hb15.size;have hb17:=hb15.trans g16;have HB_R:=hid B_R;clear B_R;have hzR:=hb17.size
     try dsimp only
     refine hKK.out _ _ (hb17) (fun hHeld => ?_)
     try simp only [Act.put,pA,pB,pC]
     refine wonc 4 47 83 #[.tmp 45,.tmp 46] #[40,40] 40 (by kernel_rfl) rfl rfl (fun KK hKK => ?_);go_simp;refine (CAD.o _ _ _ (m7.ext g16) ((k5.ext g13).ext hb17)).mono ?_;rintro e w17 ⟨v8,rfl,k88,g17⟩;have hb18:=hb17.trans g17;obtain ⟨s88,a88,n88,c88,a88',n88',c88',rfl⟩:=k88.shape
     try dsimp only
     refine hKK.out _ _ (hb18) (fun hHeld => ?_)
     try simp only [Act.put,pA,pB,pC]
     refine wons 6 40 11 47 (by kernel_rfl) rfl rfl (fun KK hKK => ?_);obtain ⟨J22,J23,J24⟩:=(HB_R.o.ext g17).c3;obtain ⟨U19,U20,U21⟩:=(HB_R.o.ext g17).f3;go_simp;clear U19 U20 U21 J22 J23 J24;obtain ⟨W18,hW18,g18,q18,B18,hy18,ho18⟩:=rsto3 hb18 (by omega) (HB_R.o.ext g17) (by decide) (.bool s88) (.slice a88 n88 c88) (.slice a88' n88' c88');rw [←hW18];clear hW18;replace HB_R:=hid B18
     try dsimp only
     refine hKK.out _ _ (g18) (fun hHeld => ?_);refine wpAnyH_done (by kernel_rfl) ?_ _;go_wp2_with fail;go_meet
     exact ⟨_,rfl,hid g18,hleR,_,_,_,_,_,_,_,HB_R.o,(k88.keepR q18)⟩
   ·go_simp;have hs15:=g14.size;obtain ⟨W15,hW15,g15,hy15,B_R⟩:=pro1 wD14 #[.bool false,.slice none 0 0,.slice none 0 0] 40;rw [←hW15];clear hW15;have hleR:=g14.size;have hb16:=g14.trans g15;have HB_R:=hid B_R;clear B_R;have hzR:=hb16.size
    try dsimp only
    refine hKK.out _ _ (hb16) (fun hHeld => ?_)
    try simp only [Act.put,pA,pB,pC]
    refine wonc 2 45 70 #[.tmp 43,.tmp 44] #[81,29] 40 (by kernel_rfl) rfl rfl (fun KK hKK => ?_);go_simp;refine (CK.o _).mono ?_;rintro e w16 ⟨v7,rfl,m7,g16⟩;have hb17:=hb16.trans g16
    try dsimp only
    refine hKK.out _ _ (hb17) (fun hHeld => ?_)
    try simp only [Act.put,pA,pB,pC]
    refine wonc 4 47 83 #[.tmp 45,.tmp 46] #[40,40] 40 (by kernel_rfl) rfl rfl (fun KK hKK => ?_);go_simp;refine (CAD.o _ _ _ m7 ((k5.ext g13).ext hb17)).mono ?_;rintro e w17 ⟨v8,rfl,k88,g17⟩;have hb18:=hb17.trans g17;obtain ⟨s88,a88,n88,c88,a88',n88',c88',rfl⟩:=k88.shape
    try dsimp only
    refine hKK.out _ _ (hb18) (fun hHeld => ?_)
    try simp only [Act.put,pA,pB,pC]
    refine wons 6 40 11 47 (by kernel_rfl) rfl rfl (fun KK hKK => ?_);obtain ⟨J22,J23,J24⟩:=(HB_R.o.ext (g16.trans g17)).c3;obtain ⟨U19,U20,U21⟩:=(HB_R.o.ext (g16.trans g17)).f3;go_simp;clear U19 U20 U21 J22 J23 J24;obtain ⟨W18,hW18,g18,q18,B18,hy18,ho18⟩:=rsto3 hb18 (by omega) (HB_R.o.ext (g16.trans g17)) (by decide) (.bool s88) (.slice a88 n88 c88) (.slice a88' n88' c88');rw [←hW18];clear hW18;replace HB_R:=hid B18
    try dsimp only
    refine hKK.out _ _ (g18) (fun hHeld => ?_);refine wpAnyH_done (by kernel_rfl) ?_ _;go_wp2_with fail;go_meet
    exact ⟨_,rfl,hid g18,hleR,_,_,_,_,_,_,_,HB_R.o,(k88.keepR q18)⟩
  case rest =>
   obtain ⟨gR,rfl,gx19,hg19,s19,a19,n19,c19,a19',n19',c19',B19,kv19⟩:=hcut;obtain ⟨wc19,rfl⟩:∃ x,x=wc:=⟨_,rfl⟩;have HB_R:=hid B19;clear B19;have he26:=(he13.trans gx19.o);replace ac:=gx19.o.cl ac;have hr27:Ext wc19 wc19:=Below.refl _ _;replace ac:=cland ac HB_R.o.a3;go_wp2_with fail;refine (CSG.o _ _ kv19).mono ?_;rintro e w20 ⟨rfl,g20⟩;go_wp2_with fail;refine (CX.o _ _ (kv19.ext g20)).mono ?_;rintro e w21 ⟨rfl,g21⟩;have hb28:=g20.trans g21;obtain ⟨U29,U30⟩:=((HB_Z.o.ext (g1.trans (g2.trans (g3.trans (g4.trans (gx6.o.trans (g12.trans (g13.trans gx19.o)))))))).ext hb28).f2;go_wp2_with fail;clear U29 U30;obtain ⟨W22,hW22,g22,q22,B22,hy22,ho22⟩:=rsto2 (he26.trans hb28) (by omega) ((HB_Z.o.ext (g1.trans (g2.trans (g3.trans (g4.trans (gx6.o.trans (g12.trans (g13.trans gx19.o)))))))).ext hb28) (by decide) (.int .u64 r0) (.int .u64 r1);rw [←hW22];clear hW22;replace HB_Z:=hid B22;obtain ⟨J31,J32⟩:=HB_Z.o.c2;refine bodyPost_ret (v:=.tuple #[.agg #[.int .u64 r0,.int .u64 r1],.int .i64 0]) (by simp [results,Tryz.results21,go_sem,J31,J32]) rfl ⟨rfl,g22⟩
theorem Next_same_d (E P n:Nat) (w:World) (hF:Fmt E P) (hn:n<2^(E+P)) (hk:wkind E P n≤3) (hs:n=infw E P true) :
  Calls Tryz.prog 21 #[.agg #[.int .i64 (E:Nat),.int .i64 (P:Nat)],Word n,.bool false] w fun e w'=>e=.returned (.tuple #[Word n,.int .i64 0])∧Ext w w':=by
 obtain ⟨hE,hP,hb,hEP,hb1⟩:=fmt_bounds hF;have hn8:W128 n:=w128_of hEP hn;obtain ⟨i0,hi0⟩:∃ x:Nat,x=n/18446744073709551616:=⟨_,rfl⟩;obtain ⟨i1,hi1⟩:∃ x:Nat,x=n%18446744073709551616:=⟨_,rfl⟩;have ei:Word n=.agg #[.int .u64 i0,.int .u64 i1]:=by unfold Word;rw [←hi0,←hi1]
 obtain ⟨kd,hkd⟩:∃ x,x=wkind E P n:=⟨_,rfl⟩;have CI:Hid (∀ w,Calls Tryz.prog 69 #[.agg #[.int .i64 (E:Nat),.int .i64 (P:Nat),.int .i64 0,.int .i64 (bias E:Nat)],.agg #[.int .u64 i0,.int .u64 i1]] w (LookPost kd (wn E P n) (wvalK E P (bias E) n) w)):=hid fun w=>by
  rw [←ei,hkd];exact look_c E P 0 (bias E) n w hF hb hn8
 have HW:Hid (withRes E P 0 [n]=.tuple #[.agg #[.int .i64 (E:Nat),.int .i64 (P:Nat),.int .i64 0,.int .i64 (bias E:Nat)],.int .i64 0]):=hid (by unfold withRes;rw [if_pos (fun x hx=>by rw [List.mem_singleton] at hx;rw [hx];exact hn)];rfl);have hd:decide (4≤kd)=false:=decide_eq_false (by rw [hkd];omega);obtain ⟨a0,a1,ea⟩:=Word.shape (infw E P true);have CIF:Hid (∀ w,Calls Tryz.prog 45 #[.agg #[.int .i64 (E:Nat),.int .i64 (P:Nat),.int .i64 0,.int .i64 (bias E:Nat)],.bool true] w fun e w'=>e=.returned (.agg #[.int .u64 a0,.int .u64 a1])∧Ext w w'):=hid fun w=>by
  have:=infinite_c E P 0 (bias E) true w hF
  rwa [ea] at this
 obtain ⟨rfl,rfl⟩:i0=a0∧i1=a1:=by
  rw [hs,ea] at ei;have h2:((a0:Nat):Int)=i0∧((a1:Nat):Int)=i1:=by simpa using ei
  omega
 rw [ei];have HF:=hid hF;have HN:=hid hn8;have HI0:=hid hi0;have HI1:=hid hi1;clear hF hn hE hP hb hEP hb1 hn8 hi0 hi1 ei hkd hk hs ea;obtain ⟨W0,hW0,g0,hz0,B_F,B_A,B_Z⟩:=pro3s w #[.int .i64 (E:Nat),.int .i64 (P:Nat)] #[.int .u64 i0,.int .u64 i1] #[.int .u64 0,.int .u64 0] 23 29 29;have HE:=hid g0;have HB_F:=hid B_F;have HB_A:=hid B_A;have HB_Z:=hid B_Z;have ac:=cland HB_F.o.a2 (cland HB_A.o.a2 (HB_Z.o.a2));have hr0:Ext W0 W0:=Below.refl _ _;clear g0 B_F B_A B_Z 
 go_enter Tryz.func21,Tryz.ntmps21
 go_upto_region 1 with (fail)
 rw [←hW0];clear hW0;go_wp2_with fail;obtain ⟨W1,hW1,g1,hy1,B_R⟩:=pro1 W0 #[.int .u64 i0,.int .u64 i1] 29;rw [←hW1];clear hW1;have HB_R:=hid B_R;clear B_R;have he1:=(HE.o.trans g1);replace ac:=g1.cl ac;have hr2:Ext W1 W1:=Below.refl _ _;replace ac:=cland ac HB_R.o.a2;have HWS:Hid (WSl W1 (.slice (some ⟨W0.heap.size,0,none⟩) 1 1) [n]):=hid ⟨some ⟨W0.heap.size,0,none⟩,W0.heap.size,0,1,rfl,Nat.le_refl _,by decide,fun _=>rfl,fun x hx=>by
   rw [List.mem_singleton] at hx;rw [hx];exact HN.o,fun i hi=>by
   obtain rfl:i=0:=by simpa using hi
   refine ⟨?_,?_⟩
   ·have:=HB_R.o.cell 0;rw [HI0.o] at this;exact this
   ·have:=HB_R.o.cell 1;rw [HI1.o] at this;exact this⟩
 refine (with_good E P 0 _ [n] _ (by decide) HF.o HWS.o).mono ?_;rintro e w2 ⟨rfl,g2⟩;rw [HW.o];have gA:=g2.trans (Ext.alloc w2 (.cells #[.int .i64 (E:Nat),.int .i64 (P:Nat),.int .i64 0,.int .i64 (bias E:Nat)] 81));go_wp2_with fail;clear gA;have hs3:=g2.size;obtain ⟨W3,hW3,g3,hy3,B_M⟩:=pro1 w2 #[.int .i64 (E:Nat),.int .i64 (P:Nat),.int .i64 0,.int .i64 (bias E:Nat)] 81;rw [←hW3];clear hW3;have hb4:=g2.trans g3;have HB_M:=hid B_M;clear B_M;have he5:=(he1.trans hb4);replace ac:=hb4.cl ac;have hr6:Ext W3 W3:=Below.refl _ _;replace ac:=cland ac HB_M.o.a4;generalize wn E P n=sg at *
 generalize wvalK E P (bias E) n=qv at *
 refine (CI.o _).mono ?_;rintro e w4 ⟨v1,rfl,⟨ng,a,k,c,a',k',c',rfl,kv⟩,g4⟩;clear kv;have hfd:∀ W,(Instr.field 112 (.agg #[.int .i64 kd,.bool sg,.bool ng,.slice a k c,.slice a' k' c']) 0).run Tryz.prog W=.ok (.int .i64 kd) W:=fun W=>by kernel_rfl
 go_upto_region 6 with (fail)
 have g5:Ext w4 w4.drew:=Below.drew (Below.refl _ _);have hb7:=g4.trans g5;refine wp_region_held_drew (S:=Ext W3) (by kernel_rfl) (hb7) (fun hHeld => ?_);generalize w4.drew=wD5 at *
 apply wts 0 32 rfl rfl (by kernel_rfl) (fun _ _ _ h=>h) hHeld
 ·intro w' hSw;go_simp<;>with_reducible rfl
 apply wts 1 33 rfl rfl (by kernel_rfl) (fun _ _ _ h=>h) hHeld
 ·intro w' hSw;go_simp<;>with_reducible rfl
 apply wts 2 34 rfl rfl (by kernel_rfl) (fun _ _ _ h=>h) hHeld
 ·intro w' hSw;go_simp<;>with_reducible rfl
 apply wts 3 35 rfl rfl (by kernel_rfl) (fun _ _ _ h=>h) hHeld
 ·intro w' hSw;go_simp<;>with_reducible rfl
 try simp only [Act.put,pA,pB,pC]
 refine wonc 4 36 45 #[.tmp 33,.tmp 35] #[81,4] 29 (by kernel_rfl) rfl rfl (fun KK hKK => ?_);go_simp;refine (CIF.o _).mono ?_;rintro e w6 ⟨rfl,g6⟩;have hb8:=hb7.trans g6
 try dsimp only
 refine hKK.out _ _ (hb8) (fun hHeld => ?_);apply wts 5 37 rfl rfl (by kernel_rfl) (fun _ _ _ h=>h) hHeld
 ·intro w' hSw;go_simp<;>with_reducible rfl
 apply wts 6 31 rfl rfl (by kernel_rfl) (fun _ _ _ h=>h) hHeld
 ·intro w' hSw;go_simp<;>with_reducible rfl
 refine wpAnyH_done (by kernel_rfl) ?_ _;obtain ⟨U9,U10⟩:=((HB_Z.o.ext (g1.trans (g2.trans g3))).ext hb8).f2;go_wp2_with fail;clear U9 U10;obtain ⟨W7,hW7,g7,q7,B7,hy7,ho7⟩:=rsto2 (he5.trans hb8) (by omega) ((HB_Z.o.ext (g1.trans (g2.trans g3))).ext hb8) (by decide) (.int .u64 i0) (.int .u64 i1);rw [←hW7];clear hW7;replace HB_Z:=hid B7;obtain ⟨J11,J12⟩:=HB_Z.o.c2;refine bodyPost_ret (v:=.tuple #[.agg #[.int .u64 i0,.int .u64 i1],.int .i64 0]) (by simp [results,Tryz.results21,go_sem,J11,J12]) rfl ⟨rfl,g7⟩
theorem Next_step_d (E P n:Nat) (w:World) (hF:Fmt E P) (hn:n<2^(E+P)) (hk:wkind E P n≤3) (hs:n≠infw E P true) (htb:(rankZ E P n+(-1)).natAbs<2^124) :
  Calls Tryz.prog 21 #[.agg #[.int .i64 (E:Nat),.int .i64 (P:Nat)],Word n,.bool false] w fun e w'=>e=.returned (.tuple #[Word (rankW E P (rankZ E P n+(-1))),.int .i64 0])∧Ext w w':=by
 obtain ⟨hE,hP,hb,hEP,hb1⟩:=fmt_bounds hF;have hn8:W128 n:=w128_of hEP hn;obtain ⟨i0,hi0⟩:∃ x:Nat,x=n/18446744073709551616:=⟨_,rfl⟩;obtain ⟨i1,hi1⟩:∃ x:Nat,x=n%18446744073709551616:=⟨_,rfl⟩;have ei:Word n=.agg #[.int .u64 i0,.int .u64 i1]:=by unfold Word;rw [←hi0,←hi1]
 obtain ⟨kd,hkd⟩:∃ x,x=wkind E P n:=⟨_,rfl⟩;have CI:Hid (∀ w,Calls Tryz.prog 69 #[.agg #[.int .i64 (E:Nat),.int .i64 (P:Nat),.int .i64 0,.int .i64 (bias E:Nat)],.agg #[.int .u64 i0,.int .u64 i1]] w (LookPost kd (wn E P n) (wvalK E P (bias E) n) w)):=hid fun w=>by
  rw [←ei,hkd];exact look_c E P 0 (bias E) n w hF hb hn8
 have HW:Hid (withRes E P 0 [n]=.tuple #[.agg #[.int .i64 (E:Nat),.int .i64 (P:Nat),.int .i64 0,.int .i64 (bias E:Nat)],.int .i64 0]):=hid (by unfold withRes;rw [if_pos (fun x hx=>by rw [List.mem_singleton] at hx;rw [hx];exact hn)];rfl);have hd:decide (4≤kd)=false:=decide_eq_false (by rw [hkd];omega);obtain ⟨a0,a1,ea⟩:=Word.shape (infw E P true);have CIF:Hid (∀ w,Calls Tryz.prog 45 #[.agg #[.int .i64 (E:Nat),.int .i64 (P:Nat),.int .i64 0,.int .i64 (bias E:Nat)],.bool true] w fun e w'=>e=.returned (.agg #[.int .u64 a0,.int .u64 a1])∧Ext w w'):=hid fun w=>by
  have:=infinite_c E P 0 (bias E) true w hF
  rwa [ea] at this
 have hne:(i0≠a0)∨(i0=a0∧i1≠a1):=by
  by_cases h0:i0=a0
  ·right;refine ⟨h0,fun h1=>hs ?_⟩
   have e2:Word n=Word (infw E P true):=by rw [ei,ea,h0,h1]
   exact Word.inj e2
  ·left;exact h0
 obtain ⟨r0,r1,er⟩:=Word.shape (rankW E P (rankZ E P n+(-1)));have CK:Hid (∀ w,Calls Tryz.prog 70 #[.agg #[.int .i64 (E:Nat),.int .i64 (P:Nat),.int .i64 0,.int .i64 (bias E:Nat)],.agg #[.int .u64 i0,.int .u64 i1]] w fun e w'=>∃ v,e=.returned v∧NumV w' v ((rankZ E P n:Int):Rat)∧Ext w w'):=hid fun w=>by
  have:=rank_c E P 0 (bias E) n w hF hb hn8
  rwa [ei] at this
 have b0:=rankZ_lt (n:=n) hEP;obtain ⟨z,hz⟩:∃ z,z=rankZ E P n:=⟨_,rfl⟩;rw [←hz] at CK b0 htb  er;obtain ⟨t,ht⟩:∃ t,t=z+(-1):=⟨_,rfl⟩;rw [←ht] at htb  er;have et:((z:Int):Rat)+(((-1):Int):Rat)=((t:Int):Rat):=by rw [ht,Rat.intCast_add]
 have tb:t.natAbs<2^124+1:=by omega
 have CI1:Hid (∀ w,_):=hid fun w=>Int_c 1 w (by decide) (by decide);have CIm:Hid (∀ w,_):=hid fun w=>Int_c (-1) w (by decide) (by decide);have CAD:Hid (∀ u v w,NumV w u ((z:Int):Rat)→NumV w v (((-1):Int):Rat)→Calls Tryz.prog 83 #[u,v] w fun e w'=>∃ x,e=.returned x∧NumV w' x ((t:Int):Rat)∧Ext w w'):=hid fun u v w h k=>by
  have:=Add_c u v _ _ 124 w h k (SmQ.int (by decide) b0) (SmQ.int (by decide) (by decide)) (by decide)
  rwa [et] at this
 obtain ⟨sgn,hsgn⟩:∃ s,s=t.sign:=⟨_,rfl⟩;have CSG:Hid (∀ v w,NumV w v ((t:Int):Rat)→Calls Tryz.prog 27 #[v] w fun e w'=>e=.returned (.int .i64 sgn)∧Ext w w'):=hid fun v w h=>by rw [hsgn];exact sign_c v _ w h
 have CX:Hid (∀ v w,NumV w v ((t:Int):Rat)→Calls Tryz.prog 84 #[.agg #[.int .i64 (E:Nat),.int .i64 (P:Nat),.int .i64 0,.int .i64 (bias E:Nat)],v] w fun e w'=>e=.returned (.agg #[.int .u64 r0,.int .u64 r1])∧Ext w w'):=hid fun v w h=>by
  have:=ranked_c E P 0 (bias E) v t w hF h htb
  rwa [er] at this
 rw [←hz,←ht,er];rw [ei];have HF:=hid hF;have HN:=hid hn8;have HI0:=hid hi0;have HI1:=hid hi1;clear hF hn hE hP hb hEP hb1 hn8 hi0 hi1 ei hkd hk hs ea er hz ht et b0 tb hsgn htb;obtain ⟨W0,hW0,g0,hz0,B_F,B_A,B_Z⟩:=pro3s w #[.int .i64 (E:Nat),.int .i64 (P:Nat)] #[.int .u64 i0,.int .u64 i1] #[.int .u64 0,.int .u64 0] 23 29 29;have HE:=hid g0;have HB_F:=hid B_F;have HB_A:=hid B_A;have HB_Z:=hid B_Z;have ac:=cland HB_F.o.a2 (cland HB_A.o.a2 (HB_Z.o.a2));have hr0:Ext W0 W0:=Below.refl _ _;clear g0 B_F B_A B_Z 
 go_enter Tryz.func21,Tryz.ntmps21
 go_upto_region 1 with (fail)
 rw [←hW0];clear hW0;go_wp2_with fail;obtain ⟨W1,hW1,g1,hy1,B_R⟩:=pro1 W0 #[.int .u64 i0,.int .u64 i1] 29;rw [←hW1];clear hW1;have HB_R:=hid B_R;clear B_R;have he1:=(HE.o.trans g1);replace ac:=g1.cl ac;have hr2:Ext W1 W1:=Below.refl _ _;replace ac:=cland ac HB_R.o.a2;have HWS:Hid (WSl W1 (.slice (some ⟨W0.heap.size,0,none⟩) 1 1) [n]):=hid ⟨some ⟨W0.heap.size,0,none⟩,W0.heap.size,0,1,rfl,Nat.le_refl _,by decide,fun _=>rfl,fun x hx=>by
   rw [List.mem_singleton] at hx;rw [hx];exact HN.o,fun i hi=>by
   obtain rfl:i=0:=by simpa using hi
   refine ⟨?_,?_⟩
   ·have:=HB_R.o.cell 0;rw [HI0.o] at this;exact this
   ·have:=HB_R.o.cell 1;rw [HI1.o] at this;exact this⟩
 refine (with_good E P 0 _ [n] _ (by decide) HF.o HWS.o).mono ?_;rintro e w2 ⟨rfl,g2⟩;rw [HW.o];have gA:=g2.trans (Ext.alloc w2 (.cells #[.int .i64 (E:Nat),.int .i64 (P:Nat),.int .i64 0,.int .i64 (bias E:Nat)] 81));go_wp2_with fail;clear gA;have hs3:=g2.size;obtain ⟨W3,hW3,g3,hy3,B_M⟩:=pro1 w2 #[.int .i64 (E:Nat),.int .i64 (P:Nat),.int .i64 0,.int .i64 (bias E:Nat)] 81;rw [←hW3];clear hW3;have hb4:=g2.trans g3;have HB_M:=hid B_M;clear B_M;have he5:=(he1.trans hb4);replace ac:=hb4.cl ac;have hr6:Ext W3 W3:=Below.refl _ _;replace ac:=cland ac HB_M.o.a4;generalize wn E P n=sg at *
 generalize wvalK E P (bias E) n=qv at *
 refine (CI.o _).mono ?_;rintro e w4 ⟨v1,rfl,⟨ng,a,k,c,a',k',c',rfl,kv⟩,g4⟩;clear kv;have hfd:∀ W,(Instr.field 112 (.agg #[.int .i64 kd,.bool sg,.bool ng,.slice a k c,.slice a' k' c']) 0).run Tryz.prog W=.ok (.int .i64 kd) W:=fun W=>by kernel_rfl
 go_upto_region 6 with (fail)
 have he7:=(he5.trans g4);replace ac:=g4.cl ac;have hr8:Ext w4 w4:=Below.refl _ _
 go_cut [31] (fun sv wx=>sv=.bool false∧Hid (Ext w4 wx))
 case first =>
  rcases hne with h | ⟨h,h2⟩
  ·have hq:¬ ((i0:Nat):Int)=(a0:Int):=by omega
   clear h;have g5:Ext w4 w4.drew:=Below.drew (Below.refl _ _);refine wp_region_held_drew (S:=Ext w4) (by kernel_rfl) (g5) (fun hHeld => ?_);generalize w4.drew=wD5 at *
   apply wts 0 32 rfl rfl (by kernel_rfl) (fun _ _ _ h=>h) hHeld
   ·intro w' hSw;go_simp<;>with_reducible rfl
   apply wts 1 33 rfl rfl (by kernel_rfl) (fun _ _ _ h=>h) hHeld
   ·intro w' hSw;go_simp<;>with_reducible rfl
   apply wts 2 34 rfl rfl (by kernel_rfl) (fun _ _ _ h=>h) hHeld
   ·intro w' hSw;go_simp<;>with_reducible rfl
   apply wts 3 35 rfl rfl (by kernel_rfl) (fun _ _ _ h=>h) hHeld
   ·intro w' hSw;go_simp<;>with_reducible rfl
   try simp only [Act.put,pA,pB,pC]
   refine wonc 4 36 45 #[.tmp 33,.tmp 35] #[81,4] 29 (by kernel_rfl) rfl rfl (fun KK hKK => ?_);go_simp;refine (CIF.o _).mono ?_;rintro e w6 ⟨rfl,g6⟩;have hb9:=g5.trans g6
   try dsimp only
   refine hKK.out _ _ (hb9) (fun hHeld => ?_);apply wts 5 37 rfl rfl (by kernel_rfl) (fun _ _ _ h=>h) hHeld
   ·intro w' hSw;go_simp<;>with_reducible rfl
   apply wts 6 31 rfl rfl (by kernel_rfl) (fun _ _ _ h=>h) hHeld
   ·intro w' hSw;go_simp<;>with_reducible rfl
   refine wpAnyH_done (by kernel_rfl) ?_ _;go_wp2_with fail;go_meet
   exact ⟨rfl,hid hb9⟩
  ·subst h;have hq:¬ ((i1:Nat):Int)=(a1:Int):=by omega
   clear h2;have g5:Ext w4 w4.drew:=Below.drew (Below.refl _ _);refine wp_region_held_drew (S:=Ext w4) (by kernel_rfl) (g5) (fun hHeld => ?_);generalize w4.drew=wD5 at *
   apply wts 0 32 rfl rfl (by kernel_rfl) (fun _ _ _ h=>h) hHeld
   ·intro w' hSw;go_simp<;>with_reducible rfl
   apply wts 1 33 rfl rfl (by kernel_rfl) (fun _ _ _ h=>h) hHeld
   ·intro w' hSw;go_simp<;>with_reducible rfl
   apply wts 2 34 rfl rfl (by kernel_rfl) (fun _ _ _ h=>h) hHeld
   ·intro w' hSw;go_simp<;>with_reducible rfl
   apply wts 3 35 rfl rfl (by kernel_rfl) (fun _ _ _ h=>h) hHeld
   ·intro w' hSw;go_simp<;>with_reducible rfl
   try simp only [Act.put,pA,pB,pC]
   refine wonc 4 36 45 #[.tmp 33,.tmp 35] #[81,4] 29 (by kernel_rfl) rfl rfl (fun KK hKK => ?_);go_simp;refine (CIF.o _).mono ?_;rintro e w6 ⟨rfl,g6⟩;have hb9:=g5.trans g6
   try dsimp only
   refine hKK.out _ _ (hb9) (fun hHeld => ?_);apply wts 5 37 rfl rfl (by kernel_rfl) (fun _ _ _ h=>h) hHeld
   ·intro w' hSw;go_simp<;>with_reducible rfl
   apply wts 6 31 rfl rfl (by kernel_rfl) (fun _ _ _ h=>h) hHeld
   ·intro w' hSw;go_simp<;>with_reducible rfl
   refine wpAnyH_done (by kernel_rfl) ?_ _;go_wp2_with fail;go_meet
   exact ⟨rfl,hid hb9⟩
 case rest =>
  obtain ⟨rfl,gx6⟩:=hcut;obtain ⟨w6,rfl⟩:∃ x,x=wc:=⟨_,rfl⟩;clear hne;go_wp2_with fail;refine (CI1.o _).mono ?_;rintro e w12 ⟨v5,rfl,k5,g12⟩;have hb9:=gx6.o.trans g12;obtain ⟨s910,a910,n910,c910,a910',n910',c910',rfl⟩:=k5.shape;have gA:=hb9.trans (Ext.alloc w12 (.cells #[.bool s910,.slice a910 n910 c910,.slice a910' n910' c910'] 40));go_wp2_with fail;clear gA;have hs11:=(g4.trans (gx6.o.trans g12)).size;obtain ⟨W13,hW13,g13,hy13,B_N⟩:=pro1 w12 #[.bool s910,.slice a910 n910 c910,.slice a910' n910' c910'] 40;rw [←hW13];clear hW13;have hb12:=hb9.trans g13;have HB_N:=hid B_N;clear B_N;have he13:=(he7.trans hb12);replace ac:=hb12.cl ac;have hr14:Ext W13 W13:=Below.refl _ _;replace ac:=cland ac HB_N.o.a3;refine (CIm.o _).mono ?_;rintro e w14 ⟨v6,rfl,k6,g14⟩;obtain ⟨ng6,a6,n6,c6,a6',n6',c6',rfl⟩:=k6.shape;obtain ⟨U15,U16,U17⟩:=(HB_N.o.ext g14).f3
  go_upto_region 11 with (fail)
  clear U15 U16 U17;obtain ⟨W15,hW15,g15,q15,B15,hy15,ho15⟩:=rsto3 (he13.trans g14) (by omega) (HB_N.o.ext g14) (by decide) (.bool ng6) (.slice a6 n6 c6) (.slice a6' n6' c6');rw [←hW15];clear hW15;replace HB_N:=hid B15;have ac:=cland (ho15 _ _ _ (by omega) (HB_F.o.ext (g1.trans (g2.trans (g3.trans (g4.trans (gx6.o.trans (g12.trans (g13.trans g14))))))))).a2 (cland (ho15 _ _ _ (by omega) (HB_A.o.ext (g1.trans (g2.trans (g3.trans (g4.trans (gx6.o.trans (g12.trans (g13.trans g14))))))))).a2 (cland (ho15 _ _ _ (by omega) (HB_Z.o.ext (g1.trans (g2.trans (g3.trans (g4.trans (gx6.o.trans (g12.trans (g13.trans g14))))))))).a2 (cland (ho15 _ _ _ (by omega) (HB_M.o.ext (g4.trans (gx6.o.trans (g12.trans (g13.trans g14)))))).a4 (HB_N.o.a3))));have hr18:Ext W15 W15:=Below.refl _ _
  go_cut [11] (fun sv wx=>∃ g:Nat,sv=.pointer (some ⟨g,0,none⟩)∧Hid (Ext W15 wx)∧W15.heap.size≤g∧NumBox wx g (((t:Int):Rat)))
  case first =>
   have g16:Ext W15 W15.drew:=Below.drew (Below.refl _ _);refine wp_region_held_drew (S:=Ext W15) (by kernel_rfl) (g16) (fun hHeld => ?_);generalize W15.drew=wD16 at *
   apply wts 0 43 rfl rfl (by kernel_rfl) (fun _ _ _ h=>h) hHeld
   ·intro w' hSw;go_simp<;>with_reducible rfl
   apply wts 1 44 rfl rfl (by kernel_rfl) (fun _ _ _ h=>h) hHeld
   ·intro w' hSw;go_simp<;>with_reducible rfl
   apply wts 3 46 rfl rfl (by kernel_rfl) (fun _ _ _ h=>h) hHeld
   ·intro w' hSw;go_simp<;>with_reducible rfl
   try simp only [Act.put,pA,pB,pC]
   refine wpAnyH_ready (rs:=[2,5]) (by kernel_rfl) (by simp) ?_;refine consb 2 { dst:=some 45,op:=Op.call { callee:=Callee.value (Operand.func 70),args:=#[Operand.tmp 43,Operand.tmp 44],argTypes:=#[81,29] },type:=40,pos := "",after:=#[],guard:=none } rfl rfl (fun KK hKK => ?_) (consb 5 { dst:=some 11,op:=Op.alloc 40,type:=0,pos := "",after:=#[],guard:=none } rfl rfl (fun KK hKK => ?_) (AllReadyH.nil))
   ·go_simp;refine (CK.o _).mono ?_;rintro e w17 ⟨v7,rfl,m7,g17⟩;have hb19:=g16.trans g17
    try dsimp only
    refine hKK.out _ _ (hb19) (fun hHeld => ?_)
    try simp only [Act.put,pA,pB,pC]
    refine wpAnyH_ready (rs:=[4,5]) (by kernel_rfl) (by simp) ?_;refine consb 4 { dst:=some 47,op:=Op.call { callee:=Callee.value (Operand.func 83),args:=#[Operand.tmp 45,Operand.tmp 46],argTypes:=#[40,40] },type:=40,pos := "",after:=#[],guard:=none } rfl rfl (fun KK hKK => ?_) (consb 5 { dst:=some 11,op:=Op.alloc 40,type:=0,pos := "",after:=#[],guard:=none } rfl rfl (fun KK hKK => ?_) (AllReadyH.nil))
    ·go_simp;refine (CAD.o _ _ _ m7 ((k6.keepR q15).ext hb19)).mono ?_;rintro e w18 ⟨v8,rfl,k88,g18⟩;have hb20:=hb19.trans g18;obtain ⟨s88,a88,n88,c88,a88',n88',c88',rfl⟩:=k88.shape
     try dsimp only
     refine hKK.out _ _ (hb20) (fun hHeld => ?_)
     try simp only [Act.put,pA,pB,pC]
     refine won 5 { dst:=some 11,op:=Op.alloc 40,type:=0,pos := "",after:=#[],guard:=none } (by kernel_rfl) rfl rfl (fun KK hKK => ?_);go_simp;have hs21:=g14.size;have hs22:=(g16.trans (g17.trans g18)).size;obtain ⟨W19,hW19,g19,hy19,B_R⟩:=pro1 w18 #[.bool false,.slice none 0 0,.slice none 0 0] 40;rw [←hW19];clear hW19;have hleR:=hb20.size;have hb23:=hb20.trans g19;have HB_R:=hid B_R;clear B_R;have hzR:=hb23.size
     try dsimp only
     refine hKK.out _ _ (hb23) (fun hHeld => ?_)
     try simp only [Act.put,pA,pB,pC]
     refine wons 6 40 11 47 (by kernel_rfl) rfl rfl (fun KK hKK => ?_);obtain ⟨J27,J28,J29⟩:=HB_R.o.c3;obtain ⟨U24,U25,U26⟩:=HB_R.o.f3;go_simp;clear U24 U25 U26 J27 J28 J29;obtain ⟨W20,hW20,g20,q20,B20,hy20,ho20⟩:=rsto3 hb23 (by omega) HB_R.o (by decide) (.bool s88) (.slice a88 n88 c88) (.slice a88' n88' c88');rw [←hW20];clear hW20;replace HB_R:=hid B20
     try dsimp only
     refine hKK.out _ _ (g20) (fun hHeld => ?_);refine wpAnyH_done (by kernel_rfl) ?_ _;go_wp2_with fail;go_meet
     exact ⟨_,rfl,hid g20,hleR,_,_,_,_,_,_,_,HB_R.o,((k88.ext g19).keepR q20)⟩
    ·go_simp;have hs20:=g14.size;have hs21:=(g16.trans g17).size;obtain ⟨W18,hW18,g18,hy18,B_R⟩:=pro1 w17 #[.bool false,.slice none 0 0,.slice none 0 0] 40;rw [←hW18];clear hW18;have hleR:=hb19.size;have hb22:=hb19.trans g18;have HB_R:=hid B_R;clear B_R;have hzR:=hb22.size
     try dsimp only
     refine hKK.out _ _ (hb22) (fun hHeld => ?_)
     try simp only [Act.put,pA,pB,pC]
     refine wonc 4 47 83 #[.tmp 45,.tmp 46] #[40,40] 40 (by kernel_rfl) rfl rfl (fun KK hKK => ?_);go_simp;refine (CAD.o _ _ _ (m7.ext g18) ((k6.keepR q15).ext hb22)).mono ?_;rintro e w19 ⟨v8,rfl,k88,g19⟩;have hb23:=hb22.trans g19;obtain ⟨s88,a88,n88,c88,a88',n88',c88',rfl⟩:=k88.shape
     try dsimp only
     refine hKK.out _ _ (hb23) (fun hHeld => ?_)
     try simp only [Act.put,pA,pB,pC]
     refine wons 6 40 11 47 (by kernel_rfl) rfl rfl (fun KK hKK => ?_);obtain ⟨J27,J28,J29⟩:=(HB_R.o.ext g19).c3;obtain ⟨U24,U25,U26⟩:=(HB_R.o.ext g19).f3;go_simp;clear U24 U25 U26 J27 J28 J29;obtain ⟨W20,hW20,g20,q20,B20,hy20,ho20⟩:=rsto3 hb23 (by omega) (HB_R.o.ext g19) (by decide) (.bool s88) (.slice a88 n88 c88) (.slice a88' n88' c88');rw [←hW20];clear hW20;replace HB_R:=hid B20
     try dsimp only
     refine hKK.out _ _ (g20) (fun hHeld => ?_);refine wpAnyH_done (by kernel_rfl) ?_ _;go_wp2_with fail;go_meet
     exact ⟨_,rfl,hid g20,hleR,_,_,_,_,_,_,_,HB_R.o,(k88.keepR q20)⟩
   ·go_simp;have hs19:=g14.size;have hs20:=g16.size;obtain ⟨W17,hW17,g17,hy17,B_R⟩:=pro1 wD16 #[.bool false,.slice none 0 0,.slice none 0 0] 40;rw [←hW17];clear hW17;have hleR:=g16.size;have hb21:=g16.trans g17;have HB_R:=hid B_R;clear B_R;have hzR:=hb21.size
    try dsimp only
    refine hKK.out _ _ (hb21) (fun hHeld => ?_)
    try simp only [Act.put,pA,pB,pC]
    refine wonc 2 45 70 #[.tmp 43,.tmp 44] #[81,29] 40 (by kernel_rfl) rfl rfl (fun KK hKK => ?_);go_simp;refine (CK.o _).mono ?_;rintro e w18 ⟨v7,rfl,m7,g18⟩;have hb22:=hb21.trans g18
    try dsimp only
    refine hKK.out _ _ (hb22) (fun hHeld => ?_)
    try simp only [Act.put,pA,pB,pC]
    refine wonc 4 47 83 #[.tmp 45,.tmp 46] #[40,40] 40 (by kernel_rfl) rfl rfl (fun KK hKK => ?_);go_simp;refine (CAD.o _ _ _ m7 ((k6.keepR q15).ext hb22)).mono ?_;rintro e w19 ⟨v8,rfl,k88,g19⟩;have hb23:=hb22.trans g19;obtain ⟨s88,a88,n88,c88,a88',n88',c88',rfl⟩:=k88.shape
    try dsimp only
    refine hKK.out _ _ (hb23) (fun hHeld => ?_)
    try simp only [Act.put,pA,pB,pC]
    refine wons 6 40 11 47 (by kernel_rfl) rfl rfl (fun KK hKK => ?_);obtain ⟨J27,J28,J29⟩:=(HB_R.o.ext (g18.trans g19)).c3;obtain ⟨U24,U25,U26⟩:=(HB_R.o.ext (g18.trans g19)).f3;go_simp;clear U24 U25 U26 J27 J28 J29;obtain ⟨W20,hW20,g20,q20,B20,hy20,ho20⟩:=rsto3 hb23 (by omega) (HB_R.o.ext (g18.trans g19)) (by decide) (.bool s88) (.slice a88 n88 c88) (.slice a88' n88' c88');rw [←hW20];clear hW20;replace HB_R:=hid B20
    try dsimp only
    refine hKK.out _ _ (g20) (fun hHeld => ?_);refine wpAnyH_done (by kernel_rfl) ?_ _;go_wp2_with fail;go_meet
    exact ⟨_,rfl,hid g20,hleR,_,_,_,_,_,_,_,HB_R.o,(k88.keepR q20)⟩
  case rest =>
   obtain ⟨gR,rfl,gx21,hg21,s21,a21,n21,c21,a21',n21',c21',B21,kv21⟩:=hcut;obtain ⟨wc21,rfl⟩:∃ x,x=wc:=⟨_,rfl⟩;have hs31:=g14.size;have HB_R:=hid B21;clear B21;have he32:=(g15.trans gx21.o);replace ac:=gx21.o.cl ac;have hr33:Ext wc21 wc21:=Below.refl _ _;replace ac:=cland ac HB_R.o.a3;go_wp2_with fail;refine (CSG.o _ _ kv21).mono ?_;rintro e w22 ⟨rfl,g22⟩
   by_cases h0:sgn=0
   ·subst h0;go_wp2_with fail;refine (CX.o _ _ (kv21.ext g22)).mono ?_;rintro e w23 ⟨rfl,g23⟩;have hb34:=g22.trans g23;obtain ⟨U35,U36⟩:=(((ho15 _ _ _ (by omega) (HB_Z.o.ext (g1.trans (g2.trans (g3.trans (g4.trans (gx6.o.trans (g12.trans (g13.trans g14))))))))).ext gx21.o).ext hb34).f2;go_wp2_with fail;clear U35 U36;obtain ⟨W24,hW24,g24,q24,B24,hy24,ho24⟩:=rsto2 (he32.trans hb34) (by omega) (((ho15 _ _ _ (by omega) (HB_Z.o.ext (g1.trans (g2.trans (g3.trans (g4.trans (gx6.o.trans (g12.trans (g13.trans g14))))))))).ext gx21.o).ext hb34) (by decide) (.int .u64 r0) (.int .u64 r1);rw [←hW24];clear hW24;replace HB_Z:=hid B24;obtain ⟨J37,J38⟩:=HB_Z.o.c2;refine bodyPost_ret (v:=.tuple #[.agg #[.int .u64 r0,.int .u64 r1],.int .i64 0]) (by simp [results,Tryz.results21,go_sem,J37,J38]) rfl ⟨rfl,g24⟩
   ·have hsz:(sgn==0)=false:=beq_eq_false_iff_ne.2 h0;clear h0;go_wp2_with fail;refine (CX.o _ _ (kv21.ext g22)).mono ?_;rintro e w23 ⟨rfl,g23⟩;have hb34:=g22.trans g23;obtain ⟨U35,U36⟩:=(((ho15 _ _ _ (by omega) (HB_Z.o.ext (g1.trans (g2.trans (g3.trans (g4.trans (gx6.o.trans (g12.trans (g13.trans g14))))))))).ext gx21.o).ext hb34).f2;go_wp2_with fail;clear U35 U36;obtain ⟨W24,hW24,g24,q24,B24,hy24,ho24⟩:=rsto2 (he32.trans hb34) (by omega) (((ho15 _ _ _ (by omega) (HB_Z.o.ext (g1.trans (g2.trans (g3.trans (g4.trans (gx6.o.trans (g12.trans (g13.trans g14))))))))).ext gx21.o).ext hb34) (by decide) (.int .u64 r0) (.int .u64 r1);rw [←hW24];clear hW24;replace HB_Z:=hid B24;obtain ⟨J37,J38⟩:=HB_Z.o.c2;refine bodyPost_ret (v:=.tuple #[.agg #[.int .u64 r0,.int .u64 r1],.int .i64 0]) (by simp [results,Tryz.results21,go_sem,J37,J38]) rfl ⟨rfl,g24⟩
end Go.Proofs.YtopmjkkjlagfcaaGreatDoor
