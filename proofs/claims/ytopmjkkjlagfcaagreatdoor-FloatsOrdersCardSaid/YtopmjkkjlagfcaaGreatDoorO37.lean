/- The reference's order: Next. -/
import Derived.Test.YtopmjkkjlagfcaaGreatDoorO36
import Derived.Test.YtopmjkkjlagfcaaGreatDoorO31
namespace Go.Proofs.YtopmjkkjlagfcaaGreatDoor
open Go.RowKit Vn
set_option maxRecDepth 100000
set_option maxHeartbeats 8000000
def rnextU (n k:Nat) (ng:Bool):Nat:=if k=1 then 1 else if k=3∧ng=false then n else if ng=true then n-1 else n+1
theorem wv_least (P b:Nat):wv P b 1 0=(2:Rat)^(2-(b:Int)-P):=by
 unfold wv;rw [show 2-(b:Int)-P+((0:Nat):Int)=2-(b:Int)-P by omega,show (((1:Nat):Nat):Rat)=1 from rfl,Rat.one_mul]
theorem wn_iff {E P n:Nat}:wn E P n=true↔2^(E+P-1)≤n:=by
 unfold wn;have h0:0<2^(E+P-1):=Nat.pow_pos (by decide);rw [decide_eq_true_iff,Ne,Nat.div_eq_zero_iff]
 omega
theorem pow_twice {E P:Nat} (h:1≤E+P):2^(E+P)=2*2^(E+P-1):=by rw [←Nat.pow_succ'];congr 1;omega
theorem flipW_lt {E P n:Nat} (h:1≤E+P) (hn:n<2^(E+P)):flipW E P n<2^(E+P):=by
 have:=pow_twice h
 unfold flipW;split<;>omega
theorem rnextw_bad_true (E P z:Int) (n1:Nat) (w:World) (hz:z≠0) (b1:W128 n1) (CW:Hid (∀ w v,WSl w v [n1]→Calls Tryz.prog 78 #[.agg #[.int .i64 E,.int .i64 P],.int .i64 0,v] w fun e w'=>e=.returned (.int .i64 z)∧Ext w w')) :
  Calls Tryz.prog 22 #[.agg #[.int .i64 E,.int .i64 P],Word n1,.bool true] w fun e w'=>e=.returned (.tuple #[.agg #[.int .u64 0,.int .u64 0],.int .i64 z])∧Ext w w':=by
 have hzb:(z != 0)=true:=bne_iff_ne.2 hz;have hzc:(z==0)=false:=beq_eq_false_iff_ne.2 hz;have HN1:=hid b1;clear hz b1;obtain ⟨h1,hh1⟩:∃ h,h=n1/18446744073709551616:=⟨_,rfl⟩;obtain ⟨l1,hl1⟩:∃ l,l=n1%18446744073709551616:=⟨_,rfl⟩;have ew1:Word n1=.agg #[.int .u64 (h1:Nat),.int .u64 (l1:Nat)]:=by unfold Word;rw [hh1,hl1]
 rw [ew1];have HH1:=hid hh1;have HL1:=hid hl1;have EW1:=hid ew1;clear hh1 hl1 ew1;obtain ⟨W0,hW0,g0,hz0,B_F,B_A,B_Z⟩:=pro3s w #[.int .i64 E,.int .i64 P] #[.int .u64 (h1:Nat),.int .u64 (l1:Nat)] #[.int .u64 0,.int .u64 0] 23 29 29;have HE:=hid g0;have HB_F:=hid B_F;have HB_A:=hid B_A;have HB_Z:=hid B_Z;have ac:=cland HB_F.o.a2 (cland HB_A.o.a2 (HB_Z.o.a2));have hr0:Ext W0 W0:=Below.refl _ _;clear g0 B_F B_A B_Z 
 go_enter Tryz.func22,Tryz.ntmps22
 go_upto_region 1 with (fail)
 rw [←hW0];clear hW0;go_wp2_with fail;obtain ⟨W1,hW1,g1,hy1,B_R⟩:=pro1 W0 #[.int .u64 (h1:Nat),.int .u64 (l1:Nat)] 29;rw [←hW1];clear hW1;have HB_R:=hid B_R;clear B_R;have he1:=(HE.o.trans g1);replace ac:=g1.cl ac;have hr2:Ext W1 W1:=Below.refl _ _;replace ac:=cland ac HB_R.o.a2;have HWS:Hid (WSl W1 (.slice (some ⟨W0.heap.size,0,none⟩) 1 1) [n1]):=hid ⟨some ⟨W0.heap.size,0,none⟩,W0.heap.size,0,1,rfl,Nat.le_refl _,by decide,fun _=>rfl,fun x hx=>by
   rw [List.mem_singleton] at hx;rw [hx];exact HN1.o,fun k hk=>by
   obtain rfl:k=0:=by simpa using hk
   ·refine ⟨?_,?_⟩
    ·have:=HB_R.o.cell 0;rw [HH1.o] at this;exact this
    ·have:=HB_R.o.cell 1;rw [HL1.o] at this;exact this⟩
 refine (CW.o _ _ HWS.o).mono ?_;rintro e w2 ⟨rfl,g2⟩;obtain ⟨U3,U4⟩:=((HB_Z.o.ext g1).ext g2).f2;go_wp2_with fail;clear U3 U4;obtain ⟨W3,hW3,g3,q3,B3,hy3,ho3⟩:=rsto2 (he1.trans g2) (by omega) ((HB_Z.o.ext g1).ext g2) (by decide) (.int .u64 0) (.int .u64 0);rw [←hW3];clear hW3;replace HB_Z:=hid B3;obtain ⟨J5,J6⟩:=HB_Z.o.c2;refine bodyPost_ret (v:=.tuple #[.agg #[.int .u64 0,.int .u64 0],.int .i64 z]) (by simp [results,Tryz.results22,go_sem,J5,J6]) rfl ⟨rfl,g3⟩
theorem rnextw_nan_true (E P n1 k1:Nat) (ng1:Bool) (q1:Rat) (w:World) (hF:Fmt E P) (hn1:n1<2^(E+P)) (hk1:wkind E P n1=k1) (hng1:wn E P n1=ng1) (hq1:wvalK E P (bias E) n1=q1) (hk1b:k1≤5) (hk:4≤k1) :
  Calls Tryz.prog 22 #[.agg #[.int .i64 (E:Nat),.int .i64 (P:Nat)],Word n1,.bool true] w fun e w'=>e=.returned (.tuple #[.agg #[.int .u64 0,.int .u64 0],.int .i64 4])∧Ext w w':=by
 have h124:=fmt_pow hF;have HN1:Hid (W128 n1):=hid (show n1<_ by omega);have HLT:=hid hn1;clear h124;obtain ⟨h1,hh1⟩:∃ h,h=n1/18446744073709551616:=⟨_,rfl⟩;obtain ⟨l1,hl1⟩:∃ l,l=n1%18446744073709551616:=⟨_,rfl⟩;have ew1:Word n1=.agg #[.int .u64 (h1:Nat),.int .u64 (l1:Nat)]:=by unfold Word;rw [hh1,hl1]
 rw [ew1];have HH1:=hid hh1;have HL1:=hid hl1;have EW1:=hid ew1;clear hh1 hl1 ew1;have CL1:Hid (∀ w,Calls Tryz.prog 79 #[.agg #[.int .i64 (E:Nat),.int .i64 (P:Nat)],.agg #[.int .u64 (h1:Nat),.int .u64 (l1:Nat)]] w fun e w'=>∃ v,e=.returned v∧ROpV w' v (k1:Nat) ng1 q1∧Ext w w'):=hid fun w=>by
  rw [←EW1.o];exact rlook_k E P n1 k1 ng1 q1 w hF hn1 hk1 hng1 hq1
 have HF:=hid hF;have CW:Hid (∀ w v,WSl w v [n1]→Calls Tryz.prog 78 #[.agg #[.int .i64 (E:Nat),.int .i64 (P:Nat)],.int .i64 0,v] w fun e w'=>e=.returned (.int .i64 0)∧Ext w w'):=hid fun w v h=>by
  have h2:=rwords_good E P 0 v [n1] w hF (by decide) h;have e:wordsR (2^(E+P)) [n1]=0:=by unfold wordsR;rw [if_pos];simp [hn1]
  rwa [e] at h2
 have HNG:Hid (ng1=true↔2^(E+P-1)≤n1):=hid (by rw [←hng1];exact wn_iff);obtain ⟨tn,htn⟩:∃ t,t=decide (4≤k1∧k1≤5):=⟨_,rfl⟩;have HTN:Hid (tn=decide (4≤k1∧k1≤5)):=hid htn;obtain rfl:tn=true:=by rw [htn];exact decide_eq_true ⟨hk,hk1b⟩
 clear hF hn1 hk1 hng1 hq1 hk1b htn hk;obtain ⟨W0,hW0,g0,hz0,B_F,B_A,B_Z⟩:=pro3s w #[.int .i64 (E:Nat),.int .i64 (P:Nat)] #[.int .u64 (h1:Nat),.int .u64 (l1:Nat)] #[.int .u64 0,.int .u64 0] 23 29 29;have HE:=hid g0;have HB_F:=hid B_F;have HB_A:=hid B_A;have HB_Z:=hid B_Z;have ac:=cland HB_F.o.a2 (cland HB_A.o.a2 (HB_Z.o.a2));have hr0:Ext W0 W0:=Below.refl _ _;clear g0 B_F B_A B_Z 
 go_enter Tryz.func22,Tryz.ntmps22
 go_upto_region 1 with (fail)
 rw [←hW0];clear hW0;go_wp2_with fail;obtain ⟨W1,hW1,g1,hy1,B_R⟩:=pro1 W0 #[.int .u64 (h1:Nat),.int .u64 (l1:Nat)] 29;rw [←hW1];clear hW1;have HB_R:=hid B_R;clear B_R;have he1:=(HE.o.trans g1);replace ac:=g1.cl ac;have hr2:Ext W1 W1:=Below.refl _ _;replace ac:=cland ac HB_R.o.a2;have HWS:Hid (WSl W1 (.slice (some ⟨W0.heap.size,0,none⟩) 1 1) [n1]):=hid ⟨some ⟨W0.heap.size,0,none⟩,W0.heap.size,0,1,rfl,Nat.le_refl _,by decide,fun _=>rfl,fun x hx=>by
   rw [List.mem_singleton] at hx;rw [hx];exact HN1.o,fun k hk=>by
   obtain rfl:k=0:=by simpa using hk
   ·refine ⟨?_,?_⟩
    ·have:=HB_R.o.cell 0;rw [HH1.o] at this;exact this
    ·have:=HB_R.o.cell 1;rw [HL1.o] at this;exact this⟩
 refine (CW.o _ _ HWS.o).mono ?_;rintro e w2 ⟨rfl,g2⟩;clear CW HWS HB_R;go_wp2_with fail;refine (CL1.o _).mono ?_;rintro e w3 ⟨v3,rfl,o1,g3⟩;have hb3:=g2.trans g3;obtain ⟨s1,a1,m1,c1,a1',m1',c1',rfl⟩:=o1.shape;go_wp2_with fail;refine (rnan_c k1 ng1 s1 a1 m1 c1 a1' m1' c1' _).mono ?_;rintro e w4 ⟨rfl,g4⟩;have hb4:=hb3.trans g4;rw [←HTN.o];clear o1;obtain ⟨U5,U6⟩:=((HB_Z.o.ext g1).ext hb4).f2;go_wp2_with fail;clear U5 U6;obtain ⟨W5,hW5,g5,q5,B5,hy5,ho5⟩:=rsto2 (he1.trans hb4) (by omega) ((HB_Z.o.ext g1).ext hb4) (by decide) (.int .u64 0) (.int .u64 0);rw [←hW5];clear hW5;replace HB_Z:=hid B5;obtain ⟨J7,J8⟩:=HB_Z.o.c2;refine bodyPost_ret (v:=.tuple #[.agg #[.int .u64 0,.int .u64 0],.int .i64 4]) (by simp [results,Tryz.results22,go_sem,J7,J8]) rfl ⟨rfl,g5⟩
theorem rnextw_bad_false (E P z:Int) (n1:Nat) (w:World) (hz:z≠0) (b1:W128 n1) (CW:Hid (∀ w v,WSl w v [n1]→Calls Tryz.prog 78 #[.agg #[.int .i64 E,.int .i64 P],.int .i64 0,v] w fun e w'=>e=.returned (.int .i64 z)∧Ext w w')) :
  Calls Tryz.prog 22 #[.agg #[.int .i64 E,.int .i64 P],Word n1,.bool false] w fun e w'=>e=.returned (.tuple #[.agg #[.int .u64 0,.int .u64 0],.int .i64 z])∧Ext w w':=by
 have hzb:(z != 0)=true:=bne_iff_ne.2 hz;have hzc:(z==0)=false:=beq_eq_false_iff_ne.2 hz;have HN1:=hid b1;clear hz b1;obtain ⟨h1,hh1⟩:∃ h,h=n1/18446744073709551616:=⟨_,rfl⟩;obtain ⟨l1,hl1⟩:∃ l,l=n1%18446744073709551616:=⟨_,rfl⟩;have ew1:Word n1=.agg #[.int .u64 (h1:Nat),.int .u64 (l1:Nat)]:=by unfold Word;rw [hh1,hl1]
 rw [ew1];have HH1:=hid hh1;have HL1:=hid hl1;have EW1:=hid ew1;clear hh1 hl1 ew1;obtain ⟨W0,hW0,g0,hz0,B_F,B_A,B_Z⟩:=pro3s w #[.int .i64 E,.int .i64 P] #[.int .u64 (h1:Nat),.int .u64 (l1:Nat)] #[.int .u64 0,.int .u64 0] 23 29 29;have HE:=hid g0;have HB_F:=hid B_F;have HB_A:=hid B_A;have HB_Z:=hid B_Z;have ac:=cland HB_F.o.a2 (cland HB_A.o.a2 (HB_Z.o.a2));have hr0:Ext W0 W0:=Below.refl _ _;clear g0 B_F B_A B_Z 
 go_enter Tryz.func22,Tryz.ntmps22
 go_upto_region 1 with (fail)
 rw [←hW0];clear hW0;go_wp2_with fail;obtain ⟨W1,hW1,g1,hy1,B_R⟩:=pro1 W0 #[.int .u64 (h1:Nat),.int .u64 (l1:Nat)] 29;rw [←hW1];clear hW1;have HB_R:=hid B_R;clear B_R;have he1:=(HE.o.trans g1);replace ac:=g1.cl ac;have hr2:Ext W1 W1:=Below.refl _ _;replace ac:=cland ac HB_R.o.a2;have HWS:Hid (WSl W1 (.slice (some ⟨W0.heap.size,0,none⟩) 1 1) [n1]):=hid ⟨some ⟨W0.heap.size,0,none⟩,W0.heap.size,0,1,rfl,Nat.le_refl _,by decide,fun _=>rfl,fun x hx=>by
   rw [List.mem_singleton] at hx;rw [hx];exact HN1.o,fun k hk=>by
   obtain rfl:k=0:=by simpa using hk
   ·refine ⟨?_,?_⟩
    ·have:=HB_R.o.cell 0;rw [HH1.o] at this;exact this
    ·have:=HB_R.o.cell 1;rw [HL1.o] at this;exact this⟩
 refine (CW.o _ _ HWS.o).mono ?_;rintro e w2 ⟨rfl,g2⟩;obtain ⟨U3,U4⟩:=((HB_Z.o.ext g1).ext g2).f2;go_wp2_with fail;clear U3 U4;obtain ⟨W3,hW3,g3,q3,B3,hy3,ho3⟩:=rsto2 (he1.trans g2) (by omega) ((HB_Z.o.ext g1).ext g2) (by decide) (.int .u64 0) (.int .u64 0);rw [←hW3];clear hW3;replace HB_Z:=hid B3;obtain ⟨J5,J6⟩:=HB_Z.o.c2;refine bodyPost_ret (v:=.tuple #[.agg #[.int .u64 0,.int .u64 0],.int .i64 z]) (by simp [results,Tryz.results22,go_sem,J5,J6]) rfl ⟨rfl,g3⟩
theorem rnextw_nan_false (E P n1 k1:Nat) (ng1:Bool) (q1:Rat) (w:World) (hF:Fmt E P) (hn1:n1<2^(E+P)) (hk1:wkind E P n1=k1) (hng1:wn E P n1=ng1) (hq1:wvalK E P (bias E) n1=q1) (hk1b:k1≤5) (hk:4≤k1) :
  Calls Tryz.prog 22 #[.agg #[.int .i64 (E:Nat),.int .i64 (P:Nat)],Word n1,.bool false] w fun e w'=>e=.returned (.tuple #[.agg #[.int .u64 0,.int .u64 0],.int .i64 4])∧Ext w w':=by
 have h124:=fmt_pow hF;have HN1:Hid (W128 n1):=hid (show n1<_ by omega);have HLT:=hid hn1;clear h124;obtain ⟨h1,hh1⟩:∃ h,h=n1/18446744073709551616:=⟨_,rfl⟩;obtain ⟨l1,hl1⟩:∃ l,l=n1%18446744073709551616:=⟨_,rfl⟩;have ew1:Word n1=.agg #[.int .u64 (h1:Nat),.int .u64 (l1:Nat)]:=by unfold Word;rw [hh1,hl1]
 rw [ew1];have HH1:=hid hh1;have HL1:=hid hl1;have EW1:=hid ew1;clear hh1 hl1 ew1;have CL1:Hid (∀ w,Calls Tryz.prog 79 #[.agg #[.int .i64 (E:Nat),.int .i64 (P:Nat)],.agg #[.int .u64 (h1:Nat),.int .u64 (l1:Nat)]] w fun e w'=>∃ v,e=.returned v∧ROpV w' v (k1:Nat) ng1 q1∧Ext w w'):=hid fun w=>by
  rw [←EW1.o];exact rlook_k E P n1 k1 ng1 q1 w hF hn1 hk1 hng1 hq1
 have HF:=hid hF;have CW:Hid (∀ w v,WSl w v [n1]→Calls Tryz.prog 78 #[.agg #[.int .i64 (E:Nat),.int .i64 (P:Nat)],.int .i64 0,v] w fun e w'=>e=.returned (.int .i64 0)∧Ext w w'):=hid fun w v h=>by
  have h2:=rwords_good E P 0 v [n1] w hF (by decide) h;have e:wordsR (2^(E+P)) [n1]=0:=by unfold wordsR;rw [if_pos];simp [hn1]
  rwa [e] at h2
 have HNG:Hid (ng1=true↔2^(E+P-1)≤n1):=hid (by rw [←hng1];exact wn_iff);obtain ⟨tn,htn⟩:∃ t,t=decide (4≤k1∧k1≤5):=⟨_,rfl⟩;have HTN:Hid (tn=decide (4≤k1∧k1≤5)):=hid htn;obtain rfl:tn=true:=by rw [htn];exact decide_eq_true ⟨hk,hk1b⟩
 clear hF hn1 hk1 hng1 hq1 hk1b htn hk;obtain ⟨W0,hW0,g0,hz0,B_F,B_A,B_Z⟩:=pro3s w #[.int .i64 (E:Nat),.int .i64 (P:Nat)] #[.int .u64 (h1:Nat),.int .u64 (l1:Nat)] #[.int .u64 0,.int .u64 0] 23 29 29;have HE:=hid g0;have HB_F:=hid B_F;have HB_A:=hid B_A;have HB_Z:=hid B_Z;have ac:=cland HB_F.o.a2 (cland HB_A.o.a2 (HB_Z.o.a2));have hr0:Ext W0 W0:=Below.refl _ _;clear g0 B_F B_A B_Z 
 go_enter Tryz.func22,Tryz.ntmps22
 go_upto_region 1 with (fail)
 rw [←hW0];clear hW0;go_wp2_with fail;obtain ⟨W1,hW1,g1,hy1,B_R⟩:=pro1 W0 #[.int .u64 (h1:Nat),.int .u64 (l1:Nat)] 29;rw [←hW1];clear hW1;have HB_R:=hid B_R;clear B_R;have he1:=(HE.o.trans g1);replace ac:=g1.cl ac;have hr2:Ext W1 W1:=Below.refl _ _;replace ac:=cland ac HB_R.o.a2;have HWS:Hid (WSl W1 (.slice (some ⟨W0.heap.size,0,none⟩) 1 1) [n1]):=hid ⟨some ⟨W0.heap.size,0,none⟩,W0.heap.size,0,1,rfl,Nat.le_refl _,by decide,fun _=>rfl,fun x hx=>by
   rw [List.mem_singleton] at hx;rw [hx];exact HN1.o,fun k hk=>by
   obtain rfl:k=0:=by simpa using hk
   ·refine ⟨?_,?_⟩
    ·have:=HB_R.o.cell 0;rw [HH1.o] at this;exact this
    ·have:=HB_R.o.cell 1;rw [HL1.o] at this;exact this⟩
 refine (CW.o _ _ HWS.o).mono ?_;rintro e w2 ⟨rfl,g2⟩;clear CW HWS HB_R;go_wp2_with fail;refine (CL1.o _).mono ?_;rintro e w3 ⟨v3,rfl,o1,g3⟩;have hb3:=g2.trans g3;obtain ⟨s1,a1,m1,c1,a1',m1',c1',rfl⟩:=o1.shape;go_wp2_with fail;refine (rnan_c k1 ng1 s1 a1 m1 c1 a1' m1' c1' _).mono ?_;rintro e w4 ⟨rfl,g4⟩;have hb4:=hb3.trans g4;rw [←HTN.o];clear o1;obtain ⟨U5,U6⟩:=((HB_Z.o.ext g1).ext hb4).f2;go_wp2_with fail;clear U5 U6;obtain ⟨W5,hW5,g5,q5,B5,hy5,ho5⟩:=rsto2 (he1.trans hb4) (by omega) ((HB_Z.o.ext g1).ext hb4) (by decide) (.int .u64 0) (.int .u64 0);rw [←hW5];clear hW5;replace HB_Z:=hid B5;obtain ⟨J7,J8⟩:=HB_Z.o.c2;refine bodyPost_ret (v:=.tuple #[.agg #[.int .u64 0,.int .u64 0],.int .i64 4]) (by simp [results,Tryz.results22,go_sem,J7,J8]) rfl ⟨rfl,g5⟩
theorem rnextw_up (E P n1 k1:Nat) (ng1:Bool) (q1:Rat) (w:World) (hF:Fmt E P) (hn1:n1<2^(E+P)) (hk1:wkind E P n1=k1) (hng1:wn E P n1=ng1) (hq1:wvalK E P (bias E) n1=q1) (hk1b:k1≤5) (hk:k1≤3) :
  Calls Tryz.prog 22 #[.agg #[.int .i64 (E:Nat),.int .i64 (P:Nat)],Word n1,.bool true] w fun e w'=>e=.returned (.tuple #[Word (rnextU n1 k1 ng1),.int .i64 0])∧Ext w w':=by
 have h124:=fmt_pow hF;have HN1:Hid (W128 n1):=hid (show n1<_ by omega);have HLT:=hid hn1;clear h124;obtain ⟨h1,hh1⟩:∃ h,h=n1/18446744073709551616:=⟨_,rfl⟩;obtain ⟨l1,hl1⟩:∃ l,l=n1%18446744073709551616:=⟨_,rfl⟩;have ew1:Word n1=.agg #[.int .u64 (h1:Nat),.int .u64 (l1:Nat)]:=by unfold Word;rw [hh1,hl1]
 rw [ew1];have HH1:=hid hh1;have HL1:=hid hl1;have EW1:=hid ew1;clear hh1 hl1 ew1;have CL1:Hid (∀ w,Calls Tryz.prog 79 #[.agg #[.int .i64 (E:Nat),.int .i64 (P:Nat)],.agg #[.int .u64 (h1:Nat),.int .u64 (l1:Nat)]] w fun e w'=>∃ v,e=.returned v∧ROpV w' v (k1:Nat) ng1 q1∧Ext w w'):=hid fun w=>by
  rw [←EW1.o];exact rlook_k E P n1 k1 ng1 q1 w hF hn1 hk1 hng1 hq1
 have HF:=hid hF;have CW:Hid (∀ w v,WSl w v [n1]→Calls Tryz.prog 78 #[.agg #[.int .i64 (E:Nat),.int .i64 (P:Nat)],.int .i64 0,v] w fun e w'=>e=.returned (.int .i64 0)∧Ext w w'):=hid fun w v h=>by
  have h2:=rwords_good E P 0 v [n1] w hF (by decide) h;have e:wordsR (2^(E+P)) [n1]=0:=by unfold wordsR;rw [if_pos];simp [hn1]
  rwa [e] at h2
 have HNG:Hid (ng1=true↔2^(E+P-1)≤n1):=hid (by rw [←hng1];exact wn_iff);obtain ⟨tn,htn⟩:∃ t,t=decide (4≤k1∧k1≤5):=⟨_,rfl⟩;have HTN:Hid (tn=decide (4≤k1∧k1≤5)):=hid htn;obtain rfl:tn=false:=by rw [htn];exact decide_eq_false (by omega)
 have HFW:=hid (fmt_pow hF);clear hF hn1 hk1 hng1 hq1 hk1b htn hk;obtain ⟨W0,hW0,g0,hz0,B_F,B_A,B_Z⟩:=pro3s w #[.int .i64 (E:Nat),.int .i64 (P:Nat)] #[.int .u64 (h1:Nat),.int .u64 (l1:Nat)] #[.int .u64 0,.int .u64 0] 23 29 29;have HE:=hid g0;have HB_F:=hid B_F;have HB_A:=hid B_A;have HB_Z:=hid B_Z;have ac:=cland HB_F.o.a2 (cland HB_A.o.a2 (HB_Z.o.a2));have hr0:Ext W0 W0:=Below.refl _ _;clear g0 B_F B_A B_Z 
 go_enter Tryz.func22,Tryz.ntmps22
 go_upto_region 1 with (fail)
 rw [←hW0];clear hW0;go_wp2_with fail;obtain ⟨W1,hW1,g1,hy1,B_R⟩:=pro1 W0 #[.int .u64 (h1:Nat),.int .u64 (l1:Nat)] 29;rw [←hW1];clear hW1;have HB_R:=hid B_R;clear B_R;have he1:=(HE.o.trans g1);replace ac:=g1.cl ac;have hr2:Ext W1 W1:=Below.refl _ _;replace ac:=cland ac HB_R.o.a2;have HWS:Hid (WSl W1 (.slice (some ⟨W0.heap.size,0,none⟩) 1 1) [n1]):=hid ⟨some ⟨W0.heap.size,0,none⟩,W0.heap.size,0,1,rfl,Nat.le_refl _,by decide,fun _=>rfl,fun x hx=>by
   rw [List.mem_singleton] at hx;rw [hx];exact HN1.o,fun k hk=>by
   obtain rfl:k=0:=by simpa using hk
   ·refine ⟨?_,?_⟩
    ·have:=HB_R.o.cell 0;rw [HH1.o] at this;exact this
    ·have:=HB_R.o.cell 1;rw [HL1.o] at this;exact this⟩
 refine (CW.o _ _ HWS.o).mono ?_;rintro e w2 ⟨rfl,g2⟩;clear CW HWS HB_R;go_wp2_with fail;refine (CL1.o _).mono ?_;rintro e w3 ⟨v3,rfl,o1,g3⟩;have hb3:=g2.trans g3;obtain ⟨s1,a1,m1,c1,a1',m1',c1',rfl⟩:=o1.shape;go_wp2_with fail;refine (rnan_c k1 ng1 s1 a1 m1 c1 a1' m1' c1' _).mono ?_;rintro e w4 ⟨rfl,g4⟩;have hb4:=hb3.trans g4;rw [←HTN.o];clear o1;go_wp2_with fail;refine (CL1.o _).mono ?_;rintro e w5 ⟨v5,rfl,o1,g5⟩;have hb5:=hb4.trans g5;obtain ⟨s2,a2,m2,c2,a2',m2',c2',rfl⟩:=o1.shape;have gA:=hb5.trans (Ext.alloc w5 (.cells #[.int .i64 (k1:Nat),.bool ng1,.int .i64 s2,.slice a2 m2 c2,.slice a2' m2' c2'] 122));go_wp2_with fail;clear gA;have hs6:=(g2.trans (g3.trans (g4.trans g5))).size;obtain ⟨W6,hW6,g6,hy6,B_O⟩:=pro1 w5 #[.int .i64 (k1:Nat),.bool ng1,.int .i64 s2,.slice a2 m2 c2,.slice a2' m2' c2'] 122;rw [←hW6];clear hW6;have hb7:=hb5.trans g6;have HB_O:=hid B_O;clear B_O;have he8:=(he1.trans hb7);replace ac:=hb7.cl ac;have hr9:Ext W6 W6:=Below.refl _ _;replace ac:=cland ac HB_O.o.a5;refine (rint_i 1 1 _ rfl (by decide)).mono ?_;rintro e w7 ⟨v7,rfl,ko,g7⟩;obtain ⟨s3,a3,n3,c3,a3',n3',c3',rfl⟩:=ko.shape;have gA:=g7.trans (Ext.alloc w7 (.cells #[.int .i64 s3,.slice a3 n3 c3,.slice a3' n3' c3'] 43))
 go_upto_region 11 with (fail)
 clear gA;have hs10:=g7.size;obtain ⟨W8,hW8,g8,hy8,B_I⟩:=pro1 w7 #[.int .i64 s3,.slice a3 n3 c3,.slice a3' n3' c3'] 43;rw [←hW8];clear hW8;have hb11:=g7.trans g8;have HB_I:=hid B_I;clear B_I;have he12:=(he8.trans hb11);replace ac:=hb11.cl ac;have hr13:Ext W8 W8:=Below.refl _ _;replace ac:=cland ac HB_I.o.a3
 by_cases h1:k1=1
 ·subst h1;have HR:Hid (rnextU n1 1 ng1=1):=hid (by unfold rnextU;rw [if_pos rfl]);have CWD:Hid (∀ w x,RNumV w x ((2:Rat)^(2-(bias E:Int)-P))→Calls Tryz.prog 54 #[.agg #[.int .i64 (E:Nat),.int .i64 (P:Nat)],.bool false,x] w fun e w'=>e=.returned (Word 1)∧Ext w w'):=hid fun w x h=>by
   have h3:=(fmt_bounds HF.o).1.1;have h4:=(fmt_bounds HF.o).2.1.1;have h5:2^2≤2^E:=Nat.pow_le_pow_right (by decide) h3;have h2:=rword_c E P 1 0 false x w HF.o (by rw [wv_least];exact h) (Nat.lt_of_lt_of_le (by decide:1<2^1) (Nat.pow_le_pow_right (by decide) (by omega))) (.inl rfl) (by omega)
   rwa [show codeN E P false 0 1=1 from by unfold codeN;simp] at h2
  go_upto_region 12 with (fail)
  have kc:=(Box.bt (z:=w.heap.size+1+1) (HB_F.o.ext (g1.trans (g2.trans (g3.trans (g4.trans (g5.trans (g6.trans (g7.trans g8)))))))) (by omega) Box.n2);have g9:Ext W8 W8.drew:=Below.drew (Below.refl _ _);refine wp_region_held_drew (S:=But W8 (w.heap.size+1+1)) (by kernel_rfl) (g9.but) (fun hHeld => ?_);generalize W8.drew=wD9 at *
  apply wts 0 50 rfl rfl (by kernel_rfl) (fun _ _ _ h=>h) hHeld
  ·intro w' hSw;go_simp<;>with_reducible rfl
  apply wts 1 51 rfl rfl (by kernel_rfl) (fun _ _ _ h=>h) hHeld
  ·intro w' hSw;go_simp<;>with_reducible rfl
  try simp only [Act.put,pA,pB,pC]
  refine wonc 2 52 87 #[.tmp 51] #[23] 43 (by kernel_rfl) rfl rfl (fun KK hKK => ?_);go_simp;refine (rleast_c E P _ HF.o).mono ?_;rintro e w10 ⟨v10,rfl,kl,g10⟩;have hb14:=g9.trans g10
  try dsimp only
  refine hKK.out _ _ (hb14.but) (fun hHeld => ?_)
  try simp only [Act.put,pA,pB,pC]
  refine wonc 3 53 54 #[.tmp 50,.const (Value.bool false),.tmp 52] #[23,4,43] 29 (by kernel_rfl) rfl rfl (fun KK hKK => ?_);go_simp;refine (CWD.o _ _ kl).mono ?_;rintro e w11 ⟨rfl,g11⟩;have hb15:=hb14.trans g11;obtain ⟨r0,r1,er⟩:=Word.shape (1);have ER:=hid er;clear er;rw [ER.o]
  try dsimp only
  refine hKK.out _ _ (hb15.but) (fun hHeld => ?_)
  try simp only [Act.put,pA,pB,pC]
  refine wons 4 29 6 53 (by kernel_rfl) rfl rfl (fun KK hKK => ?_);obtain ⟨U16,U17⟩:=((HB_Z.o.ext (g1.trans (g2.trans (g3.trans (g4.trans (g5.trans (g6.trans (g7.trans g8)))))))).ext hb15).f2;go_simp;clear U16 U17;obtain ⟨W12,hW12,g12,q12,B12,hy12,ho12⟩:=rsto2 (he12.trans hb15) (by omega) ((HB_Z.o.ext (g1.trans (g2.trans (g3.trans (g4.trans (g5.trans (g6.trans (g7.trans g8)))))))).ext hb15) (by decide) (.int .u64 (r0:Nat)) (.int .u64 (r1:Nat));rw [←hW12];clear hW12;replace HB_Z:=hid B12;have hq12:But W8 (w.heap.size+1+1) W12:=But.sto (hb15.but) ho12
  try dsimp only
  refine hKK.out _ _ (hq12) (fun hHeld => ?_);apply wts 5 7 rfl rfl (by kernel_rfl) (fun _ _ _ h=>h) hHeld
  ·intro w' hSw;go_simp<;>with_reducible rfl
  refine wpAnyH_done (by kernel_rfl) ?_ _;have ac:=cland (ho12 _ _ _ (by omega) (HB_F.o.ext (g1.trans (g2.trans (g3.trans (g4.trans (g5.trans (g6.trans (g7.trans (g8.trans (g9.trans (g10.trans g11)))))))))))).a2 (cland (ho12 _ _ _ (by omega) (HB_A.o.ext (g1.trans (g2.trans (g3.trans (g4.trans (g5.trans (g6.trans (g7.trans (g8.trans (g9.trans (g10.trans g11)))))))))))).a2 (cland HB_Z.o.a2 (cland (ho12 _ _ _ (by omega) (HB_O.o.ext (g7.trans (g8.trans (g9.trans (g10.trans g11)))))).a5 ((ho12 _ _ _ (by omega) (HB_I.o.ext (g9.trans (g10.trans g11)))).a3))));have hr18:Ext W12 W12:=Below.refl _ _;go_wp2_with fail;obtain ⟨J19,J20⟩:=HB_Z.o.c2;refine bodyPost_ret (v:=.tuple #[.agg #[.int .u64 (r0:Nat),.int .u64 (r1:Nat)],.int .i64 0]) (by simp [results,Tryz.results22,go_sem,J19,J20]) rfl ⟨by rw [HR.o,ER.o],g12⟩
 ·have hb1:((k1:Int)==1)=false:=beq_eq_false_iff_ne.2 (by omega)
  by_cases h3:k1=3∧ng1=false
  ·obtain ⟨rfl,rfl⟩:=h3;have HR:Hid (rnextU n1 3 false=n1):=hid (by unfold rnextU;rw [if_neg (by decide),if_pos ⟨rfl,rfl⟩]);clear h1;obtain ⟨U14,U15⟩:=(HB_Z.o.ext (g1.trans (g2.trans (g3.trans (g4.trans (g5.trans (g6.trans (g7.trans g8)))))))).f2;go_wp2_with fail;clear U14 U15;obtain ⟨W9,hW9,g9,q9,B9,hy9,ho9⟩:=rsto2 he12 (by omega) (HB_Z.o.ext (g1.trans (g2.trans (g3.trans (g4.trans (g5.trans (g6.trans (g7.trans g8)))))))) (by decide) (.int .u64 (h1:Nat)) (.int .u64 (l1:Nat));rw [←hW9];clear hW9;replace HB_Z:=hid B9;obtain ⟨J16,J17⟩:=HB_Z.o.c2;refine bodyPost_ret (v:=.tuple #[.agg #[.int .u64 (h1:Nat),.int .u64 (l1:Nat)],.int .i64 0]) (by simp [results,Tryz.results22,go_sem,J16,J17]) rfl ⟨by rw [HR.o,EW1.o],g9⟩
  ·cases ng1
   ·have HR:Hid (rnextU n1 k1 false=n1+1):=hid (by unfold rnextU;rw [if_neg h1,if_neg h3];rfl);have hb3:((k1:Int)==3)=false:=beq_eq_false_iff_ne.2 (fun e=>h3 ⟨by omega,rfl⟩);clear h1 h3;have SN:Hid (SmQ 201 ((n1:Nat):Rat)):=hid (nat_sm (by have:=HLT.o;have:=HFW.o;omega));have CB:Hid (∀ w,Calls Tryz.prog 90 #[.agg #[.int .u64 (h1:Nat),.int .u64 (l1:Nat)]] w fun e w'=>∃ v,e=.returned v∧RNumV w' v ((n1:Nat):Rat)∧Ext w w'):=hid fun w=>by rw [←EW1.o];exact rbits_c n1 w HN1.o
    have S1:Hid (SmQ 201 ((1:Nat):Rat)):=hid (nat_sm (K:=200) (n:=1) (by decide));have CO:Hid (∀ w u v,RNumV w u ((n1:Nat):Rat)→RNumV w v ((1:Nat):Rat)→Calls Tryz.prog 61 #[u,v] w fun e w'=>∃ z,e=.returned z∧RNumV w' z ((n1+1:Nat):Rat)∧Ext w w'):=hid fun w u v h k=>by
     have h2:=raddq_c u v _ _ 201 w h k SN.o S1.o (by decide);rw [nat_add] at h2;exact h2
    go_upto_region 17 with (fail)
    have kc:=cland (Box.bt (z:=w.heap.size+1+1) (HB_A.o.ext (g1.trans (g2.trans (g3.trans (g4.trans (g5.trans (g6.trans (g7.trans g8)))))))) (by omega) Box.n2) ((Box.bt (z:=w.heap.size+1+1) HB_I.o (by omega) Box.n3));have g9:Ext W8 W8.drew:=Below.drew (Below.refl _ _);refine wp_region_held_drew (S:=But W8 (w.heap.size+1+1)) (by kernel_rfl) (g9.but) (fun hHeld => ?_);generalize W8.drew=wD9 at *
    apply wts 0 72 rfl rfl (by kernel_rfl) (fun _ _ _ h=>h) hHeld
    ·intro w' hSw;go_simp<;>with_reducible rfl
    apply wts 2 74 rfl rfl (by kernel_rfl) (fun _ _ _ h=>h) hHeld
    ·intro w' hSw;go_simp<;>with_reducible rfl
    try simp only [Act.put,pA,pB,pC]
    refine wonc 1 73 90 #[.tmp 72] #[29] 43 (by kernel_rfl) rfl rfl (fun KK hKK => ?_);go_simp;refine (CB.o _).mono ?_;rintro e w10 ⟨v10,rfl,kb,g10⟩;have hb14:=g9.trans g10
    try dsimp only
    refine hKK.out _ _ (hb14.but) (fun hHeld => ?_)
    try simp only [Act.put,pA,pB,pC]
    refine wonc 3 75 61 #[.tmp 73,.tmp 74] #[43,43] 43 (by kernel_rfl) rfl rfl (fun KK hKK => ?_);go_simp;refine (CO.o _ _ _ kb ((ko.ext g8).ext hb14)).mono ?_;rintro e w11 ⟨v11,rfl,kc,g11⟩;have hb15:=hb14.trans g11
    try dsimp only
    refine hKK.out _ _ (hb15.but) (fun hHeld => ?_)
    try simp only [Act.put,pA,pB,pC]
    refine wonc 4 76 88 #[.tmp 75] #[43] 29 (by kernel_rfl) rfl rfl (fun KK hKK => ?_);go_simp;refine (rpacked_c _ (n1+1) _ kc (by have:=HLT.o;have:=HFW.o;omega)).mono ?_;rintro e w12 ⟨rfl,g12⟩;have hb16:=hb15.trans g12;obtain ⟨r0,r1,er⟩:=Word.shape (n1+1);have ER:=hid er;clear er;rw [ER.o]
    try dsimp only
    refine hKK.out _ _ (hb16.but) (fun hHeld => ?_)
    try simp only [Act.put,pA,pB,pC]
    refine wons 5 29 6 76 (by kernel_rfl) rfl rfl (fun KK hKK => ?_);obtain ⟨U17,U18⟩:=((HB_Z.o.ext (g1.trans (g2.trans (g3.trans (g4.trans (g5.trans (g6.trans (g7.trans g8)))))))).ext hb16).f2;go_simp;clear U17 U18;obtain ⟨W13,hW13,g13,q13,B13,hy13,ho13⟩:=rsto2 (he12.trans hb16) (by omega) ((HB_Z.o.ext (g1.trans (g2.trans (g3.trans (g4.trans (g5.trans (g6.trans (g7.trans g8)))))))).ext hb16) (by decide) (.int .u64 (r0:Nat)) (.int .u64 (r1:Nat));rw [←hW13];clear hW13;replace HB_Z:=hid B13;have hq13:But W8 (w.heap.size+1+1) W13:=But.sto (hb16.but) ho13
    try dsimp only
    refine hKK.out _ _ (hq13) (fun hHeld => ?_);apply wts 6 7 rfl rfl (by kernel_rfl) (fun _ _ _ h=>h) hHeld
    ·intro w' hSw;go_simp<;>with_reducible rfl
    refine wpAnyH_done (by kernel_rfl) ?_ _;have ac:=cland (ho13 _ _ _ (by omega) (HB_F.o.ext (g1.trans (g2.trans (g3.trans (g4.trans (g5.trans (g6.trans (g7.trans (g8.trans (g9.trans (g10.trans (g11.trans g12))))))))))))).a2 (cland (ho13 _ _ _ (by omega) (HB_A.o.ext (g1.trans (g2.trans (g3.trans (g4.trans (g5.trans (g6.trans (g7.trans (g8.trans (g9.trans (g10.trans (g11.trans g12))))))))))))).a2 (cland HB_Z.o.a2 (cland (ho13 _ _ _ (by omega) (HB_O.o.ext (g7.trans (g8.trans (g9.trans (g10.trans (g11.trans g12))))))).a5 ((ho13 _ _ _ (by omega) (HB_I.o.ext (g9.trans (g10.trans (g11.trans g12))))).a3))));have hr19:Ext W13 W13:=Below.refl _ _;go_wp2_with fail;obtain ⟨J20,J21⟩:=HB_Z.o.c2;refine bodyPost_ret (v:=.tuple #[.agg #[.int .u64 (r0:Nat),.int .u64 (r1:Nat)],.int .i64 0]) (by simp [results,Tryz.results22,go_sem,J20,J21]) rfl ⟨by rw [HR.o,ER.o],g13⟩
   ·have HR:Hid (rnextU n1 k1 true=n1-1):=hid (by unfold rnextU;rw [if_neg h1,if_neg h3];rfl);have HN0:Hid (1≤n1):=hid (Nat.le_trans (Nat.pow_pos (by decide)) (HNG.o.1 rfl));obtain ⟨t3,ht3⟩:∃ t,t=((k1:Int)==3):=⟨_,rfl⟩;have hb3:=ht3.symm;clear ht3 h1 h3;have SN:Hid (SmQ 201 ((n1:Nat):Rat)):=hid (nat_sm (by have:=HLT.o;have:=HFW.o;omega));have CB:Hid (∀ w,Calls Tryz.prog 90 #[.agg #[.int .u64 (h1:Nat),.int .u64 (l1:Nat)]] w fun e w'=>∃ v,e=.returned v∧RNumV w' v ((n1:Nat):Rat)∧Ext w w'):=hid fun w=>by rw [←EW1.o];exact rbits_c n1 w HN1.o
    have S1:Hid (SmQ 201 ((1:Nat):Rat)):=hid (nat_sm (K:=200) (n:=1) (by decide));have CO:Hid (∀ w u v,RNumV w u ((n1:Nat):Rat)→RNumV w v ((1:Nat):Rat)→Calls Tryz.prog 89 #[u,v] w fun e w'=>∃ z,e=.returned z∧RNumV w' z ((n1-1:Nat):Rat)∧Ext w w'):=hid fun w u v h k=>by
     have h2:=rsubq_c u v _ _ 201 w h k SN.o S1.o (by decide);rw [nat_sub HN0.o] at h2;exact h2
    cases t3
    ·go_upto_region 16 with (fail)
     have kc:=cland (Box.bt (z:=w.heap.size+1+1) (HB_A.o.ext (g1.trans (g2.trans (g3.trans (g4.trans (g5.trans (g6.trans (g7.trans g8)))))))) (by omega) Box.n2) ((Box.bt (z:=w.heap.size+1+1) HB_I.o (by omega) Box.n3));have g9:Ext W8 W8.drew:=Below.drew (Below.refl _ _);refine wp_region_held_drew (S:=But W8 (w.heap.size+1+1)) (by kernel_rfl) (g9.but) (fun hHeld => ?_);generalize W8.drew=wD9 at *
     apply wts 0 67 rfl rfl (by kernel_rfl) (fun _ _ _ h=>h) hHeld
     ·intro w' hSw;go_simp<;>with_reducible rfl
     apply wts 2 69 rfl rfl (by kernel_rfl) (fun _ _ _ h=>h) hHeld
     ·intro w' hSw;go_simp<;>with_reducible rfl
     try simp only [Act.put,pA,pB,pC]
     refine wonc 1 68 90 #[.tmp 67] #[29] 43 (by kernel_rfl) rfl rfl (fun KK hKK => ?_);go_simp;refine (CB.o _).mono ?_;rintro e w10 ⟨v10,rfl,kb,g10⟩;have hb14:=g9.trans g10
     try dsimp only
     refine hKK.out _ _ (hb14.but) (fun hHeld => ?_)
     try simp only [Act.put,pA,pB,pC]
     refine wonc 3 70 89 #[.tmp 68,.tmp 69] #[43,43] 43 (by kernel_rfl) rfl rfl (fun KK hKK => ?_);go_simp;refine (CO.o _ _ _ kb ((ko.ext g8).ext hb14)).mono ?_;rintro e w11 ⟨v11,rfl,kc,g11⟩;have hb15:=hb14.trans g11
     try dsimp only
     refine hKK.out _ _ (hb15.but) (fun hHeld => ?_)
     try simp only [Act.put,pA,pB,pC]
     refine wonc 4 71 88 #[.tmp 70] #[43] 29 (by kernel_rfl) rfl rfl (fun KK hKK => ?_);go_simp;refine (rpacked_c _ (n1-1) _ kc (by have:=HLT.o;have:=HFW.o;omega)).mono ?_;rintro e w12 ⟨rfl,g12⟩;have hb16:=hb15.trans g12;obtain ⟨r0,r1,er⟩:=Word.shape (n1-1);have ER:=hid er;clear er;rw [ER.o]
     try dsimp only
     refine hKK.out _ _ (hb16.but) (fun hHeld => ?_)
     try simp only [Act.put,pA,pB,pC]
     refine wons 5 29 6 71 (by kernel_rfl) rfl rfl (fun KK hKK => ?_);obtain ⟨U17,U18⟩:=((HB_Z.o.ext (g1.trans (g2.trans (g3.trans (g4.trans (g5.trans (g6.trans (g7.trans g8)))))))).ext hb16).f2;go_simp;clear U17 U18;obtain ⟨W13,hW13,g13,q13,B13,hy13,ho13⟩:=rsto2 (he12.trans hb16) (by omega) ((HB_Z.o.ext (g1.trans (g2.trans (g3.trans (g4.trans (g5.trans (g6.trans (g7.trans g8)))))))).ext hb16) (by decide) (.int .u64 (r0:Nat)) (.int .u64 (r1:Nat));rw [←hW13];clear hW13;replace HB_Z:=hid B13;have hq13:But W8 (w.heap.size+1+1) W13:=But.sto (hb16.but) ho13
     try dsimp only
     refine hKK.out _ _ (hq13) (fun hHeld => ?_);apply wts 6 7 rfl rfl (by kernel_rfl) (fun _ _ _ h=>h) hHeld
     ·intro w' hSw;go_simp<;>with_reducible rfl
     refine wpAnyH_done (by kernel_rfl) ?_ _;have ac:=cland (ho13 _ _ _ (by omega) (HB_F.o.ext (g1.trans (g2.trans (g3.trans (g4.trans (g5.trans (g6.trans (g7.trans (g8.trans (g9.trans (g10.trans (g11.trans g12))))))))))))).a2 (cland (ho13 _ _ _ (by omega) (HB_A.o.ext (g1.trans (g2.trans (g3.trans (g4.trans (g5.trans (g6.trans (g7.trans (g8.trans (g9.trans (g10.trans (g11.trans g12))))))))))))).a2 (cland HB_Z.o.a2 (cland (ho13 _ _ _ (by omega) (HB_O.o.ext (g7.trans (g8.trans (g9.trans (g10.trans (g11.trans g12))))))).a5 ((ho13 _ _ _ (by omega) (HB_I.o.ext (g9.trans (g10.trans (g11.trans g12))))).a3))));have hr19:Ext W13 W13:=Below.refl _ _;go_wp2_with fail;obtain ⟨J20,J21⟩:=HB_Z.o.c2;refine bodyPost_ret (v:=.tuple #[.agg #[.int .u64 (r0:Nat),.int .u64 (r1:Nat)],.int .i64 0]) (by simp [results,Tryz.results22,go_sem,J20,J21]) rfl ⟨by rw [HR.o,ER.o],g13⟩
    ·go_upto_region 16 with (fail)
     have kc:=cland (Box.bt (z:=w.heap.size+1+1) (HB_A.o.ext (g1.trans (g2.trans (g3.trans (g4.trans (g5.trans (g6.trans (g7.trans g8)))))))) (by omega) Box.n2) ((Box.bt (z:=w.heap.size+1+1) HB_I.o (by omega) Box.n3));have g9:Ext W8 W8.drew:=Below.drew (Below.refl _ _);refine wp_region_held_drew (S:=But W8 (w.heap.size+1+1)) (by kernel_rfl) (g9.but) (fun hHeld => ?_);generalize W8.drew=wD9 at *
     apply wts 0 67 rfl rfl (by kernel_rfl) (fun _ _ _ h=>h) hHeld
     ·intro w' hSw;go_simp<;>with_reducible rfl
     apply wts 2 69 rfl rfl (by kernel_rfl) (fun _ _ _ h=>h) hHeld
     ·intro w' hSw;go_simp<;>with_reducible rfl
     try simp only [Act.put,pA,pB,pC]
     refine wonc 1 68 90 #[.tmp 67] #[29] 43 (by kernel_rfl) rfl rfl (fun KK hKK => ?_);go_simp;refine (CB.o _).mono ?_;rintro e w10 ⟨v10,rfl,kb,g10⟩;have hb14:=g9.trans g10
     try dsimp only
     refine hKK.out _ _ (hb14.but) (fun hHeld => ?_)
     try simp only [Act.put,pA,pB,pC]
     refine wonc 3 70 89 #[.tmp 68,.tmp 69] #[43,43] 43 (by kernel_rfl) rfl rfl (fun KK hKK => ?_);go_simp;refine (CO.o _ _ _ kb ((ko.ext g8).ext hb14)).mono ?_;rintro e w11 ⟨v11,rfl,kc,g11⟩;have hb15:=hb14.trans g11
     try dsimp only
     refine hKK.out _ _ (hb15.but) (fun hHeld => ?_)
     try simp only [Act.put,pA,pB,pC]
     refine wonc 4 71 88 #[.tmp 70] #[43] 29 (by kernel_rfl) rfl rfl (fun KK hKK => ?_);go_simp;refine (rpacked_c _ (n1-1) _ kc (by have:=HLT.o;have:=HFW.o;omega)).mono ?_;rintro e w12 ⟨rfl,g12⟩;have hb16:=hb15.trans g12;obtain ⟨r0,r1,er⟩:=Word.shape (n1-1);have ER:=hid er;clear er;rw [ER.o]
     try dsimp only
     refine hKK.out _ _ (hb16.but) (fun hHeld => ?_)
     try simp only [Act.put,pA,pB,pC]
     refine wons 5 29 6 71 (by kernel_rfl) rfl rfl (fun KK hKK => ?_);obtain ⟨U17,U18⟩:=((HB_Z.o.ext (g1.trans (g2.trans (g3.trans (g4.trans (g5.trans (g6.trans (g7.trans g8)))))))).ext hb16).f2;go_simp;clear U17 U18;obtain ⟨W13,hW13,g13,q13,B13,hy13,ho13⟩:=rsto2 (he12.trans hb16) (by omega) ((HB_Z.o.ext (g1.trans (g2.trans (g3.trans (g4.trans (g5.trans (g6.trans (g7.trans g8)))))))).ext hb16) (by decide) (.int .u64 (r0:Nat)) (.int .u64 (r1:Nat));rw [←hW13];clear hW13;replace HB_Z:=hid B13;have hq13:But W8 (w.heap.size+1+1) W13:=But.sto (hb16.but) ho13
     try dsimp only
     refine hKK.out _ _ (hq13) (fun hHeld => ?_);apply wts 6 7 rfl rfl (by kernel_rfl) (fun _ _ _ h=>h) hHeld
     ·intro w' hSw;go_simp<;>with_reducible rfl
     refine wpAnyH_done (by kernel_rfl) ?_ _;have ac:=cland (ho13 _ _ _ (by omega) (HB_F.o.ext (g1.trans (g2.trans (g3.trans (g4.trans (g5.trans (g6.trans (g7.trans (g8.trans (g9.trans (g10.trans (g11.trans g12))))))))))))).a2 (cland (ho13 _ _ _ (by omega) (HB_A.o.ext (g1.trans (g2.trans (g3.trans (g4.trans (g5.trans (g6.trans (g7.trans (g8.trans (g9.trans (g10.trans (g11.trans g12))))))))))))).a2 (cland HB_Z.o.a2 (cland (ho13 _ _ _ (by omega) (HB_O.o.ext (g7.trans (g8.trans (g9.trans (g10.trans (g11.trans g12))))))).a5 ((ho13 _ _ _ (by omega) (HB_I.o.ext (g9.trans (g10.trans (g11.trans g12))))).a3))));have hr19:Ext W13 W13:=Below.refl _ _;go_wp2_with fail;obtain ⟨J20,J21⟩:=HB_Z.o.c2;refine bodyPost_ret (v:=.tuple #[.agg #[.int .u64 (r0:Nat),.int .u64 (r1:Nat)],.int .i64 0]) (by simp [results,Tryz.results22,go_sem,J20,J21]) rfl ⟨by rw [HR.o,ER.o],g13⟩
theorem rnextU_lt {E P n k:Nat} {ng:Bool} (hF:Fmt E P) (hn:n<2^(E+P)) (hng:wn E P n=ng):rnextU n k ng<2^(E+P):=by
 have h1:=pow_twice (E:=E) (P:=P) (by have:=(fmt_bounds hF).1.1;omega);have h2:2^1≤2^(E+P-1):=Nat.pow_le_pow_right (by decide) (by have:=(fmt_bounds hF).1.1;have:=(fmt_bounds hF).2.1.1;omega);have h3:=wn_iff (E:=E) (P:=P) (n:=n);rw [hng] at h3;unfold rnextU
 split
 ·omega
 ·split
  ·exact hn
  ·split
   ·omega
   ·rename_i h4
    have:¬ 2^(E+P-1)≤n:=fun h5=>h4 (h3.2 h5)
    omega
theorem rnextw_down (E P n1 k1:Nat) (ng1:Bool) (q1:Rat) (w:World) (hF:Fmt E P) (hn1:n1<2^(E+P)) (hk1:wkind E P n1=k1) (hng1:wn E P n1=ng1) (hq1:wvalK E P (bias E) n1=q1) (hk1b:k1≤5) (hk:k1≤3) (k2:Nat) (ng2:Bool) (q2:Rat) (hk2:wkind E P (flipW E P n1)=k2) (hng2:wn E P (flipW E P n1)=ng2) (hq2:wvalK E P (bias E) (flipW E P n1)=q2) (hk2b:k2≤3) :
  Calls Tryz.prog 22 #[.agg #[.int .i64 (E:Nat),.int .i64 (P:Nat)],Word n1,.bool false] w fun e w'=>e=.returned (.tuple #[Word (flipW E P (rnextU (flipW E P n1) k2 ng2)),.int .i64 0])∧Ext w w':=by
 have h124:=fmt_pow hF;have HN1:Hid (W128 n1):=hid (show n1<_ by omega);have HLT:=hid hn1;clear h124;obtain ⟨h1,hh1⟩:∃ h,h=n1/18446744073709551616:=⟨_,rfl⟩;obtain ⟨l1,hl1⟩:∃ l,l=n1%18446744073709551616:=⟨_,rfl⟩;have ew1:Word n1=.agg #[.int .u64 (h1:Nat),.int .u64 (l1:Nat)]:=by unfold Word;rw [hh1,hl1]
 rw [ew1];have HH1:=hid hh1;have HL1:=hid hl1;have EW1:=hid ew1;clear hh1 hl1 ew1;have CL1:Hid (∀ w,Calls Tryz.prog 79 #[.agg #[.int .i64 (E:Nat),.int .i64 (P:Nat)],.agg #[.int .u64 (h1:Nat),.int .u64 (l1:Nat)]] w fun e w'=>∃ v,e=.returned v∧ROpV w' v (k1:Nat) ng1 q1∧Ext w w'):=hid fun w=>by
  rw [←EW1.o];exact rlook_k E P n1 k1 ng1 q1 w hF hn1 hk1 hng1 hq1
 have HF:=hid hF;have CW:Hid (∀ w v,WSl w v [n1]→Calls Tryz.prog 78 #[.agg #[.int .i64 (E:Nat),.int .i64 (P:Nat)],.int .i64 0,v] w fun e w'=>e=.returned (.int .i64 0)∧Ext w w'):=hid fun w v h=>by
  have h2:=rwords_good E P 0 v [n1] w hF (by decide) h;have e:wordsR (2^(E+P)) [n1]=0:=by unfold wordsR;rw [if_pos];simp [hn1]
  rwa [e] at h2
 have HNG:Hid (ng1=true↔2^(E+P-1)≤n1):=hid (by rw [←hng1];exact wn_iff);obtain ⟨tn,htn⟩:∃ t,t=decide (4≤k1∧k1≤5):=⟨_,rfl⟩;have HTN:Hid (tn=decide (4≤k1∧k1≤5)):=hid htn;obtain rfl:tn=false:=by rw [htn];exact decide_eq_false (by omega)
 obtain ⟨f,hf⟩:∃ f,f=flipW E P n1:=⟨_,rfl⟩;have hEP:1≤E+P:=by have:=(fmt_bounds hF).1.1;omega
 have hfl:f<2^(E+P):=by rw [hf];exact flipW_lt hEP hn1
 have CF:Hid (∀ w,Calls Tryz.prog 32 #[.agg #[.int .i64 (E:Nat),.int .i64 (P:Nat)],.agg #[.int .u64 (h1:Nat),.int .u64 (l1:Nat)]] w fun e w'=>e=.returned (Word f)∧Ext w w'):=hid fun w=>by
  rw [←EW1.o,hf];exact rflip_c E P n1 w hF hn1
 obtain ⟨u,hu⟩:∃ u,u=rnextU f k2 ng2:=⟨_,rfl⟩;rw [←hf] at hk2 hng2 hq2 ⊢;have hul:u<2^(E+P):=by rw [hu];exact rnextU_lt hF hfl hng2
 obtain ⟨f0,f1,ef⟩:=Word.shape f;have CN:Hid (∀ w,Calls Tryz.prog 22 #[.agg #[.int .i64 (E:Nat),.int .i64 (P:Nat)],.agg #[.int .u64 (f0:Nat),.int .u64 (f1:Nat)],.bool true] w fun e w'=>e=.returned (.tuple #[Word u,.int .i64 0])∧Ext w w'):=hid fun w=>by
  rw [←ef,hu];exact rnextw_up E P f k2 ng2 q2 w hF hfl hk2 hng2 hq2 (by omega) hk2b
 obtain ⟨u0,u1,eu⟩:=Word.shape u;obtain ⟨r,hr⟩:∃ r,r=flipW E P u:=⟨_,rfl⟩;have CF2:Hid (∀ w,Calls Tryz.prog 32 #[.agg #[.int .i64 (E:Nat),.int .i64 (P:Nat)],.agg #[.int .u64 (u0:Nat),.int .u64 (u1:Nat)]] w fun e w'=>e=.returned (Word r)∧Ext w w'):=hid fun w=>by
  rw [←eu,hr];exact rflip_c E P u w hF hul
 rw [←hu,←hr];rw [ef] at CF;rw [eu] at CN;clear hF hn1 hk1 hng1 hq1 hk1b htn hk hk2 hng2 hq2 hk2b hf hEP hfl hu hul ef eu hr;obtain ⟨W0,hW0,g0,hz0,B_F,B_A,B_Z⟩:=pro3s w #[.int .i64 (E:Nat),.int .i64 (P:Nat)] #[.int .u64 (h1:Nat),.int .u64 (l1:Nat)] #[.int .u64 0,.int .u64 0] 23 29 29;have HE:=hid g0;have HB_F:=hid B_F;have HB_A:=hid B_A;have HB_Z:=hid B_Z;have ac:=cland HB_F.o.a2 (cland HB_A.o.a2 (HB_Z.o.a2));have hr0:Ext W0 W0:=Below.refl _ _;clear g0 B_F B_A B_Z 
 go_enter Tryz.func22,Tryz.ntmps22
 go_upto_region 1 with (fail)
 rw [←hW0];clear hW0;go_wp2_with fail;obtain ⟨W1,hW1,g1,hy1,B_R⟩:=pro1 W0 #[.int .u64 (h1:Nat),.int .u64 (l1:Nat)] 29;rw [←hW1];clear hW1;have HB_R:=hid B_R;clear B_R;have he1:=(HE.o.trans g1);replace ac:=g1.cl ac;have hr2:Ext W1 W1:=Below.refl _ _;replace ac:=cland ac HB_R.o.a2;have HWS:Hid (WSl W1 (.slice (some ⟨W0.heap.size,0,none⟩) 1 1) [n1]):=hid ⟨some ⟨W0.heap.size,0,none⟩,W0.heap.size,0,1,rfl,Nat.le_refl _,by decide,fun _=>rfl,fun x hx=>by
   rw [List.mem_singleton] at hx;rw [hx];exact HN1.o,fun k hk=>by
   obtain rfl:k=0:=by simpa using hk
   ·refine ⟨?_,?_⟩
    ·have:=HB_R.o.cell 0;rw [HH1.o] at this;exact this
    ·have:=HB_R.o.cell 1;rw [HL1.o] at this;exact this⟩
 refine (CW.o _ _ HWS.o).mono ?_;rintro e w2 ⟨rfl,g2⟩;clear CW HWS HB_R;go_wp2_with fail;refine (CL1.o _).mono ?_;rintro e w3 ⟨v3,rfl,o1,g3⟩;have hb3:=g2.trans g3;obtain ⟨s1,a1,m1,c1,a1',m1',c1',rfl⟩:=o1.shape;go_wp2_with fail;refine (rnan_c k1 ng1 s1 a1 m1 c1 a1' m1' c1' _).mono ?_;rintro e w4 ⟨rfl,g4⟩;have hb4:=hb3.trans g4;rw [←HTN.o];clear o1
 go_upto_region 7 with (fail)
 have he5:=(he1.trans hb4);replace ac:=hb4.cl ac;have hr6:Ext w4 w4:=Below.refl _ _
 go_cut [9] (fun p wx=>∃ g:Nat,p=.pointer (some ⟨g,0,none⟩)∧w4.heap.size≤g∧Hid (Ext w4 wx)∧Hid (Box wx g #[.int .u64 (u0:Nat),.int .u64 (u1:Nat)] 29))
 case first =>
  have g5:Ext w4 w4.drew:=Below.drew (Below.refl _ _);refine wp_region_held_drew (S:=Ext w4) (by kernel_rfl) (g5) (fun hHeld => ?_);generalize w4.drew=wD5 at *
  apply wts 0 32 rfl rfl (by kernel_rfl) (fun _ _ _ h=>h) hHeld
  ·intro w' hSw;go_simp<;>with_reducible rfl
  apply wts 1 33 rfl rfl (by kernel_rfl) (fun _ _ _ h=>h) hHeld
  ·intro w' hSw;go_simp<;>with_reducible rfl
  apply wts 2 34 rfl rfl (by kernel_rfl) (fun _ _ _ h=>h) hHeld
  ·intro w' hSw;go_simp<;>with_reducible rfl
  try simp only [Act.put,pA,pB,pC]
  refine wpAnyH_ready (rs:=[3,8]) (by kernel_rfl) (by simp) ?_;refine consb 3 { dst:=some 35,op:=Op.call { callee:=Callee.value (Operand.func 32),args:=#[Operand.tmp 33,Operand.tmp 34],argTypes:=#[23,29] },type:=29,pos := "",after:=#[],guard:=none } rfl rfl (fun KK hKK => ?_) (consb 8 { dst:=some 9,op:=Op.alloc 29,type:=0,pos := "",after:=#[],guard:=none } rfl rfl (fun KK hKK => ?_) (AllReadyH.nil))
  ·go_simp;refine (CF.o _).mono ?_;rintro e w6 ⟨rfl,g6⟩;have hb7:=g5.trans g6
   try dsimp only
   refine hKK.out _ _ (hb7) (fun hHeld => ?_)
   try simp only [Act.put,pA,pB,pC]
   refine wpAnyH_ready (rs:=[4,8]) (by kernel_rfl) (by simp) ?_;refine consb 4 { dst:=some 36,op:=Op.call { callee:=Callee.value (Operand.func 22),args:=#[Operand.tmp 32,Operand.tmp 35,Operand.const (Value.bool true)],argTypes:=#[23,29,4] },type:=31,pos := "",after:=#[],guard:=none } rfl rfl (fun KK hKK => ?_) (consb 8 { dst:=some 9,op:=Op.alloc 29,type:=0,pos := "",after:=#[],guard:=none } rfl rfl (fun KK hKK => ?_) (AllReadyH.nil))
   ·go_simp;refine (CN.o _).mono ?_;rintro e w7 ⟨rfl,g7⟩;have hb8:=hb7.trans g7
    try dsimp only
    refine hKK.out _ _ (hb8) (fun hHeld => ?_);apply wts 5 31 rfl rfl (by kernel_rfl) (fun _ _ _ h=>h) hHeld
    ·intro w' hSw;go_simp<;>with_reducible rfl
    apply wts 6 37 rfl rfl (by kernel_rfl) (fun _ _ _ h=>h) hHeld
    ·intro w' hSw;go_simp<;>with_reducible rfl
    apply wts 7 38 rfl rfl (by kernel_rfl) (fun _ _ _ h=>h) hHeld
    ·intro w' hSw;go_simp<;>with_reducible rfl
    try simp only [Act.put,pA,pB,pC]
    refine won 8 { dst:=some 9,op:=Op.alloc 29,type:=0,pos := "",after:=#[],guard:=none } (by kernel_rfl) rfl rfl (fun KK hKK => ?_);go_simp;have hs9:=(g2.trans (g3.trans (g4.trans (g5.trans (g6.trans g7))))).size;obtain ⟨W8,hW8,g8,hy8,B_N⟩:=pro1 w7 #[.int .u64 0,.int .u64 0] 29;rw [←hW8];clear hW8;have hleN:=hb8.size;have hb10:=hb8.trans g8;have HB_N:=hid B_N;clear B_N;have hzN:=hb10.size
    try dsimp only
    refine hKK.out _ _ (hb10) (fun hHeld => ?_)
    try simp only [Act.put,pA,pB,pC]
    refine wons 9 29 9 37 (by kernel_rfl) rfl rfl (fun KK hKK => ?_);obtain ⟨J13,J14⟩:=HB_N.o.c2;obtain ⟨U11,U12⟩:=HB_N.o.f2;go_simp;clear U11 U12 J13 J14;obtain ⟨W9,hW9,g9,q9,B9,hy9,ho9⟩:=rsto2 hb10 (by omega) HB_N.o (by decide) (.int .u64 (u0:Nat)) (.int .u64 (u1:Nat));rw [←hW9];clear hW9;replace HB_N:=hid B9
    try dsimp only
    refine hKK.out _ _ (g9) (fun hHeld => ?_);apply wts 10 10 rfl rfl (by kernel_rfl) (fun _ _ _ h=>h) hHeld
    ·intro w' hSw;go_simp<;>with_reducible rfl
    refine wpAnyH_done (by kernel_rfl) ?_ _;go_wp2_with fail;go_meet
    exact ⟨_,rfl,hleN,hid g9,hid HB_N.o⟩
   ·go_simp;have hs8:=(g2.trans (g3.trans (g4.trans (g5.trans g6)))).size;obtain ⟨W7,hW7,g7,hy7,B_N⟩:=pro1 w6 #[.int .u64 0,.int .u64 0] 29;rw [←hW7];clear hW7;have hleN:=hb7.size;have hb9:=hb7.trans g7;have HB_N:=hid B_N;clear B_N;have hzN:=hb9.size
    try dsimp only
    refine hKK.out _ _ (hb9) (fun hHeld => ?_)
    try simp only [Act.put,pA,pB,pC]
    refine wonc 4 36 22 #[.tmp 32,.tmp 35,.const (Value.bool true)] #[23,29,4] 31 (by kernel_rfl) rfl rfl (fun KK hKK => ?_);go_simp;refine (CN.o _).mono ?_;rintro e w8 ⟨rfl,g8⟩;have hb10:=hb9.trans g8
    try dsimp only
    refine hKK.out _ _ (hb10) (fun hHeld => ?_);apply wts 5 31 rfl rfl (by kernel_rfl) (fun _ _ _ h=>h) hHeld
    ·intro w' hSw;go_simp<;>with_reducible rfl
    apply wts 6 37 rfl rfl (by kernel_rfl) (fun _ _ _ h=>h) hHeld
    ·intro w' hSw;go_simp<;>with_reducible rfl
    apply wts 7 38 rfl rfl (by kernel_rfl) (fun _ _ _ h=>h) hHeld
    ·intro w' hSw;go_simp<;>with_reducible rfl
    try simp only [Act.put,pA,pB,pC]
    refine wons 9 29 9 37 (by kernel_rfl) rfl rfl (fun KK hKK => ?_);obtain ⟨J13,J14⟩:=(HB_N.o.ext g8).c2;obtain ⟨U11,U12⟩:=(HB_N.o.ext g8).f2;go_simp;clear U11 U12 J13 J14;obtain ⟨W9,hW9,g9,q9,B9,hy9,ho9⟩:=rsto2 hb10 (by omega) (HB_N.o.ext g8) (by decide) (.int .u64 (u0:Nat)) (.int .u64 (u1:Nat));rw [←hW9];clear hW9;replace HB_N:=hid B9
    try dsimp only
    refine hKK.out _ _ (g9) (fun hHeld => ?_);apply wts 10 10 rfl rfl (by kernel_rfl) (fun _ _ _ h=>h) hHeld
    ·intro w' hSw;go_simp<;>with_reducible rfl
    refine wpAnyH_done (by kernel_rfl) ?_ _;go_wp2_with fail;go_meet
    exact ⟨_,rfl,hleN,hid g9,hid HB_N.o⟩
  ·go_simp;have hs7:=(g2.trans (g3.trans (g4.trans g5))).size;obtain ⟨W6,hW6,g6,hy6,B_N⟩:=pro1 wD5 #[.int .u64 0,.int .u64 0] 29;rw [←hW6];clear hW6;have hleN:=g5.size;have hb8:=g5.trans g6;have HB_N:=hid B_N;clear B_N;have hzN:=hb8.size
   try dsimp only
   refine hKK.out _ _ (hb8) (fun hHeld => ?_)
   try simp only [Act.put,pA,pB,pC]
   refine wonc 3 35 32 #[.tmp 33,.tmp 34] #[23,29] 29 (by kernel_rfl) rfl rfl (fun KK hKK => ?_);go_simp;refine (CF.o _).mono ?_;rintro e w7 ⟨rfl,g7⟩;have hb9:=hb8.trans g7
   try dsimp only
   refine hKK.out _ _ (hb9) (fun hHeld => ?_)
   try simp only [Act.put,pA,pB,pC]
   refine wonc 4 36 22 #[.tmp 32,.tmp 35,.const (Value.bool true)] #[23,29,4] 31 (by kernel_rfl) rfl rfl (fun KK hKK => ?_);go_simp;refine (CN.o _).mono ?_;rintro e w8 ⟨rfl,g8⟩;have hb10:=hb9.trans g8
   try dsimp only
   refine hKK.out _ _ (hb10) (fun hHeld => ?_);apply wts 5 31 rfl rfl (by kernel_rfl) (fun _ _ _ h=>h) hHeld
   ·intro w' hSw;go_simp<;>with_reducible rfl
   apply wts 6 37 rfl rfl (by kernel_rfl) (fun _ _ _ h=>h) hHeld
   ·intro w' hSw;go_simp<;>with_reducible rfl
   apply wts 7 38 rfl rfl (by kernel_rfl) (fun _ _ _ h=>h) hHeld
   ·intro w' hSw;go_simp<;>with_reducible rfl
   try simp only [Act.put,pA,pB,pC]
   refine wons 9 29 9 37 (by kernel_rfl) rfl rfl (fun KK hKK => ?_);obtain ⟨J13,J14⟩:=(HB_N.o.ext (g7.trans g8)).c2;obtain ⟨U11,U12⟩:=(HB_N.o.ext (g7.trans g8)).f2;go_simp;clear U11 U12 J13 J14;obtain ⟨W9,hW9,g9,q9,B9,hy9,ho9⟩:=rsto2 hb10 (by omega) (HB_N.o.ext (g7.trans g8)) (by decide) (.int .u64 (u0:Nat)) (.int .u64 (u1:Nat));rw [←hW9];clear hW9;replace HB_N:=hid B9
   try dsimp only
   refine hKK.out _ _ (g9) (fun hHeld => ?_);apply wts 10 10 rfl rfl (by kernel_rfl) (fun _ _ _ h=>h) hHeld
   ·intro w' hSw;go_simp<;>with_reducible rfl
   refine wpAnyH_done (by kernel_rfl) ?_ _;go_wp2_with fail;go_meet
   exact ⟨_,rfl,hleN,hid g9,hid HB_N.o⟩
 case rest =>
  obtain ⟨gN,rfl,hgN,gx,HB_N⟩:=hcut;obtain ⟨wv,rfl⟩:∃ x,x=wc:=⟨_,rfl⟩;have hs16:=(g2.trans (g3.trans g4)).size;have he17:=(he5.trans gx.o);replace ac:=gx.o.cl ac;have hr18:Ext wv wv:=Below.refl _ _;replace ac:=cland ac HB_N.o.a2;go_wp2_with fail;refine (CF2.o _).mono ?_;rintro e w11 ⟨rfl,g11⟩;obtain ⟨r0,r1,er⟩:=Word.shape (r);have ER:=hid er;clear er;rw [ER.o];obtain ⟨U19,U20⟩:=((HB_Z.o.ext (g1.trans (g2.trans (g3.trans (g4.trans gx.o))))).ext g11).f2;go_wp2_with fail;clear U19 U20;obtain ⟨W12,hW12,g12,q12,B12,hy12,ho12⟩:=rsto2 (he17.trans g11) (by omega) ((HB_Z.o.ext (g1.trans (g2.trans (g3.trans (g4.trans gx.o))))).ext g11) (by decide) (.int .u64 (r0:Nat)) (.int .u64 (r1:Nat));rw [←hW12];clear hW12;replace HB_Z:=hid B12;obtain ⟨J21,J22⟩:=HB_Z.o.c2;refine bodyPost_ret (v:=.tuple #[.agg #[.int .u64 (r0:Nat),.int .u64 (r1:Nat)],.int .i64 0]) (by simp [results,Tryz.results22,go_sem,J21,J22]) rfl ⟨by rw [ER.o],g12⟩
theorem OpV.keepR {w w':World} {v:Value} {k:Int} {neg:Bool} {q:Rat} (h:OpV w v k neg q) (e:KeepR w w'):OpV w' v k neg q:=by
 obtain ⟨ng,a,n,c,a',n',c',h1,h2⟩:=h;exact ⟨ng,a,n,c,a',n',c',h1,h2.keep e.1⟩
theorem OpV.shape {w:World} {v:Value} {k:Int} {neg:Bool} {q:Rat} (h:OpV w v k neg q):∃ (ng:Bool) (a:Option Addr) (n c:Nat) (a':Option Addr) (n' c':Nat),v=.agg #[.int .i64 k,.bool neg,.bool ng,.slice a n c,.slice a' n' c']:=by
 obtain ⟨ng,a,n,c,a',n',c',h1,_⟩:=h;exact ⟨ng,a,n,c,a',n',c',h1⟩
theorem osl2 {w:World} {g k1 k2:Nat} {b1 d1 b2 d2:Bool} {x1 y1 x2 y2:Option Addr} {m1 c1 m1' c1' m2 c2 m2' c2':Nat} {t:TypeId}
  (h:Box w g #[.int .i64 (k1:Nat),.bool b1,.bool d1,.slice x1 m1 c1,.slice y1 m1' c1',.int .i64 (k2:Nat),.bool b2,.bool d2,.slice x2 m2 c2,.slice y2 m2' c2'] t) (h1:k1≤5) (h2:k2≤5) :
  OSl w (.slice (some ⟨g,0,none⟩) 2 2) [k1,k2]:=⟨some ⟨g,0,none⟩,g,0,2,rfl,Nat.le_refl _,by decide,fun _=>rfl,fun x hx=>by
  simp at hx;rcases hx with rfl | rfl;exact h1;exact h2,fun k hk=>by
  have hk2:k=0∨k=1:=by simp at hk;omega
  rcases hk2 with rfl | rfl
  ·exact ⟨_,_,_,_,_,_,_,_,h.cell 0,h.cell 1,h.cell 2,h.cell 3,h.cell 4⟩
  ·exact ⟨_,_,_,_,_,_,_,_,h.cell 5,h.cell 6,h.cell 7,h.cell 8,h.cell 9⟩⟩
theorem Cmp_bad (E P z:Int) (n1 n2:Nat) (w:World) (hz:z≠0) (b1:W128 n1) (b2:W128 n2) (CW:Hid (∀ w v,WSl w v [n1,n2]→Calls Tryz.prog 41 #[.agg #[.int .i64 E,.int .i64 P],.int .i64 0,v] w fun e w'=>e=.returned (.tuple #[.agg #[.int .i64 0,.int .i64 0,.int .i64 0,.int .i64 0],.int .i64 z])∧Ext w w')) :
  Calls Tryz.prog 16 #[.agg #[.int .i64 E,.int .i64 P],Word n1,Word n2] w fun e w'=>e=.returned (.tuple #[.int .i64 0,.int .i64 0,.int .i64 z])∧Ext w w':=by
 have hzb:(z != 0)=true:=bne_iff_ne.2 hz;have HN1:=hid b1;have HN2:=hid b2;clear hz b1 b2;obtain ⟨h1,hh1⟩:∃ h,h=n1/18446744073709551616:=⟨_,rfl⟩;obtain ⟨l1,hl1⟩:∃ l,l=n1%18446744073709551616:=⟨_,rfl⟩;have ew1:Word n1=.agg #[.int .u64 (h1:Nat),.int .u64 (l1:Nat)]:=by unfold Word;rw [hh1,hl1]
 rw [ew1];have HH1:=hid hh1;have HL1:=hid hl1;have EW1:=hid ew1;clear hh1 hl1 ew1;obtain ⟨h2,hh2⟩:∃ h,h=n2/18446744073709551616:=⟨_,rfl⟩;obtain ⟨l2,hl2⟩:∃ l,l=n2%18446744073709551616:=⟨_,rfl⟩;have ew2:Word n2=.agg #[.int .u64 (h2:Nat),.int .u64 (l2:Nat)]:=by unfold Word;rw [hh2,hl2]
 rw [ew2];have HH2:=hid hh2;have HL2:=hid hl2;have EW2:=hid ew2;clear hh2 hl2 ew2;obtain ⟨W0,hW0,g0,hz0,B_F,B_A,B_B⟩:=pro3s w #[.int .i64 E,.int .i64 P] #[.int .u64 (h1:Nat),.int .u64 (l1:Nat)] #[.int .u64 (h2:Nat),.int .u64 (l2:Nat)] 23 29 29;have HE:=hid g0;have HB_F:=hid B_F;have HB_A:=hid B_A;have HB_B:=hid B_B;have ac:=cland HB_F.o.a2 (cland HB_A.o.a2 (HB_B.o.a2));have hr0:Ext W0 W0:=Below.refl _ _;clear g0 B_F B_A B_B 
 go_enter Tryz.func16,Tryz.ntmps16
 go_upto_region 1 with (fail)
 rw [←hW0];clear hW0;go_wp2_with fail;obtain ⟨W1,hW1,g1,hy1,B_R⟩:=pro1 W0 #[.int .u64 (h1:Nat),.int .u64 (l1:Nat),.int .u64 (h2:Nat),.int .u64 (l2:Nat)] 29;rw [←hW1];clear hW1;have HB_R:=hid B_R;clear B_R;have he1:=(HE.o.trans g1);replace ac:=g1.cl ac;have hr2:Ext W1 W1:=Below.refl _ _;replace ac:=cland ac HB_R.o.a4;have HWS:Hid (WSl W1 (.slice (some ⟨W0.heap.size,0,none⟩) 2 2) [n1,n2]):=hid ⟨some ⟨W0.heap.size,0,none⟩,W0.heap.size,0,2,rfl,Nat.le_refl _,by decide,fun _=>rfl,fun x hx=>by
   simp at hx;rcases hx with rfl | rfl;exact HN1.o;exact HN2.o,fun k hk=>by
   have hk2:k=0∨k=1:=by simp at hk;omega
   rcases hk2 with rfl | rfl
   ·refine ⟨?_,?_⟩
    ·have:=HB_R.o.cell 0;rw [HH1.o] at this;exact this
    ·have:=HB_R.o.cell 1;rw [HL1.o] at this;exact this
   ·refine ⟨?_,?_⟩
    ·have:=HB_R.o.cell 2;rw [HH2.o] at this;exact this
    ·have:=HB_R.o.cell 3;rw [HL2.o] at this;exact this⟩
 refine (CW.o _ _ HWS.o).mono ?_;rintro e w2 ⟨rfl,g2⟩;go_wp2_with fail;go_ret3
 exact ⟨rfl,(he1.trans g2).trans (Ext.alloc _ _)⟩
theorem Next_bad_true (E P z:Int) (n1:Nat) (w:World) (hz:z≠0) (b1:W128 n1) (CW:Hid (∀ w v,WSl w v [n1]→Calls Tryz.prog 41 #[.agg #[.int .i64 E,.int .i64 P],.int .i64 0,v] w fun e w'=>e=.returned (.tuple #[.agg #[.int .i64 0,.int .i64 0,.int .i64 0,.int .i64 0],.int .i64 z])∧Ext w w')) :
  Calls Tryz.prog 21 #[.agg #[.int .i64 E,.int .i64 P],Word n1,.bool true] w fun e w'=>e=.returned (.tuple #[.agg #[.int .u64 0,.int .u64 0],.int .i64 z])∧Ext w w':=by
 have hzb:(z != 0)=true:=bne_iff_ne.2 hz;have HN1:=hid b1;clear hz b1;obtain ⟨h1,hh1⟩:∃ h,h=n1/18446744073709551616:=⟨_,rfl⟩;obtain ⟨l1,hl1⟩:∃ l,l=n1%18446744073709551616:=⟨_,rfl⟩;have ew1:Word n1=.agg #[.int .u64 (h1:Nat),.int .u64 (l1:Nat)]:=by unfold Word;rw [hh1,hl1]
 rw [ew1];have HH1:=hid hh1;have HL1:=hid hl1;have EW1:=hid ew1;clear hh1 hl1 ew1;obtain ⟨W0,hW0,g0,hz0,B_F,B_A,B_Z⟩:=pro3s w #[.int .i64 E,.int .i64 P] #[.int .u64 (h1:Nat),.int .u64 (l1:Nat)] #[.int .u64 0,.int .u64 0] 23 29 29;have HE:=hid g0;have HB_F:=hid B_F;have HB_A:=hid B_A;have HB_Z:=hid B_Z;have ac:=cland HB_F.o.a2 (cland HB_A.o.a2 (HB_Z.o.a2));have hr0:Ext W0 W0:=Below.refl _ _;clear g0 B_F B_A B_Z 
 go_enter Tryz.func21,Tryz.ntmps21
 go_upto_region 1 with (fail)
 rw [←hW0];clear hW0;go_wp2_with fail;obtain ⟨W1,hW1,g1,hy1,B_R⟩:=pro1 W0 #[.int .u64 (h1:Nat),.int .u64 (l1:Nat)] 29;rw [←hW1];clear hW1;have HB_R:=hid B_R;clear B_R;have he1:=(HE.o.trans g1);replace ac:=g1.cl ac;have hr2:Ext W1 W1:=Below.refl _ _;replace ac:=cland ac HB_R.o.a2;have HWS:Hid (WSl W1 (.slice (some ⟨W0.heap.size,0,none⟩) 1 1) [n1]):=hid ⟨some ⟨W0.heap.size,0,none⟩,W0.heap.size,0,1,rfl,Nat.le_refl _,by decide,fun _=>rfl,fun x hx=>by
   rw [List.mem_singleton] at hx;rw [hx];exact HN1.o,fun k hk=>by
   obtain rfl:k=0:=by simpa using hk
   ·refine ⟨?_,?_⟩
    ·have:=HB_R.o.cell 0;rw [HH1.o] at this;exact this
    ·have:=HB_R.o.cell 1;rw [HL1.o] at this;exact this⟩
 refine (CW.o _ _ HWS.o).mono ?_;rintro e w2 ⟨rfl,g2⟩;have gA:=g2.trans (Ext.alloc w2 (.cells #[.int .i64 0,.int .i64 0,.int .i64 0,.int .i64 0] 81))
 go_upto_region 2 with (fail)
 clear gA;have hs3:=g2.size;obtain ⟨W3,hW3,g3,hy3,B_M⟩:=pro1 w2 #[.int .i64 0,.int .i64 0,.int .i64 0,.int .i64 0] 81;rw [←hW3];clear hW3;have hb4:=g2.trans g3;have HB_M:=hid B_M;clear B_M;have he5:=(he1.trans hb4);replace ac:=hb4.cl ac;have hr6:Ext W3 W3:=Below.refl _ _;replace ac:=cland ac HB_M.o.a4;obtain ⟨U7,U8⟩:=(HB_Z.o.ext (g1.trans (g2.trans g3))).f2;go_wp2_with fail;clear U7 U8;obtain ⟨W4,hW4,g4,q4,B4,hy4,ho4⟩:=rsto2 he5 (by omega) (HB_Z.o.ext (g1.trans (g2.trans g3))) (by decide) (.int .u64 0) (.int .u64 0);rw [←hW4];clear hW4;replace HB_Z:=hid B4;obtain ⟨J9,J10⟩:=HB_Z.o.c2;refine bodyPost_ret (v:=.tuple #[.agg #[.int .u64 0,.int .u64 0],.int .i64 z]) (by simp [results,Tryz.results21,go_sem,J9,J10]) rfl ⟨rfl,g4⟩
theorem Next_bad_false (E P z:Int) (n1:Nat) (w:World) (hz:z≠0) (b1:W128 n1) (CW:Hid (∀ w v,WSl w v [n1]→Calls Tryz.prog 41 #[.agg #[.int .i64 E,.int .i64 P],.int .i64 0,v] w fun e w'=>e=.returned (.tuple #[.agg #[.int .i64 0,.int .i64 0,.int .i64 0,.int .i64 0],.int .i64 z])∧Ext w w')) :
  Calls Tryz.prog 21 #[.agg #[.int .i64 E,.int .i64 P],Word n1,.bool false] w fun e w'=>e=.returned (.tuple #[.agg #[.int .u64 0,.int .u64 0],.int .i64 z])∧Ext w w':=by
 have hzb:(z != 0)=true:=bne_iff_ne.2 hz;have HN1:=hid b1;clear hz b1;obtain ⟨h1,hh1⟩:∃ h,h=n1/18446744073709551616:=⟨_,rfl⟩;obtain ⟨l1,hl1⟩:∃ l,l=n1%18446744073709551616:=⟨_,rfl⟩;have ew1:Word n1=.agg #[.int .u64 (h1:Nat),.int .u64 (l1:Nat)]:=by unfold Word;rw [hh1,hl1]
 rw [ew1];have HH1:=hid hh1;have HL1:=hid hl1;have EW1:=hid ew1;clear hh1 hl1 ew1;obtain ⟨W0,hW0,g0,hz0,B_F,B_A,B_Z⟩:=pro3s w #[.int .i64 E,.int .i64 P] #[.int .u64 (h1:Nat),.int .u64 (l1:Nat)] #[.int .u64 0,.int .u64 0] 23 29 29;have HE:=hid g0;have HB_F:=hid B_F;have HB_A:=hid B_A;have HB_Z:=hid B_Z;have ac:=cland HB_F.o.a2 (cland HB_A.o.a2 (HB_Z.o.a2));have hr0:Ext W0 W0:=Below.refl _ _;clear g0 B_F B_A B_Z 
 go_enter Tryz.func21,Tryz.ntmps21
 go_upto_region 1 with (fail)
 rw [←hW0];clear hW0;go_wp2_with fail;obtain ⟨W1,hW1,g1,hy1,B_R⟩:=pro1 W0 #[.int .u64 (h1:Nat),.int .u64 (l1:Nat)] 29;rw [←hW1];clear hW1;have HB_R:=hid B_R;clear B_R;have he1:=(HE.o.trans g1);replace ac:=g1.cl ac;have hr2:Ext W1 W1:=Below.refl _ _;replace ac:=cland ac HB_R.o.a2;have HWS:Hid (WSl W1 (.slice (some ⟨W0.heap.size,0,none⟩) 1 1) [n1]):=hid ⟨some ⟨W0.heap.size,0,none⟩,W0.heap.size,0,1,rfl,Nat.le_refl _,by decide,fun _=>rfl,fun x hx=>by
   rw [List.mem_singleton] at hx;rw [hx];exact HN1.o,fun k hk=>by
   obtain rfl:k=0:=by simpa using hk
   ·refine ⟨?_,?_⟩
    ·have:=HB_R.o.cell 0;rw [HH1.o] at this;exact this
    ·have:=HB_R.o.cell 1;rw [HL1.o] at this;exact this⟩
 refine (CW.o _ _ HWS.o).mono ?_;rintro e w2 ⟨rfl,g2⟩;have gA:=g2.trans (Ext.alloc w2 (.cells #[.int .i64 0,.int .i64 0,.int .i64 0,.int .i64 0] 81))
 go_upto_region 2 with (fail)
 clear gA;have hs3:=g2.size;obtain ⟨W3,hW3,g3,hy3,B_M⟩:=pro1 w2 #[.int .i64 0,.int .i64 0,.int .i64 0,.int .i64 0] 81;rw [←hW3];clear hW3;have hb4:=g2.trans g3;have HB_M:=hid B_M;clear B_M;have he5:=(he1.trans hb4);replace ac:=hb4.cl ac;have hr6:Ext W3 W3:=Below.refl _ _;replace ac:=cland ac HB_M.o.a4;obtain ⟨U7,U8⟩:=(HB_Z.o.ext (g1.trans (g2.trans g3))).f2;go_wp2_with fail;clear U7 U8;obtain ⟨W4,hW4,g4,q4,B4,hy4,ho4⟩:=rsto2 he5 (by omega) (HB_Z.o.ext (g1.trans (g2.trans g3))) (by decide) (.int .u64 0) (.int .u64 0);rw [←hW4];clear hW4;replace HB_Z:=hid B4;obtain ⟨J9,J10⟩:=HB_Z.o.c2;refine bodyPost_ret (v:=.tuple #[.agg #[.int .u64 0,.int .u64 0],.int .i64 z]) (by simp [results,Tryz.results21,go_sem,J9,J10]) rfl ⟨rfl,g4⟩
def cmpR (E P n1 n2 k1 k2:Nat):Int×Int:=if anyNan [k1,k2]=true then (2,flagOf [k1,k2]) else (cmpQ ((rankZ E P n1:Int):Rat) ((rankZ E P n2:Int):Rat),0)
theorem Cmp_good (E P n1 n2 k1 k2:Nat) (w:World) (hF:Fmt E P) (hn1:n1<2^(E+P)) (hn2:n2<2^(E+P)) (hk1:wkind E P n1=k1) (hk2:wkind E P n2=k2) (hk1b:k1≤5) (hk2b:k2≤5) :
  Calls Tryz.prog 16 #[.agg #[.int .i64 (E:Nat),.int .i64 (P:Nat)],Word n1,Word n2] w fun e w'=>e=.returned (.tuple #[.int .i64 (cmpR E P n1 n2 k1 k2).1,.int .i64 (cmpR E P n1 n2 k1 k2).2,.int .i64 0])∧Ext w w':=by
 have h124:=fmt_pow hF;have HN1:Hid (W128 n1):=hid (show n1<_ by omega);have HN2:Hid (W128 n2):=hid (show n2<_ by omega);clear h124;have hb:=(fmt_bounds hF).2.2.1;have hEP:=(fmt_bounds hF).2.2.2.1;obtain ⟨h1,hh1⟩:∃ h,h=n1/18446744073709551616:=⟨_,rfl⟩;obtain ⟨l1,hl1⟩:∃ l,l=n1%18446744073709551616:=⟨_,rfl⟩;have ew1:Word n1=.agg #[.int .u64 (h1:Nat),.int .u64 (l1:Nat)]:=by unfold Word;rw [hh1,hl1]
 rw [ew1];have HH1:=hid hh1;have HL1:=hid hl1;have EW1:=hid ew1;clear hh1 hl1 ew1;obtain ⟨h2,hh2⟩:∃ h,h=n2/18446744073709551616:=⟨_,rfl⟩;obtain ⟨l2,hl2⟩:∃ l,l=n2%18446744073709551616:=⟨_,rfl⟩;have ew2:Word n2=.agg #[.int .u64 (h2:Nat),.int .u64 (l2:Nat)]:=by unfold Word;rw [hh2,hl2]
 rw [ew2];have HH2:=hid hh2;have HL2:=hid hl2;have EW2:=hid ew2;clear hh2 hl2 ew2;obtain ⟨b1,hbb1⟩:∃ b,b=wn E P n1:=⟨_,rfl⟩;obtain ⟨q1,hqq1⟩:∃ q,q=wvalK E P (bias E) n1:=⟨_,rfl⟩;have CL1:Hid (∀ w,Calls Tryz.prog 69 #[.agg #[.int .i64 (E:Nat),.int .i64 (P:Nat),.int .i64 0,.int .i64 (bias E:Nat)],.agg #[.int .u64 (h1:Nat),.int .u64 (l1:Nat)]] w fun e w'=>∃ v,e=.returned v∧OpV w' v (k1:Nat) b1 q1∧Ext w w'):=hid fun w=>by
  rw [←EW1.o,hbb1,hqq1,←hk1];exact look_c E P 0 (bias E) n1 w hF hb HN1.o
 obtain ⟨r1,hrr1⟩:∃ r,r=rankZ E P n1:=⟨_,rfl⟩;have CR1:Hid (∀ w,Calls Tryz.prog 70 #[.agg #[.int .i64 (E:Nat),.int .i64 (P:Nat),.int .i64 0,.int .i64 (bias E:Nat)],.agg #[.int .u64 (h1:Nat),.int .u64 (l1:Nat)]] w fun e w'=>∃ v,e=.returned v∧NumV w' v ((r1:Int):Rat)∧Ext w w'):=hid fun w=>by
  rw [←EW1.o,hrr1];exact rank_c E P 0 (bias E) n1 w hF hb HN1.o
 have SR1:Hid (SmQ 200 ((r1:Int):Rat)):=hid (SmQ.int (by decide) (by rw [hrr1];have:=rankZ_lt (n:=n1) hEP;omega));clear hbb1 hqq1;obtain ⟨b2,hbb2⟩:∃ b,b=wn E P n2:=⟨_,rfl⟩;obtain ⟨q2,hqq2⟩:∃ q,q=wvalK E P (bias E) n2:=⟨_,rfl⟩;have CL2:Hid (∀ w,Calls Tryz.prog 69 #[.agg #[.int .i64 (E:Nat),.int .i64 (P:Nat),.int .i64 0,.int .i64 (bias E:Nat)],.agg #[.int .u64 (h2:Nat),.int .u64 (l2:Nat)]] w fun e w'=>∃ v,e=.returned v∧OpV w' v (k2:Nat) b2 q2∧Ext w w'):=hid fun w=>by
  rw [←EW2.o,hbb2,hqq2,←hk2];exact look_c E P 0 (bias E) n2 w hF hb HN2.o
 obtain ⟨r2,hrr2⟩:∃ r,r=rankZ E P n2:=⟨_,rfl⟩;have CR2:Hid (∀ w,Calls Tryz.prog 70 #[.agg #[.int .i64 (E:Nat),.int .i64 (P:Nat),.int .i64 0,.int .i64 (bias E:Nat)],.agg #[.int .u64 (h2:Nat),.int .u64 (l2:Nat)]] w fun e w'=>∃ v,e=.returned v∧NumV w' v ((r2:Int):Rat)∧Ext w w'):=hid fun w=>by
  rw [←EW2.o,hrr2];exact rank_c E P 0 (bias E) n2 w hF hb HN2.o
 have SR2:Hid (SmQ 200 ((r2:Int):Rat)):=hid (SmQ.int (by decide) (by rw [hrr2];have:=rankZ_lt (n:=n2) hEP;omega));clear hbb2 hqq2;have HK1:=hid hk1b;have HK2:=hid hk2b;have HF:=hid hF;have CW:Hid (∀ w v,WSl w v [n1,n2]→Calls Tryz.prog 41 #[.agg #[.int .i64 (E:Nat),.int .i64 (P:Nat)],.int .i64 0,v] w fun e w'=>e=.returned (.tuple #[.agg #[.int .i64 (E:Nat),.int .i64 (P:Nat),.int .i64 0,.int .i64 (bias E:Nat)],.int .i64 0])∧Ext w w'):=hid fun w v h=>by
  have h2:=with_good E P 0 v [n1,n2] w (by decide) hF h;have e:withRes E P 0 [n1,n2]=.tuple #[.agg #[.int .i64 (E:Nat),.int .i64 (P:Nat),.int .i64 0,.int .i64 (bias E:Nat)],.int .i64 0]:=by unfold withRes;rw [if_pos];rfl;simp [hn1,hn2]
  rwa [e] at h2
 obtain ⟨cc,hcc⟩:∃ c,c=cmpQ ((r1:Int):Rat) ((r2:Int):Rat):=⟨_,rfl⟩;have CC:Hid (∀ w u v,NumV w u ((r1:Int):Rat)→NumV w v ((r2:Int):Rat)→Calls Tryz.prog 19 #[u,v] w fun e w'=>e=.returned (.int .i64 cc)∧Ext w w'):=hid fun w u v h k=>by
  rw [hcc];exact Cmp_c u v _ _ 200 w h k SR1.o SR2.o (by decide)
 obtain ⟨R,hR⟩:∃ R,R=cmpR E P n1 n2 k1 k2:=⟨_,rfl⟩;have HR:Hid (R=if anyNan [k1,k2]=true then (2,flagOf [k1,k2]) else (cc,0)):=hid (by rw [hR,hcc,hrr1,hrr2];rfl);rw [←hR];obtain ⟨fl,hfl⟩:∃ f,f=flagOf [k1,k2]:=⟨_,rfl⟩;obtain ⟨an,han⟩:∃ b,b=anyNan [k1,k2]:=⟨_,rfl⟩;rw [←hfl,←han] at HR;obtain ⟨r0,r1x,er⟩:=Word.shape (nanw E P);have CSP:Hid (∀ w v,OSl w v [k1,k2]→Calls Tryz.prog 68 #[.agg #[.int .i64 (E:Nat),.int .i64 (P:Nat),.int .i64 0,.int .i64 (bias E:Nat)],v] w fun e w'=>e=.returned (.tuple #[.agg #[.int .u64 (r0:Nat),.int .u64 (r1x:Nat)],.int .i64 fl,.bool an])∧Ext w w'):=hid fun w v h=>by
  have h2:=special_c E P 0 (bias E) v [k1,k2] w hF h;unfold SpecPost at h2;rw [er,show (if anySig [k1,k2]=true then (1:Int) else 0)=flagOf [k1,k2] from rfl,←hfl,←han] at h2
  exact h2
 clear hF hn1 hn2 hk1 hk2 hk1b hk2b hb hEP hrr1 hrr2 hcc hR hfl han er;obtain ⟨W0,hW0,g0,hz0,B_F,B_A,B_B⟩:=pro3s w #[.int .i64 (E:Nat),.int .i64 (P:Nat)] #[.int .u64 (h1:Nat),.int .u64 (l1:Nat)] #[.int .u64 (h2:Nat),.int .u64 (l2:Nat)] 23 29 29;have HE:=hid g0;have HB_F:=hid B_F;have HB_A:=hid B_A;have HB_B:=hid B_B;have ac:=cland HB_F.o.a2 (cland HB_A.o.a2 (HB_B.o.a2));have hr0:Ext W0 W0:=Below.refl _ _;clear g0 B_F B_A B_B 
 go_enter Tryz.func16,Tryz.ntmps16
 go_upto_region 1 with (fail)
 rw [←hW0];clear hW0;go_wp2_with fail;obtain ⟨W1,hW1,g1,hy1,B_R⟩:=pro1 W0 #[.int .u64 (h1:Nat),.int .u64 (l1:Nat),.int .u64 (h2:Nat),.int .u64 (l2:Nat)] 29;rw [←hW1];clear hW1;have HB_R:=hid B_R;clear B_R;have he1:=(HE.o.trans g1);replace ac:=g1.cl ac;have hr2:Ext W1 W1:=Below.refl _ _;replace ac:=cland ac HB_R.o.a4;have HWS:Hid (WSl W1 (.slice (some ⟨W0.heap.size,0,none⟩) 2 2) [n1,n2]):=hid ⟨some ⟨W0.heap.size,0,none⟩,W0.heap.size,0,2,rfl,Nat.le_refl _,by decide,fun _=>rfl,fun x hx=>by
   simp at hx;rcases hx with rfl | rfl;exact HN1.o;exact HN2.o,fun k hk=>by
   have hk2:k=0∨k=1:=by simp at hk;omega
   rcases hk2 with rfl | rfl
   ·refine ⟨?_,?_⟩
    ·have:=HB_R.o.cell 0;rw [HH1.o] at this;exact this
    ·have:=HB_R.o.cell 1;rw [HL1.o] at this;exact this
   ·refine ⟨?_,?_⟩
    ·have:=HB_R.o.cell 2;rw [HH2.o] at this;exact this
    ·have:=HB_R.o.cell 3;rw [HL2.o] at this;exact this⟩
 refine (CW.o _ _ HWS.o).mono ?_;rintro e w2 ⟨rfl,g2⟩;clear CW HWS HB_R;have gA:=g2.trans (Ext.alloc w2 (.cells #[.int .i64 (E:Nat),.int .i64 (P:Nat),.int .i64 0,.int .i64 (bias E:Nat)] 81))
 go_upto_region 4 with (fail)
 clear gA;have hs3:=g2.size;obtain ⟨W3,hW3,g3,hy3,B_M⟩:=pro1 w2 #[.int .i64 (E:Nat),.int .i64 (P:Nat),.int .i64 0,.int .i64 (bias E:Nat)] 81;rw [←hW3];clear hW3;have hb4:=g2.trans g3;have HB_M:=hid B_M;clear B_M;have he5:=(he1.trans hb4);replace ac:=hb4.cl ac;have hr6:Ext W3 W3:=Below.refl _ _;replace ac:=cland ac HB_M.o.a4
 go_cut [11,12] (fun p q wx=>p=.int .i64 fl∧q=.bool an∧Hid (Ext W3 wx))
 case first =>
  have g4:Ext W3 W3.drew:=Below.drew (Below.refl _ _);refine wp_region_held_drew (S:=Ext W3) (by kernel_rfl) (g4) (fun hHeld => ?_);generalize W3.drew=wD4 at *
  apply wts 0 25 rfl rfl (by kernel_rfl) (fun _ _ _ h=>h) hHeld
  ·intro w' hSw;go_simp<;>with_reducible rfl
  apply wts 1 26 rfl rfl (by kernel_rfl) (fun _ _ _ h=>h) hHeld
  ·intro w' hSw;go_simp<;>with_reducible rfl
  apply wts 2 27 rfl rfl (by kernel_rfl) (fun _ _ _ h=>h) hHeld
  ·intro w' hSw;go_simp<;>with_reducible rfl
  apply wts 4 29 rfl rfl (by kernel_rfl) (fun _ _ _ h=>h) hHeld
  ·intro w' hSw;go_simp<;>with_reducible rfl
  apply wts 5 30 rfl rfl (by kernel_rfl) (fun _ _ _ h=>h) hHeld
  ·intro w' hSw;go_simp<;>with_reducible rfl
  try simp only [Act.put,pA,pB,pC]
  refine wpAnyH_ready (rs:=[3,13]) (by kernel_rfl) (by simp) ?_;refine consb 3 { dst:=some 28,op:=Op.call { callee:=Callee.value (Operand.func 69),args:=#[Operand.tmp 26,Operand.tmp 27],argTypes:=#[81,29] },type:=112,pos := "",after:=#[],guard:=none } rfl rfl (fun KK hKK => ?_) (consb 13 { dst:=some 10,op:=Op.alloc 29,type:=0,pos := "",after:=#[],guard:=none } rfl rfl (fun KK hKK => ?_) (AllReadyH.nil))
  ·go_simp;refine (CL1.o _).mono ?_;rintro e w5 ⟨v5,rfl,o1,g5⟩;have hb7:=g4.trans g5;obtain ⟨s1,a1,m1,c1,a1',m1',c1',rfl⟩:=o1.shape
   try dsimp only
   refine hKK.out _ _ (hb7) (fun hHeld => ?_)
   try simp only [Act.put,pA,pB,pC]
   refine wpAnyH_ready (rs:=[6,13]) (by kernel_rfl) (by simp) ?_;refine consb 6 { dst:=some 31,op:=Op.call { callee:=Callee.value (Operand.func 69),args:=#[Operand.tmp 29,Operand.tmp 30],argTypes:=#[81,29] },type:=112,pos := "",after:=#[],guard:=none } rfl rfl (fun KK hKK => ?_) (consb 13 { dst:=some 10,op:=Op.alloc 29,type:=0,pos := "",after:=#[],guard:=none } rfl rfl (fun KK hKK => ?_) (AllReadyH.nil))
   ·go_simp;refine (CL2.o _).mono ?_;rintro e w6 ⟨v6,rfl,o2,g6⟩;have hb8:=hb7.trans g6;obtain ⟨s2,a2,m2,c2,a2',m2',c2',rfl⟩:=o2.shape
    try dsimp only
    refine hKK.out _ _ (hb8) (fun hHeld => ?_)
    try simp only [Act.put,pA,pB,pC]
    refine wpAnyH_ready (rs:=[7,13]) (by kernel_rfl) (by simp) ?_;refine consb 7 { dst:=some 32,op:=Op.buildSlice 167 2 #[(0,Operand.tmp 28),(1,Operand.tmp 31)],type:=167,pos := "",after:=#[],guard:=none } rfl rfl (fun KK hKK => ?_) (consb 13 { dst:=some 10,op:=Op.alloc 29,type:=0,pos := "",after:=#[],guard:=none } rfl rfl (fun KK hKK => ?_) (AllReadyH.nil))
    ·go_simp;have hs9:=(g4.trans (g5.trans g6)).size;obtain ⟨W7,hW7,g7,hy7,B_L⟩:=pro1 w6 #[.int .i64 (k1:Nat),.bool b1,.bool s1,.slice a1 m1 c1,.slice a1' m1' c1',.int .i64 (k2:Nat),.bool b2,.bool s2,.slice a2 m2 c2,.slice a2' m2' c2'] 112;rw [←hW7];clear hW7;have hleL:=hb8.size;have hb10:=hb8.trans g7;have HB_L:=hid B_L;clear B_L;have hzL:=hb10.size
     try dsimp only
     refine hKK.out _ _ (hb10) (fun hHeld => ?_)
     try simp only [Act.put,pA,pB,pC]
     refine wpAnyH_ready (rs:=[8,13]) (by kernel_rfl) (by simp) ?_;refine consb 8 { dst:=some 33,op:=Op.call { callee:=Callee.value (Operand.func 68),args:=#[Operand.tmp 25,Operand.tmp 32],argTypes:=#[81,167] },type:=109,pos := "",after:=#[],guard:=none } rfl rfl (fun KK hKK => ?_) (consb 13 { dst:=some 10,op:=Op.alloc 29,type:=0,pos := "",after:=#[],guard:=none } rfl rfl (fun KK hKK => ?_) (AllReadyH.nil))
     ·go_simp;refine (CSP.o _ _ (osl2 HB_L.o HK1.o HK2.o)).mono ?_;rintro e w8 ⟨rfl,g8⟩;have hb11:=hb10.trans g8
      try dsimp only
      refine hKK.out _ _ (hb11) (fun hHeld => ?_);apply wts 9 24 rfl rfl (by kernel_rfl) (fun _ _ _ h=>h) hHeld
      ·intro w' hSw;go_simp<;>with_reducible rfl
      apply wts 10 34 rfl rfl (by kernel_rfl) (fun _ _ _ h=>h) hHeld
      ·intro w' hSw;go_simp<;>with_reducible rfl
      apply wts 11 35 rfl rfl (by kernel_rfl) (fun _ _ _ h=>h) hHeld
      ·intro w' hSw;go_simp<;>with_reducible rfl
      apply wts 12 36 rfl rfl (by kernel_rfl) (fun _ _ _ h=>h) hHeld
      ·intro w' hSw;go_simp<;>with_reducible rfl
      try simp only [Act.put,pA,pB,pC]
      refine won 13 { dst:=some 10,op:=Op.alloc 29,type:=0,pos := "",after:=#[],guard:=none } (by kernel_rfl) rfl rfl (fun KK hKK => ?_);go_simp;have hs12:=g8.size;obtain ⟨W9,hW9,g9,hy9,B_NW⟩:=pro1 w8 #[.int .u64 0,.int .u64 0] 29;rw [←hW9];clear hW9;have hleNW:=hb11.size;have hb13:=hb11.trans g9;have HB_NW:=hid B_NW;clear B_NW;have hzNW:=hb13.size
      try dsimp only
      refine hKK.out _ _ (hb13) (fun hHeld => ?_)
      try simp only [Act.put,pA,pB,pC]
      refine wons 14 29 10 34 (by kernel_rfl) rfl rfl (fun KK hKK => ?_);obtain ⟨J16,J17⟩:=HB_NW.o.c2;obtain ⟨U14,U15⟩:=HB_NW.o.f2;go_simp;clear U14 U15 J16 J17;obtain ⟨W10,hW10,g10,q10,B10,hy10,ho10⟩:=rsto2 hb13 (by omega) HB_NW.o (by decide) (.int .u64 (r0:Nat)) (.int .u64 (r1x:Nat));rw [←hW10];clear hW10;replace HB_NW:=hid B10
      try dsimp only
      refine hKK.out _ _ (g10) (fun hHeld => ?_);apply wts 15 11 rfl rfl (by kernel_rfl) (fun _ _ _ h=>h) hHeld
      ·intro w' hSw;go_simp<;>with_reducible rfl
      apply wts 16 12 rfl rfl (by kernel_rfl) (fun _ _ _ h=>h) hHeld
      ·intro w' hSw;go_simp<;>with_reducible rfl
      refine wpAnyH_done (by kernel_rfl) ?_ _;go_wp2_with fail;go_meet
      exact ⟨rfl,rfl,hid g10⟩
     ·go_simp;obtain ⟨W8,hW8,g8,hy8,B_NW⟩:=pro1 W7 #[.int .u64 0,.int .u64 0] 29;rw [←hW8];clear hW8;have hleNW:=hb10.size;have hb11:=hb10.trans g8;have HB_NW:=hid B_NW;clear B_NW;have hzNW:=hb11.size
      try dsimp only
      refine hKK.out _ _ (hb11) (fun hHeld => ?_)
      try simp only [Act.put,pA,pB,pC]
      refine wonc 8 33 68 #[.tmp 25,.tmp 32] #[81,167] 109 (by kernel_rfl) rfl rfl (fun KK hKK => ?_);go_simp;refine (CSP.o _ _ (osl2 (HB_L.o.ext g8) HK1.o HK2.o)).mono ?_;rintro e w9 ⟨rfl,g9⟩;have hb12:=hb11.trans g9
      try dsimp only
      refine hKK.out _ _ (hb12) (fun hHeld => ?_);apply wts 9 24 rfl rfl (by kernel_rfl) (fun _ _ _ h=>h) hHeld
      ·intro w' hSw;go_simp<;>with_reducible rfl
      apply wts 10 34 rfl rfl (by kernel_rfl) (fun _ _ _ h=>h) hHeld
      ·intro w' hSw;go_simp<;>with_reducible rfl
      apply wts 11 35 rfl rfl (by kernel_rfl) (fun _ _ _ h=>h) hHeld
      ·intro w' hSw;go_simp<;>with_reducible rfl
      apply wts 12 36 rfl rfl (by kernel_rfl) (fun _ _ _ h=>h) hHeld
      ·intro w' hSw;go_simp<;>with_reducible rfl
      try simp only [Act.put,pA,pB,pC]
      refine wons 14 29 10 34 (by kernel_rfl) rfl rfl (fun KK hKK => ?_);obtain ⟨J15,J16⟩:=(HB_NW.o.ext g9).c2;obtain ⟨U13,U14⟩:=(HB_NW.o.ext g9).f2;go_simp;clear U13 U14 J15 J16;obtain ⟨W10,hW10,g10,q10,B10,hy10,ho10⟩:=rsto2 hb12 (by omega) (HB_NW.o.ext g9) (by decide) (.int .u64 (r0:Nat)) (.int .u64 (r1x:Nat));rw [←hW10];clear hW10;replace HB_NW:=hid B10
      try dsimp only
      refine hKK.out _ _ (g10) (fun hHeld => ?_);apply wts 15 11 rfl rfl (by kernel_rfl) (fun _ _ _ h=>h) hHeld
      ·intro w' hSw;go_simp<;>with_reducible rfl
      apply wts 16 12 rfl rfl (by kernel_rfl) (fun _ _ _ h=>h) hHeld
      ·intro w' hSw;go_simp<;>with_reducible rfl
      refine wpAnyH_done (by kernel_rfl) ?_ _;go_wp2_with fail;go_meet
      exact ⟨rfl,rfl,hid g10⟩
    ·go_simp;have hs9:=(g4.trans (g5.trans g6)).size;obtain ⟨W7,hW7,g7,hy7,B_NW⟩:=pro1 w6 #[.int .u64 0,.int .u64 0] 29;rw [←hW7];clear hW7;have hleNW:=hb8.size;have hb10:=hb8.trans g7;have HB_NW:=hid B_NW;clear B_NW;have hzNW:=hb10.size
     try dsimp only
     refine hKK.out _ _ (hb10) (fun hHeld => ?_)
     try simp only [Act.put,pA,pB,pC]
     refine won 7 { dst:=some 32,op:=Op.buildSlice 167 2 #[(0,Operand.tmp 28),(1,Operand.tmp 31)],type:=167,pos := "",after:=#[],guard:=none } (by kernel_rfl) rfl rfl (fun KK hKK => ?_);go_simp;obtain ⟨W8,hW8,g8,hy8,B_L⟩:=pro1 W7 #[.int .i64 (k1:Nat),.bool b1,.bool s1,.slice a1 m1 c1,.slice a1' m1' c1',.int .i64 (k2:Nat),.bool b2,.bool s2,.slice a2 m2 c2,.slice a2' m2' c2'] 112;rw [←hW8];clear hW8;have hleL:=hb10.size;have hb11:=hb10.trans g8;have HB_L:=hid B_L;clear B_L;have hzL:=hb11.size
     try dsimp only
     refine hKK.out _ _ (hb11) (fun hHeld => ?_)
     try simp only [Act.put,pA,pB,pC]
     refine wonc 8 33 68 #[.tmp 25,.tmp 32] #[81,167] 109 (by kernel_rfl) rfl rfl (fun KK hKK => ?_);go_simp;refine (CSP.o _ _ (osl2 HB_L.o HK1.o HK2.o)).mono ?_;rintro e w9 ⟨rfl,g9⟩;have hb12:=hb11.trans g9
     try dsimp only
     refine hKK.out _ _ (hb12) (fun hHeld => ?_);apply wts 9 24 rfl rfl (by kernel_rfl) (fun _ _ _ h=>h) hHeld
     ·intro w' hSw;go_simp<;>with_reducible rfl
     apply wts 10 34 rfl rfl (by kernel_rfl) (fun _ _ _ h=>h) hHeld
     ·intro w' hSw;go_simp<;>with_reducible rfl
     apply wts 11 35 rfl rfl (by kernel_rfl) (fun _ _ _ h=>h) hHeld
     ·intro w' hSw;go_simp<;>with_reducible rfl
     apply wts 12 36 rfl rfl (by kernel_rfl) (fun _ _ _ h=>h) hHeld
     ·intro w' hSw;go_simp<;>with_reducible rfl
     try simp only [Act.put,pA,pB,pC]
     refine wons 14 29 10 34 (by kernel_rfl) rfl rfl (fun KK hKK => ?_);obtain ⟨J15,J16⟩:=(HB_NW.o.ext (g8.trans g9)).c2;obtain ⟨U13,U14⟩:=(HB_NW.o.ext (g8.trans g9)).f2;go_simp;clear U13 U14 J15 J16;obtain ⟨W10,hW10,g10,q10,B10,hy10,ho10⟩:=rsto2 hb12 (by omega) (HB_NW.o.ext (g8.trans g9)) (by decide) (.int .u64 (r0:Nat)) (.int .u64 (r1x:Nat));rw [←hW10];clear hW10;replace HB_NW:=hid B10
     try dsimp only
     refine hKK.out _ _ (g10) (fun hHeld => ?_);apply wts 15 11 rfl rfl (by kernel_rfl) (fun _ _ _ h=>h) hHeld
     ·intro w' hSw;go_simp<;>with_reducible rfl
     apply wts 16 12 rfl rfl (by kernel_rfl) (fun _ _ _ h=>h) hHeld
     ·intro w' hSw;go_simp<;>with_reducible rfl
     refine wpAnyH_done (by kernel_rfl) ?_ _;go_wp2_with fail;go_meet
     exact ⟨rfl,rfl,hid g10⟩
   ·go_simp;have hs8:=(g4.trans g5).size;obtain ⟨W6,hW6,g6,hy6,B_NW⟩:=pro1 w5 #[.int .u64 0,.int .u64 0] 29;rw [←hW6];clear hW6;have hleNW:=hb7.size;have hb9:=hb7.trans g6;have HB_NW:=hid B_NW;clear B_NW;have hzNW:=hb9.size
    try dsimp only
    refine hKK.out _ _ (hb9) (fun hHeld => ?_)
    try simp only [Act.put,pA,pB,pC]
    refine wonc 6 31 69 #[.tmp 29,.tmp 30] #[81,29] 112 (by kernel_rfl) rfl rfl (fun KK hKK => ?_);go_simp;refine (CL2.o _).mono ?_;rintro e w7 ⟨v7,rfl,o2,g7⟩;have hb10:=hb9.trans g7;obtain ⟨s2,a2,m2,c2,a2',m2',c2',rfl⟩:=o2.shape
    try dsimp only
    refine hKK.out _ _ (hb10) (fun hHeld => ?_)
    try simp only [Act.put,pA,pB,pC]
    refine won 7 { dst:=some 32,op:=Op.buildSlice 167 2 #[(0,Operand.tmp 28),(1,Operand.tmp 31)],type:=167,pos := "",after:=#[],guard:=none } (by kernel_rfl) rfl rfl (fun KK hKK => ?_);go_simp;have hs11:=g7.size;obtain ⟨W8,hW8,g8,hy8,B_L⟩:=pro1 w7 #[.int .i64 (k1:Nat),.bool b1,.bool s1,.slice a1 m1 c1,.slice a1' m1' c1',.int .i64 (k2:Nat),.bool b2,.bool s2,.slice a2 m2 c2,.slice a2' m2' c2'] 112;rw [←hW8];clear hW8;have hleL:=hb10.size;have hb12:=hb10.trans g8;have HB_L:=hid B_L;clear B_L;have hzL:=hb12.size
    try dsimp only
    refine hKK.out _ _ (hb12) (fun hHeld => ?_)
    try simp only [Act.put,pA,pB,pC]
    refine wonc 8 33 68 #[.tmp 25,.tmp 32] #[81,167] 109 (by kernel_rfl) rfl rfl (fun KK hKK => ?_);go_simp;refine (CSP.o _ _ (osl2 HB_L.o HK1.o HK2.o)).mono ?_;rintro e w9 ⟨rfl,g9⟩;have hb13:=hb12.trans g9
    try dsimp only
    refine hKK.out _ _ (hb13) (fun hHeld => ?_);apply wts 9 24 rfl rfl (by kernel_rfl) (fun _ _ _ h=>h) hHeld
    ·intro w' hSw;go_simp<;>with_reducible rfl
    apply wts 10 34 rfl rfl (by kernel_rfl) (fun _ _ _ h=>h) hHeld
    ·intro w' hSw;go_simp<;>with_reducible rfl
    apply wts 11 35 rfl rfl (by kernel_rfl) (fun _ _ _ h=>h) hHeld
    ·intro w' hSw;go_simp<;>with_reducible rfl
    apply wts 12 36 rfl rfl (by kernel_rfl) (fun _ _ _ h=>h) hHeld
    ·intro w' hSw;go_simp<;>with_reducible rfl
    try simp only [Act.put,pA,pB,pC]
    refine wons 14 29 10 34 (by kernel_rfl) rfl rfl (fun KK hKK => ?_);obtain ⟨J16,J17⟩:=(HB_NW.o.ext (g7.trans (g8.trans g9))).c2;obtain ⟨U14,U15⟩:=(HB_NW.o.ext (g7.trans (g8.trans g9))).f2;go_simp;clear U14 U15 J16 J17;obtain ⟨W10,hW10,g10,q10,B10,hy10,ho10⟩:=rsto2 hb13 (by omega) (HB_NW.o.ext (g7.trans (g8.trans g9))) (by decide) (.int .u64 (r0:Nat)) (.int .u64 (r1x:Nat));rw [←hW10];clear hW10;replace HB_NW:=hid B10
    try dsimp only
    refine hKK.out _ _ (g10) (fun hHeld => ?_);apply wts 15 11 rfl rfl (by kernel_rfl) (fun _ _ _ h=>h) hHeld
    ·intro w' hSw;go_simp<;>with_reducible rfl
    apply wts 16 12 rfl rfl (by kernel_rfl) (fun _ _ _ h=>h) hHeld
    ·intro w' hSw;go_simp<;>with_reducible rfl
    refine wpAnyH_done (by kernel_rfl) ?_ _;go_wp2_with fail;go_meet
    exact ⟨rfl,rfl,hid g10⟩
  ·go_simp;have hs7:=g4.size;obtain ⟨W5,hW5,g5,hy5,B_NW⟩:=pro1 wD4 #[.int .u64 0,.int .u64 0] 29;rw [←hW5];clear hW5;have hleNW:=g4.size;have hb8:=g4.trans g5;have HB_NW:=hid B_NW;clear B_NW;have hzNW:=hb8.size
   try dsimp only
   refine hKK.out _ _ (hb8) (fun hHeld => ?_)
   try simp only [Act.put,pA,pB,pC]
   refine wonc 3 28 69 #[.tmp 26,.tmp 27] #[81,29] 112 (by kernel_rfl) rfl rfl (fun KK hKK => ?_);go_simp;refine (CL1.o _).mono ?_;rintro e w6 ⟨v6,rfl,o1,g6⟩;have hb9:=hb8.trans g6;obtain ⟨s1,a1,m1,c1,a1',m1',c1',rfl⟩:=o1.shape
   try dsimp only
   refine hKK.out _ _ (hb9) (fun hHeld => ?_)
   try simp only [Act.put,pA,pB,pC]
   refine wonc 6 31 69 #[.tmp 29,.tmp 30] #[81,29] 112 (by kernel_rfl) rfl rfl (fun KK hKK => ?_);go_simp;refine (CL2.o _).mono ?_;rintro e w7 ⟨v7,rfl,o2,g7⟩;have hb10:=hb9.trans g7;obtain ⟨s2,a2,m2,c2,a2',m2',c2',rfl⟩:=o2.shape
   try dsimp only
   refine hKK.out _ _ (hb10) (fun hHeld => ?_)
   try simp only [Act.put,pA,pB,pC]
   refine won 7 { dst:=some 32,op:=Op.buildSlice 167 2 #[(0,Operand.tmp 28),(1,Operand.tmp 31)],type:=167,pos := "",after:=#[],guard:=none } (by kernel_rfl) rfl rfl (fun KK hKK => ?_);go_simp;have hs11:=(g6.trans g7).size;obtain ⟨W8,hW8,g8,hy8,B_L⟩:=pro1 w7 #[.int .i64 (k1:Nat),.bool b1,.bool s1,.slice a1 m1 c1,.slice a1' m1' c1',.int .i64 (k2:Nat),.bool b2,.bool s2,.slice a2 m2 c2,.slice a2' m2' c2'] 112;rw [←hW8];clear hW8;have hleL:=hb10.size;have hb12:=hb10.trans g8;have HB_L:=hid B_L;clear B_L;have hzL:=hb12.size
   try dsimp only
   refine hKK.out _ _ (hb12) (fun hHeld => ?_)
   try simp only [Act.put,pA,pB,pC]
   refine wonc 8 33 68 #[.tmp 25,.tmp 32] #[81,167] 109 (by kernel_rfl) rfl rfl (fun KK hKK => ?_);go_simp;refine (CSP.o _ _ (osl2 HB_L.o HK1.o HK2.o)).mono ?_;rintro e w9 ⟨rfl,g9⟩;have hb13:=hb12.trans g9
   try dsimp only
   refine hKK.out _ _ (hb13) (fun hHeld => ?_);apply wts 9 24 rfl rfl (by kernel_rfl) (fun _ _ _ h=>h) hHeld
   ·intro w' hSw;go_simp<;>with_reducible rfl
   apply wts 10 34 rfl rfl (by kernel_rfl) (fun _ _ _ h=>h) hHeld
   ·intro w' hSw;go_simp<;>with_reducible rfl
   apply wts 11 35 rfl rfl (by kernel_rfl) (fun _ _ _ h=>h) hHeld
   ·intro w' hSw;go_simp<;>with_reducible rfl
   apply wts 12 36 rfl rfl (by kernel_rfl) (fun _ _ _ h=>h) hHeld
   ·intro w' hSw;go_simp<;>with_reducible rfl
   try simp only [Act.put,pA,pB,pC]
   refine wons 14 29 10 34 (by kernel_rfl) rfl rfl (fun KK hKK => ?_);obtain ⟨J16,J17⟩:=(HB_NW.o.ext (g6.trans (g7.trans (g8.trans g9)))).c2;obtain ⟨U14,U15⟩:=(HB_NW.o.ext (g6.trans (g7.trans (g8.trans g9)))).f2;go_simp;clear U14 U15 J16 J17;obtain ⟨W10,hW10,g10,q10,B10,hy10,ho10⟩:=rsto2 hb13 (by omega) (HB_NW.o.ext (g6.trans (g7.trans (g8.trans g9)))) (by decide) (.int .u64 (r0:Nat)) (.int .u64 (r1x:Nat));rw [←hW10];clear hW10;replace HB_NW:=hid B10
   try dsimp only
   refine hKK.out _ _ (g10) (fun hHeld => ?_);apply wts 15 11 rfl rfl (by kernel_rfl) (fun _ _ _ h=>h) hHeld
   ·intro w' hSw;go_simp<;>with_reducible rfl
   apply wts 16 12 rfl rfl (by kernel_rfl) (fun _ _ _ h=>h) hHeld
   ·intro w' hSw;go_simp<;>with_reducible rfl
   refine wpAnyH_done (by kernel_rfl) ?_ _;go_wp2_with fail;go_meet
   exact ⟨rfl,rfl,hid g10⟩
 case rest =>
  obtain ⟨rfl,rfl,gx⟩:=hcut;obtain ⟨wv,rfl⟩:∃ x,x=wc:=⟨_,rfl⟩
  cases an
  ·have HR2:Hid (R=(cc,0)):=hid (by rw [HR.o];rfl)
   go_upto_region 7 with (fail)
   have g12:Ext wv wv.drew:=Below.drew (Below.refl _ _);have hb19:=gx.o.trans g12;refine wp_region_held_drew (S:=Ext W3) (by kernel_rfl) (hb19) (fun hHeld => ?_);generalize wv.drew=wD12 at *
   apply wts 0 39 rfl rfl (by kernel_rfl) (fun _ _ _ h=>h) hHeld
   ·intro w' hSw;go_simp<;>with_reducible rfl
   apply wts 1 40 rfl rfl (by kernel_rfl) (fun _ _ _ h=>h) hHeld
   ·intro w' hSw;go_simp<;>with_reducible rfl
   apply wts 3 42 rfl rfl (by kernel_rfl) (fun _ _ _ h=>h) hHeld
   ·intro w' hSw;go_simp<;>with_reducible rfl
   apply wts 4 43 rfl rfl (by kernel_rfl) (fun _ _ _ h=>h) hHeld
   ·intro w' hSw;go_simp<;>with_reducible rfl
   try simp only [Act.put,pA,pB,pC]
   refine wonc 2 41 70 #[.tmp 39,.tmp 40] #[81,29] 40 (by kernel_rfl) rfl rfl (fun KK hKK => ?_);go_simp;refine (CR1.o _).mono ?_;rintro e w13 ⟨v13,rfl,p1,g13⟩;have hb20:=hb19.trans g13
   try dsimp only
   refine hKK.out _ _ (hb20) (fun hHeld => ?_)
   try simp only [Act.put,pA,pB,pC]
   refine wonc 5 44 70 #[.tmp 42,.tmp 43] #[81,29] 40 (by kernel_rfl) rfl rfl (fun KK hKK => ?_);go_simp;refine (CR2.o _).mono ?_;rintro e w14 ⟨v14,rfl,p2,g14⟩;have hb21:=hb20.trans g14
   try dsimp only
   refine hKK.out _ _ (hb21) (fun hHeld => ?_)
   try simp only [Act.put,pA,pB,pC]
   refine wonc 6 45 19 #[.tmp 41,.tmp 44] #[40,40] 3 (by kernel_rfl) rfl rfl (fun KK hKK => ?_);go_simp;refine (CC.o _ _ _ (p1.ext g14) p2).mono ?_;rintro e w15 ⟨rfl,g15⟩;have hb22:=hb21.trans g15
   try dsimp only
   refine hKK.out _ _ (hb22) (fun hHeld => ?_);apply wts 7 6 rfl rfl (by kernel_rfl) (fun _ _ _ h=>h) hHeld
   ·intro w' hSw;go_simp<;>with_reducible rfl
   apply wts 8 7 rfl rfl (by kernel_rfl) (fun _ _ _ h=>h) hHeld
   ·intro w' hSw;go_simp<;>with_reducible rfl
   apply wts 9 8 rfl rfl (by kernel_rfl) (fun _ _ _ h=>h) hHeld
   ·intro w' hSw;go_simp<;>with_reducible rfl
   refine wpAnyH_done (by kernel_rfl) ?_ _;go_wp2_with fail;rw [HR2.o];go_ret3
   exact ⟨rfl,(he5.trans hb22)⟩
  ·have HR2:Hid (R=(2,fl)):=hid (by rw [HR.o];rfl);go_wp2_with fail;rw [HR2.o];go_ret3
   exact ⟨rfl,(he5.trans gx.o)⟩
end Go.Proofs.YtopmjkkjlagfcaaGreatDoor
