/- The law FloatsWords: true at every input. -/
import Derived.Test.YtopmjkkjlagfcaaGreatDoorO48
import Derived.Test.YtopmjkkjlagfcaaGreatDoorO51
import Derived.Test.YtopmjkkjlagfcaaGreatDoorO47
namespace Go.Proofs.YtopmjkkjlagfcaaGreatDoor
open Go.RowKit Vn
set_option maxRecDepth 100000
set_option maxHeartbeats 8000000
theorem word_halves (h l:Nat) (hl:l<18446744073709551616):Word (h*18446744073709551616+l)=.agg #[.int .u64 h,.int .u64 l]:=by
 unfold Word;have e1:(h*18446744073709551616+l)/18446744073709551616=h:=by omega
 have e2:(h*18446744073709551616+l)%18446744073709551616=l:=by omega
 rw [e1,e2]
def NextC (E P:Int) (i0 i1:Nat) (up:Bool) (r0 r1:Nat) (z:Int):Prop :=
 (∀ w,Calls Tryz.prog 21 #[.agg #[.int .i64 E,.int .i64 P],.agg #[.int .u64 (i0:Nat),.int .u64 (i1:Nat)],.bool up] w fun e w'=>e=.returned (.tuple #[.agg #[.int .u64 (r0:Nat),.int .u64 (r1:Nat)],.int .i64 z])∧Ext w w') ∧
 (∀ w,Calls Tryz.prog 22 #[.agg #[.int .i64 E,.int .i64 P],.agg #[.int .u64 (i0:Nat),.int .u64 (i1:Nat)],.bool up] w fun e w'=>e=.returned (.tuple #[.agg #[.int .u64 (r0:Nat),.int .u64 (r1:Nat)],.int .i64 z])∧Ext w w')
theorem orders_w (E P M:Int) (i0 i1 j0 j1:Nat) (c0 c1:Int) (o f z:Int) (t0 t1 u0 u1:Nat) (zt zu:Int) (w:World) (C1:Hid (∀ w,Calls Tryz.prog 16 #[.agg #[.int .i64 E,.int .i64 P],.agg #[.int .u64 (i0:Nat),.int .u64 (i1:Nat)],.agg #[.int .u64 (j0:Nat),.int .u64 (j1:Nat)]] w fun e w'=>e=.returned (.tuple #[.int .i64 o,.int .i64 f,.int .i64 z])∧Ext w w')) (C2:Hid (∀ w,Calls Tryz.prog 20 #[.agg #[.int .i64 E,.int .i64 P],.agg #[.int .u64 (i0:Nat),.int .u64 (i1:Nat)],.agg #[.int .u64 (j0:Nat),.int .u64 (j1:Nat)]] w fun e w'=>e=.returned (.tuple #[.int .i64 o,.int .i64 f,.int .i64 z])∧Ext w w')) (NT:Hid (NextC E P i0 i1 true t0 t1 zt)) (NU:Hid (NextC E P i0 i1 false u0 u1 zu)) (hw:WM w) (hT:Tabs w) :
  Calls Tryz.prog 5 #[.agg #[.int .i64 E,.int .i64 P,.int .i64 M,.int .u64 (i0:Nat),.int .u64 (i1:Nat),.int .u64 (j0:Nat),.int .u64 (j1:Nat),.int .u64 c0,.int .u64 c1]] w fun e w'=>TruePost w e w':=by
 have CW:Hid (∀ w,WM w→Tabs w→Calls Tryz.prog 11 #[] w fun e w'=>e=.returned (.bool true)∧Ext w w'):=hid fun w h k=>awake_c w h k;have HP:=hid hw;have HT:=hid hT;clear hw hT;obtain ⟨W0,hW0,g0,hz0,B_O⟩:=pro1 w #[.int .i64 E,.int .i64 P,.int .i64 M,.int .u64 (i0:Nat),.int .u64 (i1:Nat),.int .u64 (j0:Nat),.int .u64 (j1:Nat),.int .u64 c0,.int .u64 c1] 57;have HE:=hid g0;have HB_O:=hid B_O;have ac:=HB_O.o.a9;have hr0:Ext W0 W0:=Below.refl _ _;clear g0 B_O 
 go_enter Tryz.func5,Tryz.ntmps5
 go_upto_region 1 with (fail)
 rw [←hW0];clear hW0;go_wp2_with fail;refine (C1.o _).mono ?_;rintro e w1 ⟨rfl,g1⟩;go_wp2_with fail;refine (C2.o _).mono ?_;rintro e w2 ⟨rfl,g2⟩;have hb1:=g1.trans g2;have HE:=hid (HE.o.trans hb1);replace HB_O:=hid (HB_O.o.ext hb1);replace ac:=hb1.cl ac;have hr2:Ext w2 w2:=Below.refl _ _;go_wp2_with fail
 go_loopg [9] 2 (fun g i wx=>∃ j:Nat,i=.int .i64 (j:Nat)∧g+j=2∧Hid (Ext w2 wx))
 case atStart=>exact ⟨0,rfl,rfl,hid (Below.refl _ _)⟩
 case round =>
  obtain ⟨j,rfl,hj,HG⟩:=hrel;have hz_wr:=HG.o.size
  rcases (show j=0∨j=1∨j=2 by omega) with rfl | rfl | rfl
  ·replace HE:=hid (HE.o.trans HG.o);replace HB_O:=hid (HB_O.o.ext HG.o);have ac:=HB_O.o.a9;have hr3:Ext wr wr:=Below.refl _ _;obtain ⟨wo,rfl⟩:∃ x,x=wr:=⟨_,rfl⟩;have ac:=HB_O.o.a9;have hr4:Ext wo wo:=Below.refl _ _;have HGW:=HG;go_wp2_with fail;refine (NT.o.1 _).mono ?_;rintro e w3 ⟨rfl,g3⟩;have HG2:=hid (HG.o.trans g3);have gA:=g3.trans (Ext.alloc w3 (.cells #[.int .u64 (t0:Nat),.int .u64 (t1:Nat)] 29));go_wp2_with fail;clear gA;have hs5:=g3.size;obtain ⟨W4,hW4,g4,hy4,B_R⟩:=pro1 w3 #[.int .u64 (t0:Nat),.int .u64 (t1:Nat)] 29;rw [←hW4];clear hW4;have hb6:=g3.trans g4;have HB_R:=hid B_R;clear B_R;have he7:=(HE.o.trans hb6);replace ac:=hb6.cl ac;have hr8:Ext W4 W4:=Below.refl _ _;replace ac:=cland ac HB_R.o.a2;replace HG2:=hid (HG2.o.trans g4);refine (NT.o.2 _).mono ?_;rintro e w5 ⟨rfl,g5⟩;replace HG2:=hid (HG2.o.trans g5);have gA:=g5.trans (Ext.alloc w5 (.cells #[.int .u64 (t0:Nat),.int .u64 (t1:Nat)] 29))
   go_upto_region 10 with (fail)
   clear gA;have hs9:=g5.size;obtain ⟨W6,hW6,g6,hy6,B_S⟩:=pro1 w5 #[.int .u64 (t0:Nat),.int .u64 (t1:Nat)] 29;rw [←hW6];clear hW6;have hb10:=g5.trans g6;have HB_S:=hid B_S;clear B_S;have he11:=(he7.trans hb10);replace ac:=hb10.cl ac;have hr12:Ext W6 W6:=Below.refl _ _;replace ac:=cland ac HB_S.o.a2;replace HG2:=hid (HG2.o.trans g6);go_wp2_with fail
   go_roundg 1
   case measure=>omega
   case rel=>exact ⟨1,rfl,by omega,HG2⟩
  ·replace HE:=hid (HE.o.trans HG.o);replace HB_O:=hid (HB_O.o.ext HG.o);have ac:=HB_O.o.a9;have hr3:Ext wr wr:=Below.refl _ _;obtain ⟨wo,rfl⟩:∃ x,x=wr:=⟨_,rfl⟩;have ac:=HB_O.o.a9;have hr4:Ext wo wo:=Below.refl _ _;have HGW:=HG;go_wp2_with fail;refine (NU.o.1 _).mono ?_;rintro e w3 ⟨rfl,g3⟩;have HG2:=hid (HG.o.trans g3);have gA:=g3.trans (Ext.alloc w3 (.cells #[.int .u64 (u0:Nat),.int .u64 (u1:Nat)] 29));go_wp2_with fail;clear gA;have hs5:=g3.size;obtain ⟨W4,hW4,g4,hy4,B_R⟩:=pro1 w3 #[.int .u64 (u0:Nat),.int .u64 (u1:Nat)] 29;rw [←hW4];clear hW4;have hb6:=g3.trans g4;have HB_R:=hid B_R;clear B_R;have he7:=(HE.o.trans hb6);replace ac:=hb6.cl ac;have hr8:Ext W4 W4:=Below.refl _ _;replace ac:=cland ac HB_R.o.a2;replace HG2:=hid (HG2.o.trans g4);refine (NU.o.2 _).mono ?_;rintro e w5 ⟨rfl,g5⟩;replace HG2:=hid (HG2.o.trans g5);have gA:=g5.trans (Ext.alloc w5 (.cells #[.int .u64 (u0:Nat),.int .u64 (u1:Nat)] 29))
   go_upto_region 10 with (fail)
   clear gA;have hs9:=g5.size;obtain ⟨W6,hW6,g6,hy6,B_S⟩:=pro1 w5 #[.int .u64 (u0:Nat),.int .u64 (u1:Nat)] 29;rw [←hW6];clear hW6;have hb10:=g5.trans g6;have HB_S:=hid B_S;clear B_S;have he11:=(he7.trans hb10);replace ac:=hb10.cl ac;have hr12:Ext W6 W6:=Below.refl _ _;replace ac:=cland ac HB_S.o.a2;replace HG2:=hid (HG2.o.trans g6);go_wp2_with fail
   go_roundg 0
   case measure=>omega
   case rel=>exact ⟨2,rfl,by omega,HG2⟩
  ·replace HE:=hid (HE.o.trans HG.o);replace HB_O:=hid (HB_O.o.ext HG.o);have ac:=HB_O.o.a9;have hr3:Ext wr wr:=Below.refl _ _;go_wp2_with fail;refine (CW.o _ (HP.o.ext HE.o) (HT.o.ext HE.o)).mono ?_;rintro e w3 ⟨rfl,g3⟩;go_wp2_with fail;unfold TruePost;refine bodyPost_ret (v:=.bool true) (by simp [results,Tryz.results5,go_sem]) rfl ⟨rfl,(HE.o.trans g3)⟩
theorem orders_c (E P M:Int) (i0 i1 j0 j1:Nat) (c0 c1:Int) (w:World) (hi0:i0<18446744073709551616) (hi1:i1<18446744073709551616) (hj0:j0<18446744073709551616) (hj1:j1<18446744073709551616) (hw:WM w) (hT:Tabs w) :
  Calls Tryz.prog 5 #[.agg #[.int .i64 E,.int .i64 P,.int .i64 M,.int .u64 (i0:Nat),.int .u64 (i1:Nat),.int .u64 (j0:Nat),.int .u64 (j1:Nat),.int .u64 c0,.int .u64 c1]] w fun e w'=>TruePost w e w':=by
 have ei:=word_halves i0 i1 hi1;have ej:=word_halves j0 j1 hj1;obtain ⟨i,hi⟩:∃ i,i=i0*18446744073709551616+i1:=⟨_,rfl⟩;obtain ⟨j,hj⟩:∃ j,j=j0*18446744073709551616+j1:=⟨_,rfl⟩;rw [←hi] at ei;rw [←hj] at ej;have wi:W128 i:=by show i<2^128;omega
 have wj:W128 j:=by show j<2^128;omega
 obtain ⟨o,f,z,c1',c2'⟩:=cmpz_same E P i j wi wj;rw [ei,ej] at c1' c2';obtain ⟨t0,t1,zt,n1,n2⟩:=next_same E P i true wi;obtain ⟨u0,u1,zu,m1,m2⟩:=next_same E P i false wi;rw [ei] at n1 n2 m1 m2
 exact orders_w E P M i0 i1 j0 j1 c0 c1 o f z t0 t1 u0 u1 zt zu w (hid c1') (hid c2') (hid ⟨n1,n2⟩) (hid ⟨m1,m2⟩) hw hT
end Go.Proofs.YtopmjkkjlagfcaaGreatDoor
