/- floats: add. -/
import Derived.Test.YtopmjkkjlagfcaaGreatDoorX38
namespace Go.Proofs.YtopmjkkjlagfcaaGreatDoor
open Go.RowKit Vn
set_option maxRecDepth 100000
set_option maxHeartbeats 8000000
def addR (E P b m:Nat) (kx:Int) (nx:Bool) (qx:Rat) (ky:Int) (ny:Bool) (qy:Rat) (l:Int):Nat×Nat :=
 if kx=3∧ky=3∧nx≠ny then (nanw E P,1) else if kx=3 then (infw E P nx,0) else if ky=3 then (infw E P ny,0)
 else if qx+qy≠0 then roundR E P b m (qx+qy) l else if kx=1∧nx=ny then (sgb E P nx,0) else (sgb E P (decide (m=4)),0)
theorem madd_c (E P b m:Nat) (x y:Value) (kx ky:Int) (nx ny:Bool) (qx qy:Rat) (l:Int) (K:Nat) (w:World) (hF:Fmt E P) (hm:m≤4) (hb:b=bias E) (hx:OpV w x kx nx qx) (hy:OpV w y ky ny qy) (sx:SmQ K qx) (sy:SmQ K qy) (hK:K≤5000) (hl:qx+qy≠0→IsLog (absQ (qx+qy)) l) (hT:Tabs w) :
  Calls Tryz.prog 94 #[.agg #[.int .i64 E,.int .i64 P,.int .i64 m,.int .i64 b],x,y] w fun e w'=>EndPost (addR E P b m kx nx qx ky ny qy l) w e w':=by
 obtain ⟨ng,a,n,c,a',n',c',rfl,hvx⟩:=hx;obtain ⟨mg,d,k,e,d',k',e',rfl,hvy⟩:=hy;have ss:SmQ (2*K+1) (qx+qy):=(sx.add sy).mono (by omega);have SX:=hid sx;have SY:=hid sy;have SS:=hid ss;have HK:=hid hK;have HL:=hid hl;have HT:=hid hT;have HF:=hid hF;have HM:=hid hm;have HB:=hid hb;have HX:=hid hvx;have HY:=hid hvy;clear sx sy ss hK hl hT hF hm hb hvx hvy;obtain ⟨W0,hW0,g0,hz0,B_M,B_X,B_Y,B_Z⟩:=pro4s w #[.int .i64 E,.int .i64 P,.int .i64 m,.int .i64 b] #[.int .i64 kx,.bool nx,.bool ng,.slice a n c,.slice a' n' c'] #[.int .i64 ky,.bool ny,.bool mg,.slice d k e,.slice d' k' e'] #[.int .u64 0,.int .u64 0] 81 112 112 29;have HE:=hid g0;have HB_M:=hid B_M;have HB_X:=hid B_X;have HB_Y:=hid B_Y;have HB_Z:=hid B_Z;clear g0 B_M B_X B_Y B_Z 
 go_enter Tryz.func94,Tryz.ntmps94
 go_upto_region 1 with (fail)
 rw [←hW0];clear hW0
 by_cases hx3:kx=3
 ·subst hx3
  by_cases hy3:ky=3
  ·subst hy3
   cases nx<;>cases ny
   ·have HR:Hid (addR E P b m 3 false qx 3 false qy l=(infw E P false,0)):=hid (by unfold addR;simp);obtain ⟨r0,r1,er⟩:=Word.shape (infw E P false);have Er:=hid er;clear er;obtain ⟨J1,J2,J3,J4⟩:=HB_M.o.c4;obtain ⟨J5,J6,J7,J8,J9⟩:=HB_X.o.c5;obtain ⟨J10,J11,J12,J13,J14⟩:=HB_Y.o.c5;obtain ⟨J15,J16⟩:=HB_Z.o.c2;go_wp2_with fail;clear J1 J2 J3 J4 J5 J6 J7 J8 J9 J10 J11 J12 J13 J14 J15 J16;refine (infinite_c E P m b false _ HF.o).mono ?_;rintro e w1 ⟨rfl,g1⟩;have hz_w1:=g1.size;replace HE:=hid (HE.o.trans g1);replace HB_M:=hid (HB_M.o.ext g1);replace HB_X:=hid (HB_X.o.ext g1);replace HB_Y:=hid (HB_Y.o.ext g1);replace HB_Z:=hid (HB_Z.o.ext g1);rw [Er.o];obtain ⟨J17,J18,J19,J20⟩:=HB_M.o.c4;obtain ⟨J21,J22,J23,J24,J25⟩:=HB_X.o.c5;obtain ⟨J26,J27,J28,J29,J30⟩:=HB_Y.o.c5;obtain ⟨J31,J32⟩:=HB_Z.o.c2;obtain ⟨U33,U34⟩:=HB_Z.o.f2;go_wp2_with fail;clear J17 J18 J19 J20 J21 J22 J23 J24 J25 J26 J27 J28 J29 J30 J31 J32 U33 U34;obtain ⟨W2,hW2,g2,q2,B2,hy2,ho2⟩:=sto2 HE.o (by omega) HB_Z.o (by decide) (.int .u64 r0) (.int .u64 r1);rw [←hW2];clear hW2;replace HE:=hid g2;replace HB_M:=hid (ho2 _ _ _ (by omega) HB_M.o);replace HB_X:=hid (ho2 _ _ _ (by omega) HB_X.o);replace HB_Y:=hid (ho2 _ _ _ (by omega) HB_Y.o);replace HB_Z:=hid B2;unfold EndPost;rw [HR.o];obtain ⟨J35,J36⟩:=HB_Z.o.c2;refine bodyPost_ret (v:=.tuple #[.agg #[.int .u64 r0,.int .u64 r1],.int .i64 0]) (by simp [results,Tryz.results94,go_sem,J35,J36]) rfl ⟨by (show _=Ending.returned (.tuple #[Word (infw E P false),.int .i64 0]);rw [Er.o]),HE.o⟩
   ·have HR:Hid (addR E P b m 3 false qx 3 true qy l=(nanw E P,1)):=hid (by unfold addR;simp);obtain ⟨r0,r1,er⟩:=Word.shape (nanw E P);have Er:=hid er;clear er;obtain ⟨J1,J2,J3,J4⟩:=HB_M.o.c4;obtain ⟨J5,J6,J7,J8,J9⟩:=HB_X.o.c5;obtain ⟨J10,J11,J12,J13,J14⟩:=HB_Y.o.c5;obtain ⟨J15,J16⟩:=HB_Z.o.c2;go_wp2_with fail;clear J1 J2 J3 J4 J5 J6 J7 J8 J9 J10 J11 J12 J13 J14 J15 J16;refine (invalid_c E P m b _ HF.o).mono ?_;rintro e w1 ⟨rfl,g1⟩;have hz_w1:=g1.size;replace HE:=hid (HE.o.trans g1);replace HB_M:=hid (HB_M.o.ext g1);replace HB_X:=hid (HB_X.o.ext g1);replace HB_Y:=hid (HB_Y.o.ext g1);replace HB_Z:=hid (HB_Z.o.ext g1);rw [Er.o];obtain ⟨J17,J18,J19,J20⟩:=HB_M.o.c4;obtain ⟨J21,J22,J23,J24,J25⟩:=HB_X.o.c5;obtain ⟨J26,J27,J28,J29,J30⟩:=HB_Y.o.c5;obtain ⟨J31,J32⟩:=HB_Z.o.c2;obtain ⟨U33,U34⟩:=HB_Z.o.f2;go_wp2_with fail;clear J17 J18 J19 J20 J21 J22 J23 J24 J25 J26 J27 J28 J29 J30 J31 J32 U33 U34;obtain ⟨W2,hW2,g2,q2,B2,hy2,ho2⟩:=sto2 HE.o (by omega) HB_Z.o (by decide) (.int .u64 r0) (.int .u64 r1);rw [←hW2];clear hW2;replace HE:=hid g2;replace HB_M:=hid (ho2 _ _ _ (by omega) HB_M.o);replace HB_X:=hid (ho2 _ _ _ (by omega) HB_X.o);replace HB_Y:=hid (ho2 _ _ _ (by omega) HB_Y.o);replace HB_Z:=hid B2;unfold EndPost;rw [HR.o];obtain ⟨J35,J36⟩:=HB_Z.o.c2;refine bodyPost_ret (v:=.tuple #[.agg #[.int .u64 r0,.int .u64 r1],.int .i64 1]) (by simp [results,Tryz.results94,go_sem,J35,J36]) rfl ⟨by (show _=Ending.returned (.tuple #[Word (nanw E P),.int .i64 1]);rw [Er.o]),HE.o⟩
   ·have HR:Hid (addR E P b m 3 true qx 3 false qy l=(nanw E P,1)):=hid (by unfold addR;simp);obtain ⟨r0,r1,er⟩:=Word.shape (nanw E P);have Er:=hid er;clear er;obtain ⟨J1,J2,J3,J4⟩:=HB_M.o.c4;obtain ⟨J5,J6,J7,J8,J9⟩:=HB_X.o.c5;obtain ⟨J10,J11,J12,J13,J14⟩:=HB_Y.o.c5;obtain ⟨J15,J16⟩:=HB_Z.o.c2;go_wp2_with fail;clear J1 J2 J3 J4 J5 J6 J7 J8 J9 J10 J11 J12 J13 J14 J15 J16;refine (invalid_c E P m b _ HF.o).mono ?_;rintro e w1 ⟨rfl,g1⟩;have hz_w1:=g1.size;replace HE:=hid (HE.o.trans g1);replace HB_M:=hid (HB_M.o.ext g1);replace HB_X:=hid (HB_X.o.ext g1);replace HB_Y:=hid (HB_Y.o.ext g1);replace HB_Z:=hid (HB_Z.o.ext g1);rw [Er.o];obtain ⟨J17,J18,J19,J20⟩:=HB_M.o.c4;obtain ⟨J21,J22,J23,J24,J25⟩:=HB_X.o.c5;obtain ⟨J26,J27,J28,J29,J30⟩:=HB_Y.o.c5;obtain ⟨J31,J32⟩:=HB_Z.o.c2;obtain ⟨U33,U34⟩:=HB_Z.o.f2;go_wp2_with fail;clear J17 J18 J19 J20 J21 J22 J23 J24 J25 J26 J27 J28 J29 J30 J31 J32 U33 U34;obtain ⟨W2,hW2,g2,q2,B2,hy2,ho2⟩:=sto2 HE.o (by omega) HB_Z.o (by decide) (.int .u64 r0) (.int .u64 r1);rw [←hW2];clear hW2;replace HE:=hid g2;replace HB_M:=hid (ho2 _ _ _ (by omega) HB_M.o);replace HB_X:=hid (ho2 _ _ _ (by omega) HB_X.o);replace HB_Y:=hid (ho2 _ _ _ (by omega) HB_Y.o);replace HB_Z:=hid B2;unfold EndPost;rw [HR.o];obtain ⟨J35,J36⟩:=HB_Z.o.c2;refine bodyPost_ret (v:=.tuple #[.agg #[.int .u64 r0,.int .u64 r1],.int .i64 1]) (by simp [results,Tryz.results94,go_sem,J35,J36]) rfl ⟨by (show _=Ending.returned (.tuple #[Word (nanw E P),.int .i64 1]);rw [Er.o]),HE.o⟩
   ·have HR:Hid (addR E P b m 3 true qx 3 true qy l=(infw E P true,0)):=hid (by unfold addR;simp);obtain ⟨r0,r1,er⟩:=Word.shape (infw E P true);have Er:=hid er;clear er;obtain ⟨J1,J2,J3,J4⟩:=HB_M.o.c4;obtain ⟨J5,J6,J7,J8,J9⟩:=HB_X.o.c5;obtain ⟨J10,J11,J12,J13,J14⟩:=HB_Y.o.c5;obtain ⟨J15,J16⟩:=HB_Z.o.c2;go_wp2_with fail;clear J1 J2 J3 J4 J5 J6 J7 J8 J9 J10 J11 J12 J13 J14 J15 J16;refine (infinite_c E P m b true _ HF.o).mono ?_;rintro e w1 ⟨rfl,g1⟩;have hz_w1:=g1.size;replace HE:=hid (HE.o.trans g1);replace HB_M:=hid (HB_M.o.ext g1);replace HB_X:=hid (HB_X.o.ext g1);replace HB_Y:=hid (HB_Y.o.ext g1);replace HB_Z:=hid (HB_Z.o.ext g1);rw [Er.o];obtain ⟨J17,J18,J19,J20⟩:=HB_M.o.c4;obtain ⟨J21,J22,J23,J24,J25⟩:=HB_X.o.c5;obtain ⟨J26,J27,J28,J29,J30⟩:=HB_Y.o.c5;obtain ⟨J31,J32⟩:=HB_Z.o.c2;obtain ⟨U33,U34⟩:=HB_Z.o.f2;go_wp2_with fail;clear J17 J18 J19 J20 J21 J22 J23 J24 J25 J26 J27 J28 J29 J30 J31 J32 U33 U34;obtain ⟨W2,hW2,g2,q2,B2,hy2,ho2⟩:=sto2 HE.o (by omega) HB_Z.o (by decide) (.int .u64 r0) (.int .u64 r1);rw [←hW2];clear hW2;replace HE:=hid g2;replace HB_M:=hid (ho2 _ _ _ (by omega) HB_M.o);replace HB_X:=hid (ho2 _ _ _ (by omega) HB_X.o);replace HB_Y:=hid (ho2 _ _ _ (by omega) HB_Y.o);replace HB_Z:=hid B2;unfold EndPost;rw [HR.o];obtain ⟨J35,J36⟩:=HB_Z.o.c2;refine bodyPost_ret (v:=.tuple #[.agg #[.int .u64 r0,.int .u64 r1],.int .i64 0]) (by simp [results,Tryz.results94,go_sem,J35,J36]) rfl ⟨by (show _=Ending.returned (.tuple #[Word (infw E P true),.int .i64 0]);rw [Er.o]),HE.o⟩
  ·have hk:(ky==3)=false:=beq_eq_false_iff_ne.2 hy3;have HR:Hid (addR E P b m 3 nx qx ky ny qy l=(infw E P nx,0)):=hid (by unfold addR;rw [if_neg (fun h=>hy3 h.2.1),if_pos rfl]);obtain ⟨r0,r1,er⟩:=Word.shape (infw E P nx);have Er:=hid er;clear er hy3;obtain ⟨J1,J2,J3,J4⟩:=HB_M.o.c4;obtain ⟨J5,J6,J7,J8,J9⟩:=HB_X.o.c5;obtain ⟨J10,J11,J12,J13,J14⟩:=HB_Y.o.c5;obtain ⟨J15,J16⟩:=HB_Z.o.c2;go_wp2_with fail;clear J1 J2 J3 J4 J5 J6 J7 J8 J9 J10 J11 J12 J13 J14 J15 J16;refine (infinite_c E P m b nx _ HF.o).mono ?_;rintro e w1 ⟨rfl,g1⟩;have hz_w1:=g1.size;replace HE:=hid (HE.o.trans g1);replace HB_M:=hid (HB_M.o.ext g1);replace HB_X:=hid (HB_X.o.ext g1);replace HB_Y:=hid (HB_Y.o.ext g1);replace HB_Z:=hid (HB_Z.o.ext g1);rw [Er.o];obtain ⟨J17,J18,J19,J20⟩:=HB_M.o.c4;obtain ⟨J21,J22,J23,J24,J25⟩:=HB_X.o.c5;obtain ⟨J26,J27,J28,J29,J30⟩:=HB_Y.o.c5;obtain ⟨J31,J32⟩:=HB_Z.o.c2;obtain ⟨U33,U34⟩:=HB_Z.o.f2;go_wp2_with fail;clear J17 J18 J19 J20 J21 J22 J23 J24 J25 J26 J27 J28 J29 J30 J31 J32 U33 U34;obtain ⟨W2,hW2,g2,q2,B2,hy2,ho2⟩:=sto2 HE.o (by omega) HB_Z.o (by decide) (.int .u64 r0) (.int .u64 r1);rw [←hW2];clear hW2;replace HE:=hid g2;replace HB_M:=hid (ho2 _ _ _ (by omega) HB_M.o);replace HB_X:=hid (ho2 _ _ _ (by omega) HB_X.o);replace HB_Y:=hid (ho2 _ _ _ (by omega) HB_Y.o);replace HB_Z:=hid B2;unfold EndPost;rw [HR.o];obtain ⟨J35,J36⟩:=HB_Z.o.c2;refine bodyPost_ret (v:=.tuple #[.agg #[.int .u64 r0,.int .u64 r1],.int .i64 0]) (by simp [results,Tryz.results94,go_sem,J35,J36]) rfl ⟨by (show _=Ending.returned (.tuple #[Word (infw E P nx),.int .i64 0]);rw [Er.o]),HE.o⟩
 ·have hk:(kx==3)=false:=beq_eq_false_iff_ne.2 hx3
  by_cases hy3:ky=3
  ·subst hy3;have HR:Hid (addR E P b m kx nx qx 3 ny qy l=(infw E P ny,0)):=hid (by unfold addR;rw [if_neg (fun h=>hx3 h.1),if_neg hx3,if_pos rfl]);obtain ⟨r0,r1,er⟩:=Word.shape (infw E P ny);have Er:=hid er;clear er hx3;obtain ⟨J1,J2,J3,J4⟩:=HB_M.o.c4;obtain ⟨J5,J6,J7,J8,J9⟩:=HB_X.o.c5;obtain ⟨J10,J11,J12,J13,J14⟩:=HB_Y.o.c5;obtain ⟨J15,J16⟩:=HB_Z.o.c2;go_wp2_with fail;clear J1 J2 J3 J4 J5 J6 J7 J8 J9 J10 J11 J12 J13 J14 J15 J16;refine (infinite_c E P m b ny _ HF.o).mono ?_;rintro e w1 ⟨rfl,g1⟩;have hz_w1:=g1.size;replace HE:=hid (HE.o.trans g1);replace HB_M:=hid (HB_M.o.ext g1);replace HB_X:=hid (HB_X.o.ext g1);replace HB_Y:=hid (HB_Y.o.ext g1);replace HB_Z:=hid (HB_Z.o.ext g1);rw [Er.o];obtain ⟨J17,J18,J19,J20⟩:=HB_M.o.c4;obtain ⟨J21,J22,J23,J24,J25⟩:=HB_X.o.c5;obtain ⟨J26,J27,J28,J29,J30⟩:=HB_Y.o.c5;obtain ⟨J31,J32⟩:=HB_Z.o.c2;obtain ⟨U33,U34⟩:=HB_Z.o.f2;go_wp2_with fail;clear J17 J18 J19 J20 J21 J22 J23 J24 J25 J26 J27 J28 J29 J30 J31 J32 U33 U34;obtain ⟨W2,hW2,g2,q2,B2,hy2,ho2⟩:=sto2 HE.o (by omega) HB_Z.o (by decide) (.int .u64 r0) (.int .u64 r1);rw [←hW2];clear hW2;replace HE:=hid g2;replace HB_M:=hid (ho2 _ _ _ (by omega) HB_M.o);replace HB_X:=hid (ho2 _ _ _ (by omega) HB_X.o);replace HB_Y:=hid (ho2 _ _ _ (by omega) HB_Y.o);replace HB_Z:=hid B2;unfold EndPost;rw [HR.o];obtain ⟨J35,J36⟩:=HB_Z.o.c2;refine bodyPost_ret (v:=.tuple #[.agg #[.int .u64 r0,.int .u64 r1],.int .i64 0]) (by simp [results,Tryz.results94,go_sem,J35,J36]) rfl ⟨by (show _=Ending.returned (.tuple #[Word (infw E P ny),.int .i64 0]);rw [Er.o]),HE.o⟩
  ·have hk2:(ky==3)=false:=beq_eq_false_iff_ne.2 hy3;have HR0:Hid (addR E P b m kx nx qx ky ny qy l=if qx+qy≠0 then roundR E P b m (qx+qy) l else if kx=1∧nx=ny then (sgb E P nx,0) else (sgb E P (decide (m=4)),0)):=hid (by unfold addR;rw [if_neg (fun h=>hx3 h.1),if_neg hx3,if_neg hy3]);clear hx3 hy3;have hvx:=HX.o.ext HE.o;have hvy:=HY.o.ext HE.o;obtain ⟨J1,J2,J3,J4⟩:=HB_M.o.c4;obtain ⟨J5,J6,J7,J8,J9⟩:=HB_X.o.c5;obtain ⟨J10,J11,J12,J13,J14⟩:=HB_Y.o.c5;obtain ⟨J15,J16⟩:=HB_Z.o.c2;go_wp2_with fail;clear J1 J2 J3 J4 J5 J6 J7 J8 J9 J10 J11 J12 J13 J14 J15 J16;refine (Add_c _ _ qx qy K _ hvx hvy SX.o SY.o (by have:=HK.o;omega)).mono ?_;rintro e w1 ⟨v1,rfl,k1,g1⟩;have hz_w1:=g1.size;replace HE:=hid (HE.o.trans g1);replace HB_M:=hid (HB_M.o.ext g1);replace HB_X:=hid (HB_X.o.ext g1);replace HB_Y:=hid (HB_Y.o.ext g1);replace HB_Z:=hid (HB_Z.o.ext g1);obtain ⟨ngq17,aq17,nq17,cq17,aq17',nq17',cq17',rfl⟩:=k1.shape;have gA:=Ext.alloc w1 (.cells #[.bool ngq17,.slice aq17 nq17 cq17,.slice aq17' nq17' cq17'] 40);obtain ⟨J18,J19,J20,J21⟩:=(HB_M.o.ext gA).c4;obtain ⟨J22,J23,J24,J25,J26⟩:=(HB_X.o.ext gA).c5;obtain ⟨J27,J28,J29,J30,J31⟩:=(HB_Y.o.ext gA).c5;obtain ⟨J32,J33⟩:=(HB_Z.o.ext gA).c2;go_wp2_with fail;clear gA J18 J19 J20 J21 J22 J23 J24 J25 J26 J27 J28 J29 J30 J31 J32 J33;obtain ⟨W2,hW2,g2,hy2,B_S⟩:=pro1 w1 #[.bool ngq17,.slice aq17 nq17 cq17,.slice aq17' nq17' cq17'] 40;rw [←hW2];clear hW2;have hz_W2:=g2.size;replace HE:=hid (HE.o.trans g2);replace HB_M:=hid (HB_M.o.ext g2);replace HB_X:=hid (HB_X.o.ext g2);replace HB_Y:=hid (HB_Y.o.ext g2);replace HB_Z:=hid (HB_Z.o.ext g2);replace k1:=k1.ext g2;have HB_S:=hid B_S;clear B_S
   by_cases hs:(qx+qy).num=0
   ·have h0:qx+qy=0:=Rat.num_eq_zero.1 hs;have HR1:Hid (addR E P b m kx nx qx ky ny qy l=if kx=1∧nx=ny then (sgb E P nx,0) else (sgb E P (decide (m=4)),0)):=hid (by rw [HR0.o,if_neg (fun h=>h h0)]);have Hs:Hid ((qx+qy).num.sign=0):=hid (by rw [hs];rfl);clear hs h0;refine (sign_c _ _ _ k1).mono ?_;rintro e w3 ⟨rfl,g3⟩;have hz_w3:=g3.size;replace HE:=hid (HE.o.trans g3);replace HB_M:=hid (HB_M.o.ext g3);replace HB_X:=hid (HB_X.o.ext g3);replace HB_Y:=hid (HB_Y.o.ext g3);replace HB_Z:=hid (HB_Z.o.ext g3);replace HB_S:=hid (HB_S.o.ext g3);replace k1:=k1.ext g3;rw [Hs.o]
    by_cases hx1:kx=1
    ·subst hx1
     cases nx<;>cases ny
     ·have HR:Hid (addR E P b m 1 false qx ky false qy l=(sgb E P false,0)):=hid (by rw [HR1.o];simp);obtain ⟨r0,r1,er⟩:=Word.shape (sgb E P false);have Er:=hid er;clear er;obtain ⟨J34,J35,J36,J37⟩:=HB_M.o.c4;obtain ⟨J38,J39,J40,J41,J42⟩:=HB_X.o.c5;obtain ⟨J43,J44,J45,J46,J47⟩:=HB_Y.o.c5;obtain ⟨J48,J49⟩:=HB_Z.o.c2;obtain ⟨J50,J51,J52⟩:=HB_S.o.c3;go_wp2_with fail;clear J34 J35 J36 J37 J38 J39 J40 J41 J42 J43 J44 J45 J46 J47 J48 J49 J50 J51 J52;refine (zero_c E P m b false _ HF.o).mono ?_;rintro e w4 ⟨rfl,g4⟩;have hz_w4:=g4.size;replace HE:=hid (HE.o.trans g4);replace HB_M:=hid (HB_M.o.ext g4);replace HB_X:=hid (HB_X.o.ext g4);replace HB_Y:=hid (HB_Y.o.ext g4);replace HB_Z:=hid (HB_Z.o.ext g4);replace HB_S:=hid (HB_S.o.ext g4);replace k1:=k1.ext g4;rw [Er.o];obtain ⟨J53,J54,J55,J56⟩:=HB_M.o.c4;obtain ⟨J57,J58,J59,J60,J61⟩:=HB_X.o.c5;obtain ⟨J62,J63,J64,J65,J66⟩:=HB_Y.o.c5;obtain ⟨J67,J68⟩:=HB_Z.o.c2;obtain ⟨J69,J70,J71⟩:=HB_S.o.c3;obtain ⟨U72,U73⟩:=HB_Z.o.f2;go_wp2_with fail;clear J53 J54 J55 J56 J57 J58 J59 J60 J61 J62 J63 J64 J65 J66 J67 J68 J69 J70 J71 U72 U73;obtain ⟨W5,hW5,g5,q5,B5,hy5,ho5⟩:=sto2 HE.o (by omega) HB_Z.o (by decide) (.int .u64 r0) (.int .u64 r1);rw [←hW5];clear hW5;replace HE:=hid g5;replace HB_M:=hid (ho5 _ _ _ (by omega) HB_M.o);replace HB_X:=hid (ho5 _ _ _ (by omega) HB_X.o);replace HB_Y:=hid (ho5 _ _ _ (by omega) HB_Y.o);replace HB_S:=hid (ho5 _ _ _ (by omega) HB_S.o);replace HB_Z:=hid B5;replace k1:=k1.keep q5;unfold EndPost;rw [HR.o];obtain ⟨J74,J75⟩:=HB_Z.o.c2;refine bodyPost_ret (v:=.tuple #[.agg #[.int .u64 r0,.int .u64 r1],.int .i64 0]) (by simp [results,Tryz.results94,go_sem,J74,J75]) rfl ⟨by (show _=Ending.returned (.tuple #[Word (sgb E P false),.int .i64 0]);rw [Er.o]),HE.o⟩
     ·have HR:Hid (addR E P b m 1 false qx ky true qy l=(sgb E P (decide (m=4)),0)):=hid (by rw [HR1.o];simp);obtain ⟨r0,r1,er⟩:=Word.shape (sgb E P (decide (m=4)));have Er:=hid er;clear er;have hm4:((m:Int)==4)=decide (m=4):=by by_cases h:m=4<;>simp [h]<;>omega
      have zm:Hid (∀ w,_):=hid fun w=>zero_c E P m b (decide (m=4)) w HF.o;obtain ⟨J34,J35,J36,J37⟩:=HB_M.o.c4;obtain ⟨J38,J39,J40,J41,J42⟩:=HB_X.o.c5;obtain ⟨J43,J44,J45,J46,J47⟩:=HB_Y.o.c5;obtain ⟨J48,J49⟩:=HB_Z.o.c2;obtain ⟨J50,J51,J52⟩:=HB_S.o.c3;go_wp2_with fail;clear J34 J35 J36 J37 J38 J39 J40 J41 J42 J43 J44 J45 J46 J47 J48 J49 J50 J51 J52;refine (zm.o _).mono ?_;rintro e w4 ⟨rfl,g4⟩;have hz_w4:=g4.size;replace HE:=hid (HE.o.trans g4);replace HB_M:=hid (HB_M.o.ext g4);replace HB_X:=hid (HB_X.o.ext g4);replace HB_Y:=hid (HB_Y.o.ext g4);replace HB_Z:=hid (HB_Z.o.ext g4);replace HB_S:=hid (HB_S.o.ext g4);replace k1:=k1.ext g4;rw [Er.o];obtain ⟨J53,J54,J55,J56⟩:=HB_M.o.c4;obtain ⟨J57,J58,J59,J60,J61⟩:=HB_X.o.c5;obtain ⟨J62,J63,J64,J65,J66⟩:=HB_Y.o.c5;obtain ⟨J67,J68⟩:=HB_Z.o.c2;obtain ⟨J69,J70,J71⟩:=HB_S.o.c3;obtain ⟨U72,U73⟩:=HB_Z.o.f2;go_wp2_with fail;clear J53 J54 J55 J56 J57 J58 J59 J60 J61 J62 J63 J64 J65 J66 J67 J68 J69 J70 J71 U72 U73;obtain ⟨W5,hW5,g5,q5,B5,hy5,ho5⟩:=sto2 HE.o (by omega) HB_Z.o (by decide) (.int .u64 r0) (.int .u64 r1);rw [←hW5];clear hW5;replace HE:=hid g5;replace HB_M:=hid (ho5 _ _ _ (by omega) HB_M.o);replace HB_X:=hid (ho5 _ _ _ (by omega) HB_X.o);replace HB_Y:=hid (ho5 _ _ _ (by omega) HB_Y.o);replace HB_S:=hid (ho5 _ _ _ (by omega) HB_S.o);replace HB_Z:=hid B5;replace k1:=k1.keep q5;unfold EndPost;rw [HR.o];obtain ⟨J74,J75⟩:=HB_Z.o.c2;refine bodyPost_ret (v:=.tuple #[.agg #[.int .u64 r0,.int .u64 r1],.int .i64 0]) (by simp [results,Tryz.results94,go_sem,J74,J75]) rfl ⟨by (show _=Ending.returned (.tuple #[Word (sgb E P (decide (m=4))),.int .i64 0]);rw [Er.o]),HE.o⟩
     ·have HR:Hid (addR E P b m 1 true qx ky false qy l=(sgb E P (decide (m=4)),0)):=hid (by rw [HR1.o];simp);obtain ⟨r0,r1,er⟩:=Word.shape (sgb E P (decide (m=4)));have Er:=hid er;clear er;have hm4:((m:Int)==4)=decide (m=4):=by by_cases h:m=4<;>simp [h]<;>omega
      have zm:Hid (∀ w,_):=hid fun w=>zero_c E P m b (decide (m=4)) w HF.o;obtain ⟨J34,J35,J36,J37⟩:=HB_M.o.c4;obtain ⟨J38,J39,J40,J41,J42⟩:=HB_X.o.c5;obtain ⟨J43,J44,J45,J46,J47⟩:=HB_Y.o.c5;obtain ⟨J48,J49⟩:=HB_Z.o.c2;obtain ⟨J50,J51,J52⟩:=HB_S.o.c3;go_wp2_with fail;clear J34 J35 J36 J37 J38 J39 J40 J41 J42 J43 J44 J45 J46 J47 J48 J49 J50 J51 J52;refine (zm.o _).mono ?_;rintro e w4 ⟨rfl,g4⟩;have hz_w4:=g4.size;replace HE:=hid (HE.o.trans g4);replace HB_M:=hid (HB_M.o.ext g4);replace HB_X:=hid (HB_X.o.ext g4);replace HB_Y:=hid (HB_Y.o.ext g4);replace HB_Z:=hid (HB_Z.o.ext g4);replace HB_S:=hid (HB_S.o.ext g4);replace k1:=k1.ext g4;rw [Er.o];obtain ⟨J53,J54,J55,J56⟩:=HB_M.o.c4;obtain ⟨J57,J58,J59,J60,J61⟩:=HB_X.o.c5;obtain ⟨J62,J63,J64,J65,J66⟩:=HB_Y.o.c5;obtain ⟨J67,J68⟩:=HB_Z.o.c2;obtain ⟨J69,J70,J71⟩:=HB_S.o.c3;obtain ⟨U72,U73⟩:=HB_Z.o.f2;go_wp2_with fail;clear J53 J54 J55 J56 J57 J58 J59 J60 J61 J62 J63 J64 J65 J66 J67 J68 J69 J70 J71 U72 U73;obtain ⟨W5,hW5,g5,q5,B5,hy5,ho5⟩:=sto2 HE.o (by omega) HB_Z.o (by decide) (.int .u64 r0) (.int .u64 r1);rw [←hW5];clear hW5;replace HE:=hid g5;replace HB_M:=hid (ho5 _ _ _ (by omega) HB_M.o);replace HB_X:=hid (ho5 _ _ _ (by omega) HB_X.o);replace HB_Y:=hid (ho5 _ _ _ (by omega) HB_Y.o);replace HB_S:=hid (ho5 _ _ _ (by omega) HB_S.o);replace HB_Z:=hid B5;replace k1:=k1.keep q5;unfold EndPost;rw [HR.o];obtain ⟨J74,J75⟩:=HB_Z.o.c2;refine bodyPost_ret (v:=.tuple #[.agg #[.int .u64 r0,.int .u64 r1],.int .i64 0]) (by simp [results,Tryz.results94,go_sem,J74,J75]) rfl ⟨by (show _=Ending.returned (.tuple #[Word (sgb E P (decide (m=4))),.int .i64 0]);rw [Er.o]),HE.o⟩
     ·have HR:Hid (addR E P b m 1 true qx ky true qy l=(sgb E P true,0)):=hid (by rw [HR1.o];simp);obtain ⟨r0,r1,er⟩:=Word.shape (sgb E P true);have Er:=hid er;clear er;obtain ⟨J34,J35,J36,J37⟩:=HB_M.o.c4;obtain ⟨J38,J39,J40,J41,J42⟩:=HB_X.o.c5;obtain ⟨J43,J44,J45,J46,J47⟩:=HB_Y.o.c5;obtain ⟨J48,J49⟩:=HB_Z.o.c2;obtain ⟨J50,J51,J52⟩:=HB_S.o.c3;go_wp2_with fail;clear J34 J35 J36 J37 J38 J39 J40 J41 J42 J43 J44 J45 J46 J47 J48 J49 J50 J51 J52;refine (zero_c E P m b true _ HF.o).mono ?_;rintro e w4 ⟨rfl,g4⟩;have hz_w4:=g4.size;replace HE:=hid (HE.o.trans g4);replace HB_M:=hid (HB_M.o.ext g4);replace HB_X:=hid (HB_X.o.ext g4);replace HB_Y:=hid (HB_Y.o.ext g4);replace HB_Z:=hid (HB_Z.o.ext g4);replace HB_S:=hid (HB_S.o.ext g4);replace k1:=k1.ext g4;rw [Er.o];obtain ⟨J53,J54,J55,J56⟩:=HB_M.o.c4;obtain ⟨J57,J58,J59,J60,J61⟩:=HB_X.o.c5;obtain ⟨J62,J63,J64,J65,J66⟩:=HB_Y.o.c5;obtain ⟨J67,J68⟩:=HB_Z.o.c2;obtain ⟨J69,J70,J71⟩:=HB_S.o.c3;obtain ⟨U72,U73⟩:=HB_Z.o.f2;go_wp2_with fail;clear J53 J54 J55 J56 J57 J58 J59 J60 J61 J62 J63 J64 J65 J66 J67 J68 J69 J70 J71 U72 U73;obtain ⟨W5,hW5,g5,q5,B5,hy5,ho5⟩:=sto2 HE.o (by omega) HB_Z.o (by decide) (.int .u64 r0) (.int .u64 r1);rw [←hW5];clear hW5;replace HE:=hid g5;replace HB_M:=hid (ho5 _ _ _ (by omega) HB_M.o);replace HB_X:=hid (ho5 _ _ _ (by omega) HB_X.o);replace HB_Y:=hid (ho5 _ _ _ (by omega) HB_Y.o);replace HB_S:=hid (ho5 _ _ _ (by omega) HB_S.o);replace HB_Z:=hid B5;replace k1:=k1.keep q5;unfold EndPost;rw [HR.o];obtain ⟨J74,J75⟩:=HB_Z.o.c2;refine bodyPost_ret (v:=.tuple #[.agg #[.int .u64 r0,.int .u64 r1],.int .i64 0]) (by simp [results,Tryz.results94,go_sem,J74,J75]) rfl ⟨by (show _=Ending.returned (.tuple #[Word (sgb E P true),.int .i64 0]);rw [Er.o]),HE.o⟩
    ·have hk1:(kx==1)=false:=beq_eq_false_iff_ne.2 hx1;have HR:Hid (addR E P b m kx nx qx ky ny qy l=(sgb E P (decide (m=4)),0)):=hid (by rw [HR1.o,if_neg (fun h=>hx1 h.1)]);obtain ⟨r0,r1,er⟩:=Word.shape (sgb E P (decide (m=4)));have Er:=hid er;have hm4:((m:Int)==4)=decide (m=4):=by by_cases h:m=4<;>simp [h]<;>omega
     have zm:Hid (∀ w,_):=hid fun w=>zero_c E P m b (decide (m=4)) w HF.o;clear er hx1;obtain ⟨J34,J35,J36,J37⟩:=HB_M.o.c4;obtain ⟨J38,J39,J40,J41,J42⟩:=HB_X.o.c5;obtain ⟨J43,J44,J45,J46,J47⟩:=HB_Y.o.c5;obtain ⟨J48,J49⟩:=HB_Z.o.c2;obtain ⟨J50,J51,J52⟩:=HB_S.o.c3;go_wp2_with fail;clear J34 J35 J36 J37 J38 J39 J40 J41 J42 J43 J44 J45 J46 J47 J48 J49 J50 J51 J52;refine (zm.o _).mono ?_;rintro e w4 ⟨rfl,g4⟩;have hz_w4:=g4.size;replace HE:=hid (HE.o.trans g4);replace HB_M:=hid (HB_M.o.ext g4);replace HB_X:=hid (HB_X.o.ext g4);replace HB_Y:=hid (HB_Y.o.ext g4);replace HB_Z:=hid (HB_Z.o.ext g4);replace HB_S:=hid (HB_S.o.ext g4);replace k1:=k1.ext g4;rw [Er.o];obtain ⟨J53,J54,J55,J56⟩:=HB_M.o.c4;obtain ⟨J57,J58,J59,J60,J61⟩:=HB_X.o.c5;obtain ⟨J62,J63,J64,J65,J66⟩:=HB_Y.o.c5;obtain ⟨J67,J68⟩:=HB_Z.o.c2;obtain ⟨J69,J70,J71⟩:=HB_S.o.c3;obtain ⟨U72,U73⟩:=HB_Z.o.f2;go_wp2_with fail;clear J53 J54 J55 J56 J57 J58 J59 J60 J61 J62 J63 J64 J65 J66 J67 J68 J69 J70 J71 U72 U73;obtain ⟨W5,hW5,g5,q5,B5,hy5,ho5⟩:=sto2 HE.o (by omega) HB_Z.o (by decide) (.int .u64 r0) (.int .u64 r1);rw [←hW5];clear hW5;replace HE:=hid g5;replace HB_M:=hid (ho5 _ _ _ (by omega) HB_M.o);replace HB_X:=hid (ho5 _ _ _ (by omega) HB_X.o);replace HB_Y:=hid (ho5 _ _ _ (by omega) HB_Y.o);replace HB_S:=hid (ho5 _ _ _ (by omega) HB_S.o);replace HB_Z:=hid B5;replace k1:=k1.keep q5;unfold EndPost;rw [HR.o];obtain ⟨J74,J75⟩:=HB_Z.o.c2;refine bodyPost_ret (v:=.tuple #[.agg #[.int .u64 r0,.int .u64 r1],.int .i64 0]) (by simp [results,Tryz.results94,go_sem,J74,J75]) rfl ⟨by (show _=Ending.returned (.tuple #[Word (sgb E P (decide (m=4))),.int .i64 0]);rw [Er.o]),HE.o⟩
   ·have h0:qx+qy≠0:=fun h=>hs (by rw [h];rfl);have HR:Hid (addR E P b m kx nx qx ky ny qy l=roundR E P b m (qx+qy) l):=hid (by rw [HR0.o,if_pos h0]);have HS:Hid ((qx+qy).num≠0):=hid hs;have hs0:((qx+qy).num.sign==0)=false:=beq_eq_false_iff_ne.2 (fun h=>hs (Int.sign_eq_zero_iff_zero.1 h));have HL2:=hid (HL.o h0);obtain ⟨r0,r1,er⟩:=Word.shape (roundR E P b m (qx+qy) l).1;have Er:=hid er;clear er hs h0;refine (sign_c _ _ _ k1).mono ?_;rintro e w3 ⟨rfl,g3⟩;have hz_w3:=g3.size;replace HE:=hid (HE.o.trans g3);replace HB_M:=hid (HB_M.o.ext g3);replace HB_X:=hid (HB_X.o.ext g3);replace HB_Y:=hid (HB_Y.o.ext g3);replace HB_Z:=hid (HB_Z.o.ext g3);replace HB_S:=hid (HB_S.o.ext g3);replace k1:=k1.ext g3;obtain ⟨J34,J35,J36,J37⟩:=HB_M.o.c4;obtain ⟨J38,J39,J40,J41,J42⟩:=HB_X.o.c5;obtain ⟨J43,J44,J45,J46,J47⟩:=HB_Y.o.c5;obtain ⟨J48,J49⟩:=HB_Z.o.c2;obtain ⟨J50,J51,J52⟩:=HB_S.o.c3;go_wp2_with fail;clear J34 J35 J36 J37 J38 J39 J40 J41 J42 J43 J44 J45 J46 J47 J48 J49 J50 J51 J52;refine (round_c E P b m _ (qx+qy) l (2*K+1) _ HF.o HM.o HB.o k1 SS.o (by have:=HK.o;omega) HS.o HL2.o (HT.o.ext HE.o)).mono ?_;rintro e w4 ⟨rfl,g4⟩;have hz_w4:=g4.size;replace HE:=hid (HE.o.trans g4);replace HB_M:=hid (HB_M.o.ext g4);replace HB_X:=hid (HB_X.o.ext g4);replace HB_Y:=hid (HB_Y.o.ext g4);replace HB_Z:=hid (HB_Z.o.ext g4);replace HB_S:=hid (HB_S.o.ext g4);replace k1:=k1.ext g4;rw [Er.o];obtain ⟨J53,J54,J55,J56⟩:=HB_M.o.c4;obtain ⟨J57,J58,J59,J60,J61⟩:=HB_X.o.c5;obtain ⟨J62,J63,J64,J65,J66⟩:=HB_Y.o.c5;obtain ⟨J67,J68⟩:=HB_Z.o.c2;obtain ⟨J69,J70,J71⟩:=HB_S.o.c3;obtain ⟨U72,U73⟩:=HB_Z.o.f2;go_wp2_with fail;clear J53 J54 J55 J56 J57 J58 J59 J60 J61 J62 J63 J64 J65 J66 J67 J68 J69 J70 J71 U72 U73;obtain ⟨W5,hW5,g5,q5,B5,hy5,ho5⟩:=sto2 HE.o (by omega) HB_Z.o (by decide) (.int .u64 r0) (.int .u64 r1);rw [←hW5];clear hW5;replace HE:=hid g5;replace HB_M:=hid (ho5 _ _ _ (by omega) HB_M.o);replace HB_X:=hid (ho5 _ _ _ (by omega) HB_X.o);replace HB_Y:=hid (ho5 _ _ _ (by omega) HB_Y.o);replace HB_S:=hid (ho5 _ _ _ (by omega) HB_S.o);replace HB_Z:=hid B5;replace k1:=k1.keep q5;unfold EndPost;rw [HR.o];obtain ⟨J74,J75⟩:=HB_Z.o.c2;refine bodyPost_ret (v:=.tuple #[.agg #[.int .u64 r0,.int .u64 r1],.int .i64 ((roundR E P b m (qx+qy) l).2:Nat)]) (by simp [results,Tryz.results94,go_sem,J74,J75]) rfl ⟨by rw [Er.o],HE.o⟩
theorem wkind_cases (E P n:Nat):wkind E P n=3∨wkind E P n=4∨wkind E P n=5∨wkind E P n=1∨wkind E P n=2:=by
 unfold wkind
 split
 ·split
  ·simp
  ·split<;>simp
 ·split<;>simp
def valueR (E P n:Nat):Rat×Int:=if ¬ n<2^(E+P) then (0,6) else if 2<wkind E P n then (0,4) else (wvalK E P (bias E) n,0)
def NumErr (q:Rat) (z:Int) (w:World) (e:Ending) (w':World):Prop:=∃ v,e=.returned (.tuple #[v,.int .i64 z])∧NumV w' v q∧Ext w w'
theorem Value_good (E P n:Nat) (w:World) (hF:Fmt E P) (hn:W128 n) :
  Calls Tryz.prog 18 #[.agg #[.int .i64 (E:Nat),.int .i64 (P:Nat)],Word n] w fun e w'=>NumErr (valueR E P n).1 (valueR E P n).2 w e w':=by
 obtain ⟨n0,hn0⟩:∃ n0:Nat,n0=n/18446744073709551616:=⟨_,rfl⟩;obtain ⟨n1,hn1⟩:∃ n1:Nat,n1=n%18446744073709551616:=⟨_,rfl⟩;have en:Word n=.agg #[.int .u64 n0,.int .u64 n1]:=by unfold Word;rw [←hn0,←hn1]
 have CL:Hid (∀ w,Calls Tryz.prog 69 #[.agg #[.int .i64 (E:Nat),.int .i64 (P:Nat),.int .i64 (0:Nat),.int .i64 (bias E:Nat)],.agg #[.int .u64 n0,.int .u64 n1]] w (LookPost (wkind E P n) (wn E P n) (wvalK E P (bias E) n) w)):=hid fun w=>by
  rw [←en];exact look_c E P 0 (bias E) n w hF (by
   have:2^(E-1)≤1024:=Nat.pow_le_pow_right (n:=2) (by decide) (show E-1≤10 by unfold Fmt at hF;omega)
   unfold bias;omega) hn
 rw [en];have HF:=hid hF;have HN:=hid hn;have HN0:=hid hn0;have HN1:=hid hn1;clear hF hn hn0 hn1 en;obtain ⟨W0,hW0,g0,hz0,B_F,B_W,B_Z⟩:=pro3s w #[.int .i64 (E:Nat),.int .i64 (P:Nat)] #[.int .u64 n0,.int .u64 n1] #[.bool false,.slice none 0 0,.slice none 0 0] 23 29 40;have HE:=hid g0;have HB_F:=hid B_F;have HB_W:=hid B_W;have HB_Z:=hid B_Z;clear g0 B_F B_W B_Z 
 go_enter Tryz.func18,Tryz.ntmps18
 go_upto_region 1 with (fail)
 rw [←hW0];clear hW0;obtain ⟨J1,J2⟩:=HB_F.o.c2;obtain ⟨J3,J4⟩:=HB_W.o.c2;obtain ⟨J5,J6,J7⟩:=HB_Z.o.c3;go_wp2_with fail;clear J1 J2 J3 J4 J5 J6 J7;obtain ⟨W1,hW1,g1,hy1,B_R⟩:=pro1 W0 #[.int .u64 n0,.int .u64 n1] 29;rw [←hW1];clear hW1;have hz_W1:=g1.size;replace HE:=hid (HE.o.trans g1);replace HB_F:=hid (HB_F.o.ext g1);replace HB_W:=hid (HB_W.o.ext g1);replace HB_Z:=hid (HB_Z.o.ext g1);have HB_R:=hid B_R;clear B_R;have HWS:Hid (WSl W1 (.slice (some ⟨W0.heap.size,0,none⟩) 1 1) [n]):=hid ⟨some ⟨W0.heap.size,0,none⟩,W0.heap.size,0,1,rfl,Nat.le_refl _,by decide,fun _=>rfl,fun x hx=>by
   rw [List.mem_singleton] at hx;rw [hx];exact HN.o,fun i hi=>by
   obtain rfl:i=0:=by simpa using hi
   refine ⟨?_,?_⟩
   ·have:=HB_R.o.cell 0;rw [HN0.o] at this;exact this
   ·have:=HB_R.o.cell 1;rw [HN1.o] at this;exact this⟩
 by_cases hfit:n<2^(E+P)
 ·have HW:Hid (withRes E P 0 [n]=.tuple #[.agg #[.int .i64 (E:Nat),.int .i64 (P:Nat),.int .i64 (0:Nat),.int .i64 (bias E:Nat)],.int .i64 0]):=hid (by unfold withRes;rw [if_pos (fun x hx=>by rw [List.mem_singleton] at hx;rw [hx];exact hfit)]);have Hfit:=hid hfit;clear hfit;refine (with_good E P 0 _ [n] _ (by decide) HF.o HWS.o).mono ?_;rintro e w2 ⟨rfl,g2⟩;have hz_w2:=g2.size;replace HE:=hid (HE.o.trans g2);replace HB_F:=hid (HB_F.o.ext g2);replace HB_W:=hid (HB_W.o.ext g2);replace HB_Z:=hid (HB_Z.o.ext g2);rw [HW.o];have gA:=Ext.alloc w2 (.cells #[.int .i64 (E:Nat),.int .i64 (P:Nat),.int .i64 0,.int .i64 (bias E:Nat)] 81);obtain ⟨J8,J9⟩:=(HB_F.o.ext gA).c2;obtain ⟨J10,J11⟩:=(HB_W.o.ext gA).c2;obtain ⟨J12,J13,J14⟩:=(HB_Z.o.ext gA).c3;go_wp2_with fail;clear gA J8 J9 J10 J11 J12 J13 J14;obtain ⟨W3,hW3,g3,hy3,B_M⟩:=pro1 w2 #[.int .i64 (E:Nat),.int .i64 (P:Nat),.int .i64 0,.int .i64 (bias E:Nat)] 81;rw [←hW3];clear hW3;have hz_W3:=g3.size;replace HE:=hid (HE.o.trans g3);replace HB_F:=hid (HB_F.o.ext g3);replace HB_W:=hid (HB_W.o.ext g3);replace HB_Z:=hid (HB_Z.o.ext g3);have HB_M:=hid B_M;clear B_M;refine (CL.o _).mono ?_;rintro e w4 ⟨v1,rfl,⟨ng,a,k,c,a',k',c',rfl,kv⟩,g4⟩;have hz_w4:=g4.size;replace HE:=hid (HE.o.trans g4);replace HB_F:=hid (HB_F.o.ext g4);replace HB_W:=hid (HB_W.o.ext g4);replace HB_Z:=hid (HB_Z.o.ext g4);replace HB_M:=hid (HB_M.o.ext g4);have HKd:Hid (wkind E P n=3∨wkind E P n=4∨wkind E P n=5∨wkind E P n=1∨wkind E P n=2):=hid (wkind_cases E P n);have HV:Hid (valueR E P n=if 2<wkind E P n then (0,4) else (wvalK E P (bias E) n,0)):=hid (by unfold valueR;rw [if_neg (fun h=>h Hfit.o)]);generalize wkind E P n=kd at *
  generalize wn E P n=sg at *
  by_cases h2:2<kd
  ·have hd:decide (2<kd)=true:=decide_eq_true h2;have HV2:Hid (valueR E P n=(0,4)):=hid (by rw [HV.o,if_pos h2]);clear h2;have gA:=Ext.alloc w4 (.cells #[.int .i64 kd,.bool sg,.bool ng,.slice a k c,.slice a' k' c'] 112);obtain ⟨J15,J16,J17⟩:=(HB_Z.o.ext gA).c3;obtain ⟨U18,U19,U20⟩:=(HB_Z.o.ext gA).f3;go_wp2_with fail;clear gA J15 J16 J17 U18 U19 U20;obtain ⟨W5,hW5,g5,hy5,B_X⟩:=pro1 w4 #[.int .i64 kd,.bool sg,.bool ng,.slice a k c,.slice a' k' c'] 112;rw [←hW5];clear hW5;have hz_W5:=g5.size;replace HE:=hid (HE.o.trans g5);replace HB_F:=hid (HB_F.o.ext g5);replace HB_W:=hid (HB_W.o.ext g5);replace HB_Z:=hid (HB_Z.o.ext g5);replace HB_M:=hid (HB_M.o.ext g5);replace kv:=kv.ext g5;have HB_X:=hid B_X;clear B_X;obtain ⟨W6,hW6,g6,q6,B6,hy6,ho6⟩:=sto3 HE.o (by omega) HB_Z.o (by decide) (.bool false) (.slice none 0 0) (.slice none 0 0);rw [←hW6];clear hW6;replace HE:=hid g6;replace HB_F:=hid (ho6 _ _ _ (by omega) HB_F.o);replace HB_W:=hid (ho6 _ _ _ (by omega) HB_W.o);replace HB_M:=hid (ho6 _ _ _ (by omega) HB_M.o);replace HB_X:=hid (ho6 _ _ _ (by omega) HB_X.o);replace HB_Z:=hid B6;replace kv:=kv.keep q6;unfold NumErr;rw [HV2.o];obtain ⟨J21,J22,J23⟩:=HB_Z.o.c3;refine bodyPost_ret (v:=.tuple #[.agg #[.bool false,.slice none 0 0,.slice none 0 0],.int .i64 4]) (by simp [results,Tryz.results18,go_sem,J21,J22,J23]) rfl ⟨_,rfl,NumV.zero _,HE.o⟩
  ·have hd:decide (2<kd)=false:=decide_eq_false h2;have HV2:Hid (valueR E P n=(wvalK E P (bias E) n,0)):=hid (by rw [HV.o,if_neg h2]);clear h2;have gA:=Ext.alloc w4 (.cells #[.int .i64 kd,.bool sg,.bool ng,.slice a k c,.slice a' k' c'] 112);obtain ⟨J15,J16,J17⟩:=(HB_Z.o.ext gA).c3;obtain ⟨U18,U19,U20⟩:=(HB_Z.o.ext gA).f3;go_wp2_with fail;clear gA J15 J16 J17 U18 U19 U20;obtain ⟨W5,hW5,g5,hy5,B_X⟩:=pro1 w4 #[.int .i64 kd,.bool sg,.bool ng,.slice a k c,.slice a' k' c'] 112;rw [←hW5];clear hW5;have hz_W5:=g5.size;replace HE:=hid (HE.o.trans g5);replace HB_F:=hid (HB_F.o.ext g5);replace HB_W:=hid (HB_W.o.ext g5);replace HB_Z:=hid (HB_Z.o.ext g5);replace HB_M:=hid (HB_M.o.ext g5);replace kv:=kv.ext g5;have HB_X:=hid B_X;clear B_X;obtain ⟨W6,hW6,g6,q6,B6,hy6,ho6⟩:=sto3 HE.o (by omega) HB_Z.o (by decide) (.bool ng) (.slice a k c) (.slice a' k' c');rw [←hW6];clear hW6;replace HE:=hid g6;replace HB_F:=hid (ho6 _ _ _ (by omega) HB_F.o);replace HB_W:=hid (ho6 _ _ _ (by omega) HB_W.o);replace HB_M:=hid (ho6 _ _ _ (by omega) HB_M.o);replace HB_X:=hid (ho6 _ _ _ (by omega) HB_X.o);replace HB_Z:=hid B6;replace kv:=kv.keep q6;unfold NumErr;rw [HV2.o];obtain ⟨J21,J22,J23⟩:=HB_Z.o.c3;refine bodyPost_ret (v:=.tuple #[.agg #[.bool ng,.slice a k c,.slice a' k' c'],.int .i64 0]) (by simp [results,Tryz.results18,go_sem,J21,J22,J23]) rfl ⟨_,rfl,kv,HE.o⟩
 ·have HW:Hid (withRes E P 0 [n]=.tuple #[.agg #[.int .i64 0,.int .i64 0,.int .i64 0,.int .i64 0],.int .i64 6]):=hid (by unfold withRes;rw [if_neg (fun h=>hfit (h n (by simp)))]);have HV2:Hid (valueR E P n=(0,6)):=hid (by unfold valueR;rw [if_pos hfit]);clear hfit;refine (with_good E P 0 _ [n] _ (by decide) HF.o HWS.o).mono ?_;rintro e w2 ⟨rfl,g2⟩;have hz_w2:=g2.size;replace HE:=hid (HE.o.trans g2);replace HB_F:=hid (HB_F.o.ext g2);replace HB_W:=hid (HB_W.o.ext g2);replace HB_Z:=hid (HB_Z.o.ext g2);rw [HW.o];have gA:=Ext.alloc w2 (.cells #[.int .i64 0,.int .i64 0,.int .i64 0,.int .i64 0] 81);obtain ⟨J8,J9,J10⟩:=(HB_Z.o.ext gA).c3;obtain ⟨U11,U12,U13⟩:=(HB_Z.o.ext gA).f3;go_wp2_with fail;clear gA J8 J9 J10 U11 U12 U13;obtain ⟨W3,hW3,g3,hy3,B_M⟩:=pro1 w2 #[.int .i64 0,.int .i64 0,.int .i64 0,.int .i64 0] 81;rw [←hW3];clear hW3;have hz_W3:=g3.size;replace HE:=hid (HE.o.trans g3);replace HB_F:=hid (HB_F.o.ext g3);replace HB_W:=hid (HB_W.o.ext g3);replace HB_Z:=hid (HB_Z.o.ext g3);have HB_M:=hid B_M;clear B_M;obtain ⟨W4,hW4,g4,q4,B4,hy4,ho4⟩:=sto3 HE.o (by omega) HB_Z.o (by decide) (.bool false) (.slice none 0 0) (.slice none 0 0);rw [←hW4];clear hW4;replace HE:=hid g4;replace HB_F:=hid (ho4 _ _ _ (by omega) HB_F.o);replace HB_W:=hid (ho4 _ _ _ (by omega) HB_W.o);replace HB_M:=hid (ho4 _ _ _ (by omega) HB_M.o);replace HB_Z:=hid B4;unfold NumErr;rw [HV2.o];obtain ⟨J14,J15,J16⟩:=HB_Z.o.c3;refine bodyPost_ret (v:=.tuple #[.agg #[.bool false,.slice none 0 0,.slice none 0 0],.int .i64 6]) (by simp [results,Tryz.results18,go_sem,J14,J15,J16]) rfl ⟨_,rfl,NumV.zero _,HE.o⟩
theorem round_zero (E P b m:Nat) (x:Value) (w:World) (hF:Fmt E P) (hx:NumV w x 0) :
  Calls Tryz.prog 44 #[.agg #[.int .i64 E,.int .i64 P,.int .i64 m,.int .i64 b],x] w fun e w'=>EndPost (0,0) w e w':=by
 obtain ⟨ng,a,n,c,a',n',c',rfl⟩:=hx.shape;have HX:=hid hx;have e0:Word (sgb E P false)=.agg #[.int .u64 0,.int .u64 0]:=by unfold Word sgb;simp
 have C1:Hid (∀ w,Calls Tryz.prog 43 #[.agg #[.int .i64 E,.int .i64 P,.int .i64 m,.int .i64 b],.bool false] w fun e w'=>e=.returned (.agg #[.int .u64 0,.int .u64 0])∧Ext w w'):=hid fun w=>by rw [←e0];exact zero_c E P m b false w hF
 clear hx hF e0;obtain ⟨W0,hW0,g0,hz0,B_M,B_X,B_Z⟩:=pro3s w #[.int .i64 E,.int .i64 P,.int .i64 m,.int .i64 b] #[.bool ng,.slice a n c,.slice a' n' c'] #[.int .u64 0,.int .u64 0] 81 40 29;have HE:=hid g0;have HB_M:=hid B_M;have HB_X:=hid B_X;have HB_Z:=hid B_Z;clear g0 B_M B_X B_Z 
 go_enter Tryz.func44,Tryz.ntmps44
 go_wp2_with fail;rw [←hW0];clear hW0;refine (sign_c _ 0 _ (HX.o.ext HE.o)).mono ?_;rintro e w1 ⟨rfl,g1⟩;have hz_w1:=g1.size;replace HE:=hid (HE.o.trans g1);replace HB_M:=hid (HB_M.o.ext g1);replace HB_X:=hid (HB_X.o.ext g1);replace HB_Z:=hid (HB_Z.o.ext g1);rw [show (0:Rat).num.sign=0 from rfl];obtain ⟨J1,J2,J3,J4⟩:=HB_M.o.c4;obtain ⟨J5,J6,J7⟩:=HB_X.o.c3;obtain ⟨J8,J9⟩:=HB_Z.o.c2;go_wp2_with fail;clear J1 J2 J3 J4 J5 J6 J7 J8 J9;refine (C1.o _).mono ?_;rintro e w2 ⟨rfl,g2⟩;have hz_w2:=g2.size;replace HE:=hid (HE.o.trans g2);replace HB_M:=hid (HB_M.o.ext g2);replace HB_X:=hid (HB_X.o.ext g2);replace HB_Z:=hid (HB_Z.o.ext g2);obtain ⟨J10,J11,J12,J13⟩:=HB_M.o.c4;obtain ⟨J14,J15,J16⟩:=HB_X.o.c3;obtain ⟨J17,J18⟩:=HB_Z.o.c2;obtain ⟨U19,U20⟩:=HB_Z.o.f2;go_wp2_with fail;clear J10 J11 J12 J13 J14 J15 J16 J17 J18 U19 U20;obtain ⟨W3,hW3,g3,q3,B3,hy3,ho3⟩:=sto2 HE.o (by omega) HB_Z.o (by decide) (.int .u64 0) (.int .u64 0);rw [←hW3];clear hW3;replace HE:=hid g3;replace HB_M:=hid (ho3 _ _ _ (by omega) HB_M.o);replace HB_X:=hid (ho3 _ _ _ (by omega) HB_X.o);replace HB_Z:=hid B3;unfold EndPost;obtain ⟨J21,J22⟩:=HB_Z.o.c2;refine bodyPost_ret (v:=.tuple #[.agg #[.int .u64 0,.int .u64 0],.int .i64 0]) (by simp [results,Tryz.results44,go_sem,J21,J22]) rfl ⟨by show _=Ending.returned (.tuple #[Word 0,.int .i64 0]);simp [Word],HE.o⟩
def rnd (E P b m:Nat) (q:Rat) (l:Int):Nat×Nat:=if q=0 then (0,0) else roundR E P b m q l
theorem rnd_c (E P b m:Nat) (x:Value) (q:Rat) (l:Int) (K:Nat) (w:World) (hF:Fmt E P) (hm:m≤4) (hb:b=bias E) (hx:NumV w x q) (sx:SmQ K q) (hK:K≤12000) (hl:q≠0→IsLog (absQ q) l) (hT:Tabs w) :
  Calls Tryz.prog 44 #[.agg #[.int .i64 E,.int .i64 P,.int .i64 m,.int .i64 b],x] w (EndPost (rnd E P b m q l) w):=by
 unfold rnd
 by_cases h:q=0
 ·subst h;rw [if_pos rfl]
  exact round_zero E P b m x w hF hx
 ·rw [if_neg h]
  exact round_c E P b m x q l K w hF hm hb hx sx hK (fun e=>h (Rat.num_eq_zero.1 e)) (hl h) hT
theorem pow_EP {E P:Nat} (hP:1≤P):2^(E+P-1)=2^(P-1)*2^E:=by rw [←Nat.pow_add];congr 1;omega
theorem wordN_eq {E P:Nat} (neg:Bool) {n f:Nat} (h:n+f*2^(P-1)<2^(E+P-1)):wordN E P neg n f=n+f*2^(P-1)+2^(E+P-1)*(if neg=true then 1 else 0):=by
 unfold wordN sgb;rw [Nat.or_comm]
 cases neg
 ·simp
 ·simp only [if_true]
  have:=or_add (b:=1) h
  rw [Nat.mul_one] at this;rw [this,Nat.mul_one]
theorem wordN_wf {E P:Nat} (hP:1≤P) (neg:Bool) {n f:Nat} (h:n+f*2^(P-1)<2^(E+P-1)):wf E P (wordN E P neg n f)=(n+f*2^(P-1))/2^(P-1):=by
 rw [wordN_eq neg h];unfold wf;have hp:0<2^(P-1):=Nat.pow_pos (by decide);have h2:(n+f*2^(P-1))/2^(P-1)<2^E:=by
  rw [Nat.div_lt_iff_lt_mul hp,Nat.mul_comm (2^E),←pow_EP hP];exact h
 rw [pow_EP hP,Nat.mul_assoc,Nat.add_mul_div_left _ _ hp,Nat.add_mul_mod_self_left,Nat.mod_eq_of_lt h2]
theorem wordN_wr {E P:Nat} (hP:1≤P) (neg:Bool) {n f:Nat} (h:n+f*2^(P-1)<2^(E+P-1)):wr P (wordN E P neg n f)=n%2^(P-1):=by
 rw [wordN_eq neg h];unfold wr;rw [pow_EP hP,Nat.mul_assoc,Nat.add_mul_mod_self_left,Nat.add_mul_mod_self_right]
theorem wordN_wn {E P:Nat} (neg:Bool) {n f:Nat} (h:n+f*2^(P-1)<2^(E+P-1)):wn E P (wordN E P neg n f)=neg:=by
 rw [wordN_eq neg h];unfold wn;have hp:0<2^(E+P-1):=Nat.pow_pos (by decide);rw [Nat.add_mul_div_left _ _ hp,Nat.div_eq_of_lt h]
 cases neg<;>simp
theorem wordN_val {E P b:Nat} (hP:1≤P) (neg:Bool) {n f:Nat} (h:n+f*2^(P-1)<2^(E+P-1)) (hn:n≤2^P) (hf:f=0∨2^(P-1)≤n) :
  wval E P b (wordN E P neg n f)=(if neg=true then -1 else 1)*(((n:Nat):Rat)*(2:Rat)^(2-(b:Int)-P+(f:Nat))):=by
 unfold wval wfr;rw [wordN_wn neg h,wordN_wf hP neg h,wordN_wr hP neg h];have hp:0<2^(P-1):=Nat.pow_pos (by decide);have hPP:2^P=2*2^(P-1):=by rw [←Nat.pow_succ'];congr 1;omega
 have hd:(n+f*2^(P-1))/2^(P-1)=n/2^(P-1)+f:=Nat.add_mul_div_right _ _ hp;rw [hd]
 congr 1
 rcases Nat.lt_or_ge n (2^(P-1)) with h1 | h1
 ·obtain rfl:f=0:=by omega
  rw [Nat.div_eq_of_lt h1,Nat.mod_eq_of_lt h1]
  simp
 ·rcases Nat.lt_or_ge n (2^P) with h2 | h2
  ·have e1:n/2^(P-1)=1:=by
    rw [Nat.div_eq_iff hp];omega
   have e2:n%2^(P-1)+2^(P-1)=n:=by
    have:=Nat.div_add_mod n (2^(P-1));rw [e1] at this;omega
   rw [e1,if_neg (by omega),e2]
   congr 2;omega
  ·have e0:n=2^(P-1)*2:=by omega
   have e1:n/2^(P-1)=2:=by rw [e0,Nat.mul_div_cancel_left _ hp]
   have e2:n%2^(P-1)=0:=by rw [e0,Nat.mul_mod_right]
   rw [e1,e2,if_neg (by omega),Nat.zero_add,e0,Rat.natCast_mul];have e3:(2-(b:Int)-P+((max (2+f) 1-1:Nat):Int))=2-(b:Int)-P+(f:Nat)+1:=by omega
   rw [e3,p2_succ]
   grind
def IsVal (P b:Nat) (q:Rat):Prop:=∃ (m:Nat) (j:Int),2-(b:Int)-P≤j∧m<2^P∧absQ q=(m:Rat)*(2:Rat)^j
theorem absQ_nonneg {x:Rat} (h:0≤x):absQ x=x:=by
 rw [absQ_eq,if_neg]
 intro h2
 have:=num_neg_iff.1 h2
 grind
theorem absQ_neg (x:Rat):absQ (-x)=absQ x:=by
 unfold absQ;rw [Rat.neg_num,Rat.neg_den,Int.natAbs_neg]
theorem absQ_signed {x:Rat} (h:0≤x) (s:Bool):absQ ((if s=true then -1 else 1)*x)=x:=by
 cases s
 ·rw [if_neg (by decide),Rat.one_mul];exact absQ_nonneg h
 ·rw [if_pos rfl,Rat.neg_mul,Rat.one_mul,absQ_neg];exact absQ_nonneg h
theorem steps_nonneg (n:Nat) (k:Int):0≤((n:Nat):Rat)*(2:Rat)^k:=by
 have h1:(0:Rat)≤((n:Nat):Rat):=by exact_mod_cast Nat.zero_le n
 exact Rat.mul_nonneg h1 (Rat.le_of_lt (p2_pos k))
theorem two_bias {E:Nat} (hE:1≤E):2^E=2*bias E+2:=by
 unfold bias;have h1:1≤2^(E-1):=Nat.pow_pos (by decide);have h2:2^E=2*2^(E-1):=by rw [←Nat.pow_succ'];congr 1;omega
 omega
theorem wfr_lt {E P n:Nat} (hP:1≤P):wfr E P n<2^P:=by
 have h1:wr P n<2^(P-1):=Nat.mod_lt _ (Nat.pow_pos (by decide));have h3:2^P=2*2^(P-1):=by rw [←Nat.pow_succ'];congr 1;omega
 unfold wfr;split<;>omega
theorem wval_abs (E P b n:Nat):absQ (wval E P b n)=((wfr E P n:Nat):Rat)*(2:Rat)^(2-(b:Int)-P+((max (wf E P n) 1-1:Nat):Int)):=by
 unfold wval;exact absQ_signed (steps_nonneg _ _) _
theorem rd_fits {E P n f:Nat} (hE:1≤E) (hP:1≤P) (hn:n<2^P) (hf:f=0∨2^(P-1)≤n) (hg:((n:Nat):Rat)*(2:Rat)^(2-(bias E:Int)-P+(f:Nat))≤grQ P (bias E)):n+f*2^(P-1)<2^(E+P-1):=by
 have hfb:f≤2*bias E:=by
  rcases hf with h | h
  ·omega
  ·exact f_bound hP h hg
 have h2:=two_bias hE;have h3:2^P=2*2^(P-1):=by rw [←Nat.pow_succ'];congr 1;omega
 rw [pow_EP hP,h2];have h4:f*2^(P-1)≤2*bias E*2^(P-1):=Nat.mul_le_mul_right _ hfb;have h5:2^(P-1)*(2*bias E+2)=2*bias E*2^(P-1)+2*2^(P-1):=by rw [Nat.mul_add,Nat.mul_comm,Nat.mul_comm (2^(P-1)) 2]
 omega
theorem IsVal.neg {P b:Nat} {q:Rat} (h:IsVal P b q):IsVal P b (-q):=by
 obtain ⟨m,j,h1,h2,h3⟩:=h
 exact ⟨m,j,h1,h2,by rw [absQ_neg];exact h3⟩




theorem IsVal.zero (P b:Nat):IsVal P b 0:=⟨0,_,Int.le_refl _,Nat.pow_pos (by decide),by rw [absQ_nonneg Rat.le_refl];grind⟩


theorem endN_le {P b m:Nat} {q:Rat} {l:Int} (hl:IsLog (absQ q) l) (neg is:Bool) (c:Int):endN m neg (rdN P b l q) is c≤2^P∧rdN P b l q≤endN m neg (rdN P b l q) is c:=by
 have:=rdN_lt (P:=P) (b:=b) hl
 unfold endN
 split
 ·omega
 ·split<;>omega
def RoundPost (r:Nat×Nat) (z:Int) (w:World) (e:Ending) (w':World):Prop:=e=.returned (.tuple #[Word r.1,.int .i64 (r.2:Nat),.int .i64 z])∧Ext w w'
def numberR (E P n:Nat):Rat×Int:=if (valueR E P n).2≠0 then (0,7) else ((valueR E P n).1,0)
theorem Round_good (E P m:Nat) (x:Value) (q:Rat) (l:Int) (K:Nat) (w:World) (hF:Fmt E P) (hm:m≤4) (hx:NumV w x q) (sx:SmQ K q) (hK:K≤12000) (hl:q≠0→IsLog (absQ q) l) (hT:Tabs w) :
  Calls Tryz.prog 15 #[.agg #[.int .i64 (E:Nat),.int .i64 (P:Nat)],.int .i64 (m:Nat),x] w fun e w'=>RoundPost (rnd E P (bias E) m q l) 0 w e w':=by
 obtain ⟨ng,a,n,c,a',n',c',rfl⟩:=hx.shape;have HX:=hid hx;have CR:Hid (∀ w,NumV w _ q→Tabs w→_):=hid fun w h hT=>rnd_c E P (bias E) m (.agg #[.bool ng,.slice a n c,.slice a' n' c']) q l K w hF hm rfl h sx hK hl hT;have HT:=hid hT;have HF:=hid hF;have HM:=hid hm;have HW:Hid (withRes E P m []=.tuple #[.agg #[.int .i64 (E:Nat),.int .i64 (P:Nat),.int .i64 (m:Nat),.int .i64 (bias E:Nat)],.int .i64 0]):=hid (by unfold withRes;rw [if_pos (fun x hx=>by simp at hx)]);obtain ⟨r0,r1,er⟩:=Word.shape (rnd E P (bias E) m q l).1;have Er:=hid er;clear hx sx hK hl hT hF hm er;obtain ⟨W0,hW0,g0,hz0,B_F,B_X,B_Z⟩:=pro3s w #[.int .i64 (E:Nat),.int .i64 (P:Nat)] #[.bool ng,.slice a n c,.slice a' n' c'] #[.int .u64 0,.int .u64 0] 23 40 29;have HE:=hid g0;have HB_F:=hid B_F;have HB_X:=hid B_X;have HB_Z:=hid B_Z;clear g0 B_F B_X B_Z 
 go_enter Tryz.func15,Tryz.ntmps15
 go_upto_region 1 with (fail)
 rw [←hW0];clear hW0;have hx:=HX.o.ext HE.o;obtain ⟨J1,J2⟩:=HB_F.o.c2;obtain ⟨J3,J4,J5⟩:=HB_X.o.c3;obtain ⟨J6,J7⟩:=HB_Z.o.c2;go_wp2_with fail;clear J1 J2 J3 J4 J5 J6 J7;refine (with_good E P m _ [] _ HM.o HF.o (WSl.nil _)).mono ?_;rintro e w1 ⟨rfl,g1⟩;have hz_w1:=g1.size;replace HE:=hid (HE.o.trans g1);replace HB_F:=hid (HB_F.o.ext g1);replace HB_X:=hid (HB_X.o.ext g1);replace HB_Z:=hid (HB_Z.o.ext g1);replace hx:=hx.ext g1;rw [HW.o];have gA:=Ext.alloc w1 (.cells #[.int .i64 (E:Nat),.int .i64 (P:Nat),.int .i64 (m:Nat),.int .i64 (bias E:Nat)] 81);obtain ⟨J8,J9⟩:=(HB_F.o.ext gA).c2;obtain ⟨J10,J11,J12⟩:=(HB_X.o.ext gA).c3;obtain ⟨J13,J14⟩:=(HB_Z.o.ext gA).c2;go_wp2_with fail;clear gA J8 J9 J10 J11 J12 J13 J14;obtain ⟨W2,hW2,g2,hy2,B_M⟩:=pro1 w1 #[.int .i64 (E:Nat),.int .i64 (P:Nat),.int .i64 (m:Nat),.int .i64 (bias E:Nat)] 81;rw [←hW2];clear hW2;have hz_W2:=g2.size;replace HE:=hid (HE.o.trans g2);replace HB_F:=hid (HB_F.o.ext g2);replace HB_X:=hid (HB_X.o.ext g2);replace HB_Z:=hid (HB_Z.o.ext g2);replace hx:=hx.ext g2;have HB_M:=hid B_M;clear B_M;refine (CR.o _ hx (HT.o.ext HE.o)).mono ?_;rintro e w3 ⟨rfl,g3⟩;have hz_w3:=g3.size;replace HE:=hid (HE.o.trans g3);replace HB_F:=hid (HB_F.o.ext g3);replace HB_X:=hid (HB_X.o.ext g3);replace HB_Z:=hid (HB_Z.o.ext g3);replace HB_M:=hid (HB_M.o.ext g3);replace hx:=hx.ext g3;rw [Er.o];obtain ⟨J15,J16⟩:=HB_F.o.c2;obtain ⟨J17,J18,J19⟩:=HB_X.o.c3;obtain ⟨J20,J21⟩:=HB_Z.o.c2;obtain ⟨J22,J23,J24,J25⟩:=HB_M.o.c4;obtain ⟨U26,U27⟩:=HB_Z.o.f2;go_wp2_with fail;clear J15 J16 J17 J18 J19 J20 J21 J22 J23 J24 J25 U26 U27;obtain ⟨W4,hW4,g4,q4,B4,hy4,ho4⟩:=sto2 HE.o (by omega) HB_Z.o (by decide) (.int .u64 r0) (.int .u64 r1);rw [←hW4];clear hW4;replace HE:=hid g4;replace HB_F:=hid (ho4 _ _ _ (by omega) HB_F.o);replace HB_X:=hid (ho4 _ _ _ (by omega) HB_X.o);replace HB_M:=hid (ho4 _ _ _ (by omega) HB_M.o);replace HB_Z:=hid B4;replace hx:=hx.keep q4;obtain ⟨W5,hW5,g5,q5,B5,hy5,ho5⟩:=sto2 HE.o (by omega) HB_Z.o (by decide) (.int .u64 r0) (.int .u64 r1);rw [←hW5];clear hW5;replace HE:=hid g5;replace HB_F:=hid (ho5 _ _ _ (by omega) HB_F.o);replace HB_X:=hid (ho5 _ _ _ (by omega) HB_X.o);replace HB_M:=hid (ho5 _ _ _ (by omega) HB_M.o);replace HB_Z:=hid B5;replace hx:=hx.keep q5;unfold RoundPost;obtain ⟨J28,J29⟩:=HB_Z.o.c2;refine bodyPost_ret (v:=.tuple #[.agg #[.int .u64 r0,.int .u64 r1],.int .i64 ((rnd E P (bias E) m q l).2:Nat),.int .i64 0]) (by simp [results,Tryz.results15,go_sem,J28,J29]) rfl ⟨by rw [Er.o],HE.o⟩
theorem number_good (E P n:Nat) (w:World) (hF:Fmt E P) (hn:W128 n) :
  Calls Tryz.prog 134 #[.agg #[.int .i64 (E:Nat),.int .i64 (P:Nat)],Word n,.int .i64 0] w fun e w'=>NumErr (numberR E P n).1 (numberR E P n).2 w e w':=by
 obtain ⟨n0,n1,en⟩:=Word.shape n;have CV:Hid (∀ w,Calls Tryz.prog 18 #[.agg #[.int .i64 (E:Nat),.int .i64 (P:Nat)],.agg #[.int .u64 n0,.int .u64 n1]] w (NumErr (valueR E P n).1 (valueR E P n).2 w)):=hid fun w=>by rw [←en];exact Value_good E P n w hF hn
 rw [en];clear hF hn en;have HNR:Hid (numberR E P n=if (valueR E P n).2≠0 then (0,7) else ((valueR E P n).1,0)):=hid rfl;obtain ⟨W0,hW0,g0,hz0,B_F,B_W,B_Z⟩:=pro3s w #[.int .i64 (E:Nat),.int .i64 (P:Nat)] #[.int .u64 n0,.int .u64 n1] #[.bool false,.slice none 0 0,.slice none 0 0] 23 29 40;have HE:=hid g0;have HB_F:=hid B_F;have HB_W:=hid B_W;have HB_Z:=hid B_Z;clear g0 B_F B_W B_Z 
 go_enter Tryz.func134,Tryz.ntmps134
 go_upto_region 1 with (fail)
 rw [←hW0];clear hW0;obtain ⟨J1,J2⟩:=HB_F.o.c2;obtain ⟨J3,J4⟩:=HB_W.o.c2;obtain ⟨J5,J6,J7⟩:=HB_Z.o.c3;go_wp2_with fail;clear J1 J2 J3 J4 J5 J6 J7;refine (CV.o _).mono ?_;rintro e w1 ⟨v1,rfl,kv,g1⟩;have hz_w1:=g1.size;replace HE:=hid (HE.o.trans g1);replace HB_F:=hid (HB_F.o.ext g1);replace HB_W:=hid (HB_W.o.ext g1);replace HB_Z:=hid (HB_Z.o.ext g1);generalize (valueR E P n).2=z at *
 generalize (valueR E P n).1=q at *
 obtain ⟨ng,a,k,c,a',k',c',rfl⟩:=kv.shape
 by_cases hz:z=0
 ·subst hz;have HR:Hid (numberR E P n=(q,0)):=hid (by rw [HNR.o];simp);have gA:=Ext.alloc w1 (.cells #[.bool ng,.slice a k c,.slice a' k' c'] 40);obtain ⟨J8,J9,J10⟩:=(HB_Z.o.ext gA).c3;obtain ⟨U11,U12,U13⟩:=(HB_Z.o.ext gA).f3;go_wp2_with fail;clear gA J8 J9 J10 U11 U12 U13;obtain ⟨W2,hW2,g2,hy2,B_X⟩:=pro1 w1 #[.bool ng,.slice a k c,.slice a' k' c'] 40;rw [←hW2];clear hW2;have hz_W2:=g2.size;replace HE:=hid (HE.o.trans g2);replace HB_F:=hid (HB_F.o.ext g2);replace HB_W:=hid (HB_W.o.ext g2);replace HB_Z:=hid (HB_Z.o.ext g2);replace kv:=kv.ext g2;have HB_X:=hid B_X;clear B_X;obtain ⟨W3,hW3,g3,q3,B3,hy3,ho3⟩:=sto3 HE.o (by omega) HB_Z.o (by decide) (.bool ng) (.slice a k c) (.slice a' k' c');rw [←hW3];clear hW3;replace HE:=hid g3;replace HB_F:=hid (ho3 _ _ _ (by omega) HB_F.o);replace HB_W:=hid (ho3 _ _ _ (by omega) HB_W.o);replace HB_X:=hid (ho3 _ _ _ (by omega) HB_X.o);replace HB_Z:=hid B3;replace kv:=kv.keep q3;unfold NumErr;rw [HR.o];obtain ⟨J14,J15,J16⟩:=HB_Z.o.c3;refine bodyPost_ret (v:=.tuple #[.agg #[.bool ng,.slice a k c,.slice a' k' c'],.int .i64 0]) (by simp [results,Tryz.results134,go_sem,J14,J15,J16]) rfl ⟨_,rfl,kv,HE.o⟩
 ·have hb:(z==0)=false:=beq_eq_false_iff_ne.2 hz;have HR:Hid (numberR E P n=(0,7)):=hid (by rw [HNR.o,if_pos hz]);clear hz;have gA:=Ext.alloc w1 (.cells #[.bool ng,.slice a k c,.slice a' k' c'] 40);obtain ⟨J8,J9,J10⟩:=(HB_Z.o.ext gA).c3;obtain ⟨U11,U12,U13⟩:=(HB_Z.o.ext gA).f3;go_wp2_with fail;clear gA J8 J9 J10 U11 U12 U13;obtain ⟨W2,hW2,g2,hy2,B_X⟩:=pro1 w1 #[.bool ng,.slice a k c,.slice a' k' c'] 40;rw [←hW2];clear hW2;have hz_W2:=g2.size;replace HE:=hid (HE.o.trans g2);replace HB_F:=hid (HB_F.o.ext g2);replace HB_W:=hid (HB_W.o.ext g2);replace HB_Z:=hid (HB_Z.o.ext g2);replace kv:=kv.ext g2;have HB_X:=hid B_X;clear B_X;obtain ⟨W3,hW3,g3,q3,B3,hy3,ho3⟩:=sto3 HE.o (by omega) HB_Z.o (by decide) (.bool false) (.slice none 0 0) (.slice none 0 0);rw [←hW3];clear hW3;replace HE:=hid g3;replace HB_F:=hid (ho3 _ _ _ (by omega) HB_F.o);replace HB_W:=hid (ho3 _ _ _ (by omega) HB_W.o);replace HB_X:=hid (ho3 _ _ _ (by omega) HB_X.o);replace HB_Z:=hid B3;replace kv:=kv.keep q3;unfold NumErr;rw [HR.o];obtain ⟨J14,J15,J16⟩:=HB_Z.o.c3;refine bodyPost_ret (v:=.tuple #[.agg #[.bool false,.slice none 0 0,.slice none 0 0],.int .i64 7]) (by simp [results,Tryz.results134,go_sem,J14,J15,J16]) rfl ⟨_,rfl,NumV.zero _,HE.o⟩
theorem Near_good (E P m:Nat) (x:Value) (q:Rat) (l:Int) (K:Nat) (w:World) (hF:Fmt E P) (hm:m≤4) (hx:NumV w x q) (sx:SmQ K q) (hK:K≤12000) (hl:q≠0→IsLog (absQ q) l) (hT:Tabs w) (hn:W128 (rnd E P (bias E) m q l).1) :
  Calls Tryz.prog 66 #[.agg #[.int .i64 (E:Nat),.int .i64 (P:Nat)],.int .i64 (m:Nat),x] w fun e w'=>NumErr (numberR E P (rnd E P (bias E) m q l).1).1 (numberR E P (rnd E P (bias E) m q l).1).2 w e w':=by
 obtain ⟨ng,a,n,c,a',n',c',rfl⟩:=hx.shape;have HX:=hid hx;have CR:Hid (∀ w,NumV w _ q→Tabs w→_):=hid fun w h hT=>Round_good E P m (.agg #[.bool ng,.slice a n c,.slice a' n' c']) q l K w hF hm h sx hK hl hT;obtain ⟨r0,r1,er⟩:=Word.shape (rnd E P (bias E) m q l).1;have CN:Hid (∀ w,Calls Tryz.prog 134 #[.agg #[.int .i64 (E:Nat),.int .i64 (P:Nat)],.agg #[.int .u64 r0,.int .u64 r1],.int .i64 0] w (NumErr (numberR E P (rnd E P (bias E) m q l).1).1 (numberR E P (rnd E P (bias E) m q l).1).2 w)):=hid fun w=>by rw [←er];exact number_good E P _ w hF hn
 have HT:=hid hT;have Er:=hid er;clear hx sx hK hl hT hF hm er hn;obtain ⟨W0,hW0,g0,hz0,B_F,B_X,B_Z⟩:=pro3s w #[.int .i64 (E:Nat),.int .i64 (P:Nat)] #[.bool ng,.slice a n c,.slice a' n' c'] #[.bool false,.slice none 0 0,.slice none 0 0] 23 40 40;have HE:=hid g0;have HB_F:=hid B_F;have HB_X:=hid B_X;have HB_Z:=hid B_Z;clear g0 B_F B_X B_Z 
 go_enter Tryz.func66,Tryz.ntmps66
 go_upto_region 1 with (fail)
 rw [←hW0];clear hW0;have hx:=HX.o.ext HE.o;obtain ⟨J1,J2⟩:=HB_F.o.c2;obtain ⟨J3,J4,J5⟩:=HB_X.o.c3;obtain ⟨J6,J7,J8⟩:=HB_Z.o.c3;go_wp2_with fail;clear J1 J2 J3 J4 J5 J6 J7 J8;refine (CR.o _ hx (HT.o.ext HE.o)).mono ?_;rintro e w1 ⟨rfl,g1⟩;have hz_w1:=g1.size;replace HE:=hid (HE.o.trans g1);replace HB_F:=hid (HB_F.o.ext g1);replace HB_X:=hid (HB_X.o.ext g1);replace HB_Z:=hid (HB_Z.o.ext g1);rw [Er.o];have gA:=Ext.alloc w1 (.cells #[.int .u64 r0,.int .u64 r1] 29);obtain ⟨J9,J10⟩:=(HB_F.o.ext gA).c2;obtain ⟨J11,J12,J13⟩:=(HB_X.o.ext gA).c3;obtain ⟨J14,J15,J16⟩:=(HB_Z.o.ext gA).c3;go_wp2_with fail;clear gA J9 J10 J11 J12 J13 J14 J15 J16;obtain ⟨W2,hW2,g2,hy2,B_W⟩:=pro1 w1 #[.int .u64 r0,.int .u64 r1] 29;rw [←hW2];clear hW2;have hz_W2:=g2.size;replace HE:=hid (HE.o.trans g2);replace HB_F:=hid (HB_F.o.ext g2);replace HB_X:=hid (HB_X.o.ext g2);replace HB_Z:=hid (HB_Z.o.ext g2);have HB_W:=hid B_W;clear B_W;refine (CN.o _).mono ?_;rintro e w3 ⟨v1,rfl,kv,g3⟩;have hz_w3:=g3.size;replace HE:=hid (HE.o.trans g3);replace HB_F:=hid (HB_F.o.ext g3);replace HB_X:=hid (HB_X.o.ext g3);replace HB_Z:=hid (HB_Z.o.ext g3);replace HB_W:=hid (HB_W.o.ext g3);obtain ⟨mg,d,k,e,d',k',e',rfl⟩:=kv.shape;obtain ⟨J17,J18,J19⟩:=HB_Z.o.c3;obtain ⟨U20,U21,U22⟩:=HB_Z.o.f3;go_wp2_with fail;clear J17 J18 J19 U20 U21 U22;obtain ⟨W4,hW4,g4,q4,B4,hy4,ho4⟩:=sto3 HE.o (by omega) HB_Z.o (by decide) (.bool mg) (.slice d k e) (.slice d' k' e');rw [←hW4];clear hW4;replace HE:=hid g4;replace HB_F:=hid (ho4 _ _ _ (by omega) HB_F.o);replace HB_X:=hid (ho4 _ _ _ (by omega) HB_X.o);replace HB_W:=hid (ho4 _ _ _ (by omega) HB_W.o);replace HB_Z:=hid B4;replace kv:=kv.keep q4;unfold NumErr;obtain ⟨J23,J24,J25⟩:=HB_Z.o.c3;refine bodyPost_ret (v:=.tuple #[.agg #[.bool mg,.slice d k e,.slice d' k' e'],.int .i64 (numberR E P (rnd E P (bias E) m q l).1).2]) (by simp [results,Tryz.results66,go_sem,J23,J24,J25]) rfl ⟨_,rfl,kv,HE.o⟩
theorem Box.c9 {w:World} {b:Nat} {x0 x1 x2 x3 x4 x5 x6 x7 x8:Value} {t:TypeId} (h:Box w b #[x0,x1,x2,x3,x4,x5,x6,x7,x8] t) :
  w.cell? ⟨b,0,none⟩=some x0∧w.cell? ⟨b,1,none⟩=some x1∧w.cell? ⟨b,2,none⟩=some x2∧w.cell? ⟨b,3,none⟩=some x3∧w.cell? ⟨b,4,none⟩=some x4∧w.cell? ⟨b,5,none⟩=some x5∧w.cell? ⟨b,6,none⟩=some x6∧w.cell? ⟨b,7,none⟩=some x7∧w.cell? ⟨b,8,none⟩=some x8 :=
 ⟨h.cell 0,h.cell 1,h.cell 2,h.cell 3,h.cell 4,h.cell 5,h.cell 6,h.cell 7,h.cell 8⟩
theorem kind_fin {E P n:Nat} (h:wf E P n≠2^E-1):wkind E P n≤2:=by unfold wkind;rw [if_neg h];split<;>omega
theorem fin_wf {E P n:Nat} (h:wkind E P n≤2):wf E P n≠2^E-1:=by
 intro e
 unfold wkind at h;rw [if_pos e] at h
 split at h
 ·omega
 ·split at h<;>omega
theorem wvalK_fin {E P b n:Nat} (h:wkind E P n≤2):wvalK E P b n=wval E P b n:=by
 unfold wvalK
 by_cases h2:wkind E P n=2
 ·rw [if_pos h2]
 ·rw [if_neg h2,if_neg (by omega),if_neg (by omega)];have hk:wf E P n=0∧wr P n=0:=by
   have hne:=fin_wf h;unfold wkind at h2;rw [if_neg hne] at h2
   by_cases h3:wf E P n=0∧wr P n=0
   ·exact h3
   ·rw [if_neg h3] at h2;exact absurd rfl h2
  unfold wval wfr;rw [if_pos hk.1,hk.2]
  grind
theorem value_fin {E P n:Nat} (hn:n<2^(E+P)) (h:wkind E P n≤2):valueR E P n=(wval E P (bias E) n,0):=by
 unfold valueR;rw [if_neg (fun k=>k hn),if_neg (by omega),wvalK_fin h]
theorem grQ_nonneg (P b:Nat):0≤grQ P b:=by unfold grQ;exact steps_nonneg _ _
theorem kind_of_le {E P n:Nat} (hE:2≤E) (hP:1≤P) (h:absQ (wval E P (bias E) n)≤grQ P (bias E)):wkind E P n≤2:=by
 refine kind_fin (fun e => ?_);rw [wval_abs,e] at h;have h2:=two_bias (E:=E) (by omega);have hp:0<2^(P-1):=Nat.pow_pos (by decide);have hfr:2^(P-1)≤wfr E P n:=by unfold wfr;rw [if_neg (by rw [e];omega)];omega
 have h1:max (2^E-1) 1-1=2*bias E:=by omega
 rw [h1] at h;have h3:(2:Rat)^(((P-1:Nat):Int)+(2-(bias E:Int)-P+((2*bias E:Nat):Int)))≤grQ P (bias E):=by
  refine Rat.le_trans ?_ h;rw [p2_add,p2_nat]
  exact Rat.mul_le_mul_of_nonneg_right (by rw [Rat.natCast_le_natCast];exact hfr) (Rat.le_of_lt (p2_pos _))
 have h4:=grQ_lt P (bias E);have h5:((P-1:Nat):Int)+(2-(bias E:Int)-P+((2*bias E:Nat):Int))=(bias E:Int)+1:=by omega
 rw [h5] at h3
 exact absurd h4 (Rat.not_lt.2 h3)
theorem wordN_lt {E P:Nat} (h1:1≤E+P) (neg:Bool) {n f:Nat} (h:n+f*2^(P-1)<2^(E+P-1)):wordN E P neg n f<2^(E+P):=by
 rw [wordN_eq neg h];have h3:2^(E+P)=2*2^(E+P-1):=by rw [←Nat.pow_succ'];congr 1;omega
 cases neg
 ·simp;omega
 ·simp;omega
theorem sgb_word (E P:Nat) (s:Bool):sgb E P s=wordN E P s 0 0:=by unfold wordN;simp
theorem sgb_ok {E P:Nat} (hE:2≤E) (hP:1≤P) (s:Bool):sgb E P s<2^(E+P)∧valueR E P (sgb E P s)=(0,0):=by
 have h0:0+0*2^(P-1)<2^(E+P-1):=by rw [Nat.zero_mul];exact Nat.pow_pos (by decide)
 have hv:wval E P (bias E) (sgb E P s)=0:=by
  rw [sgb_word,wordN_val hP s h0 (Nat.zero_le _) (.inl rfl)]
  grind
 have hlt:sgb E P s<2^(E+P):=by rw [sgb_word];exact wordN_lt (by omega) s h0
 refine ⟨hlt,?_⟩;rw [value_fin hlt (kind_of_le hE hP (by rw [hv,absQ_nonneg Rat.le_refl];exact grQ_nonneg _ _)),hv]
theorem wvalK_sm {E P n:Nat} (hF:Fmt E P) (h:wkind E P n≤2):SmQ 5000 (wvalK E P (bias E) n):=by
 have hE:2≤E∧E≤11:=by unfold Fmt at hF;omega
 have hP:2≤P∧P≤113:=by unfold Fmt at hF;omega
 rw [wvalK_fin h];have h1:=wfr_lt (E:=E) (P:=P) (n:=n) (by omega);have hf:wf E P n<2^E:=Nat.mod_lt _ (Nat.pow_pos (by decide));have h2:2^E≤2048:=Nat.pow_le_pow_right (n:=2) (j:=11) (by decide) hE.2;have hb:bias E≤1023:=by
  have:2^(E-1)≤1024:=Nat.pow_le_pow_right (n:=2) (j:=10) (by decide) (by omega)
  unfold bias;omega
 have s1:SmQ 113 ((wfr E P n:Nat):Rat):=SmQ.nat (by decide) (Nat.lt_of_lt_of_le h1 (Nat.pow_le_pow_right (by decide) hP.2));have s2:=s1.mul_p2 (2-(bias E:Int)-P+((max (wf E P n) 1-1:Nat):Int)) 3500 (by omega);have s3:SmQ 5000 (((wfr E P n:Nat):Rat)*(2:Rat)^(2-(bias E:Int)-P+((max (wf E P n) 1-1:Nat):Int))):=s2.mono (by decide);unfold wval
 split
 ·have:=s3.neg
  rwa [show -(((wfr E P n:Nat):Rat)*(2:Rat)^(2-(bias E:Int)-P+((max (wf E P n) 1-1:Nat):Int))) = -1*(((wfr E P n:Nat):Rat)*(2:Rat)^(2-(bias E:Int)-P+((max (wf E P n) 1-1:Nat):Int))) from by grind] at this
 ·rwa [Rat.one_mul]
theorem SmQ.zero (K:Nat) (h:0<K):SmQ K 0:=SmQ.nat (n:=0) h (Nat.pow_pos (by decide))

theorem SmQ.mul {K L:Nat} {q r:Rat} (h:SmQ K q) (k:SmQ L r):SmQ (K+L) (q*r):=by
 have e1:q.num.natAbs*r.num.natAbs<2^(K+L):=by
  rw [Nat.pow_add];exact Nat.mul_lt_mul_of_lt_of_le h.1 (Nat.le_of_lt k.1) (Nat.pow_pos (by decide))
 have e2:q.den*r.den<2^(K+L):=by
  rw [Nat.pow_add];exact Nat.mul_lt_mul_of_lt_of_le h.2 (Nat.le_of_lt k.2) (Nat.pow_pos (by decide))
 rw [Rat.mul_def']
 exact SmQ.mk _ _ (Nat.mul_ne_zero q.den_nz r.den_nz) (by rw [Int.natAbs_mul];exact e1) e2
theorem SmQ.div {K L:Nat} {q r:Rat} (h:SmQ K q) (k:SmQ L r) (hr:r≠0):SmQ (K+L) (q/r):=by
 have e1:q.num.natAbs*r.den<2^(K+L):=by
  rw [Nat.pow_add];exact Nat.mul_lt_mul_of_lt_of_le h.1 (Nat.le_of_lt k.2) (Nat.pow_pos (by decide))
 have e2:q.den*r.num.natAbs<2^(K+L):=by
  rw [Nat.pow_add];exact Nat.mul_lt_mul_of_lt_of_le h.2 (Nat.le_of_lt k.1) (Nat.pow_pos (by decide))
 have h1:r.num.natAbs≠0:=fun e=>hr (Rat.num_eq_zero.1 (by omega));rw [←quo_value q r hr];unfold SmQ Sm;rw [mkq_natAbs _ _ _ (Nat.mul_ne_zero q.den_nz h1),mkq_den _ _ _ (Nat.mul_ne_zero q.den_nz h1)]
 exact ⟨Nat.lt_of_le_of_lt (Nat.div_le_self _ _) e1,Nat.lt_of_le_of_lt (Nat.div_le_self _ _) e2⟩
theorem SmQ.pos {K:Nat} {q:Rat} (h:SmQ K q):0<K:=by
 rcases Nat.eq_zero_or_pos K with e | e
 ·subst e;have h1:q.den<2^0:=h.2
  have:=q.den_pos
  omega
 ·exact e
theorem SmQ.floor {K:Nat} {q:Rat} (h:SmQ K q):SmQ K ((q.floor:Int):Rat):=by
 refine SmQ.int h.pos ?_;rw [Rat.floor_def]
 exact Nat.lt_of_le_of_lt (Int.natAbs_ediv_le_natAbs _ _) h.1
theorem kind_zero {E P b n:Nat} (h:wkind E P n≤2):wkind E P n=1↔wvalK E P b n=0:=by
 have hne:=fin_wf h
 constructor
 ·intro h1
  unfold wvalK;rw [if_neg (by omega),if_neg (by omega),if_neg (by omega)]
 ·intro h0
  rw [wvalK_fin h] at h0;have h2:absQ (wval E P b n)=0:=by rw [h0];exact absQ_nonneg Rat.le_refl
  rw [wval_abs] at h2;have h3:wfr E P n=0:=by
   rcases Nat.eq_zero_or_pos (wfr E P n) with e | e
   ·exact e
   ·exfalso
    have h4:(0:Rat)<((wfr E P n:Nat):Rat):=by exact_mod_cast e
    have h5:=Rat.mul_pos h4 (p2_pos (2-(b:Int)-P+((max (wf E P n) 1-1:Nat):Int)))
    grind
  have hp:0<2^(P-1):=Nat.pow_pos (by decide);unfold wfr at h3;unfold wkind;rw [if_neg hne]
  by_cases hf:wf E P n=0
  ·rw [if_pos hf] at h3;rw [if_pos ⟨hf,h3⟩]
  ·rw [if_neg hf] at h3;omega

theorem bias_pos {E:Nat} (hE:2≤E):1≤bias E:=by
 have h2:=two_bias (E:=E) (by omega)
 have:2^2≤2^E:=Nat.pow_le_pow_right (by decide) hE
 omega
theorem fmt_bounds {E P:Nat} (hF:Fmt E P):(2≤E∧E≤11)∧(2≤P∧P≤113)∧bias E≤1023∧E+P≤124∧1≤bias E:=by
 have hE:2≤E∧E≤11:=by unfold Fmt at hF;omega
 have hP:2≤P∧P≤113:=by unfold Fmt at hF;omega
 have hb:bias E≤1023:=by
  have:2^(E-1)≤1024:=Nat.pow_le_pow_right (n:=2) (j:=10) (by decide) (by omega)
  unfold bias;omega
 exact ⟨hE,hP,hb,by omega,bias_pos hE.1⟩

end Go.Proofs.YtopmjkkjlagfcaaGreatDoor
