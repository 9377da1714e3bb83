/- exact: Parse of the text of one. -/
import Derived.Test.YtopmjkkjlagfcaaGreatDoorX15
import Derived.Test.YtopmjkkjlagfcaaGreatDoorX18
namespace Go.Proofs.YtopmjkkjlagfcaaGreatDoor
open Go.RowKit Vn
set_option maxRecDepth 100000
set_option maxHeartbeats 8000000
def WM (w:World):Prop:=∃ m:Int,w.cell? ⟨1,0,none⟩=some (.int .i64 m)
theorem WM.ext {w w':World} (h:WM w) (k:Ext w w'):WM w':=by
 obtain ⟨m,hm⟩:=h
 exact ⟨m,k.cell hm⟩
theorem Ext.drewN (w:World) (n:Nat):Ext w (w.drewN n):=⟨rfl,rfl,rfl,Nat.le_refl _,fun _ _=>rfl⟩
theorem tp_one:Lib.trimPrefix [49] [45]=[49]:=by decide
theorem hp_one:Lib.hasPrefix [49] [45]=false:=by decide
theorem cut_one:Lib.cut [49] [47]=([49],[],false):=by decide
theorem parse_one (w:World) (hw:WM w) :
  Calls Tryz.prog 42 #[.string ⟨#[49]⟩] w fun e w'=>∃ v,e=.returned (.tuple #[v,.int .i64 0])∧NumV w' v 1∧Ext w w':=by
 have C1:Hid (∀ w,Calls Tryz.prog 103 #[.string ⟨#[49]⟩,.string ⟨#[45]⟩] w fun e w'=>e=.returned (.tuple #[.string ⟨#[49]⟩,.bool false])∧Ext w w'):=hid fun w =>
  (Tryz.sCutPrefix ⟨#[49]⟩ ⟨#[45]⟩ w).mono fun e w' ⟨h1,h2⟩=>⟨h1.trans (by rw [show (ByteArray.mk #[49]).data.toList=[49] from rfl,show (ByteArray.mk #[45]).data.toList=[45] from rfl,tp_one,hp_one]),h2 ▸ Below.refl _ _⟩
 have C2:Hid (∀ w,WM w→Calls Tryz.prog 104 #[.string ⟨#[49]⟩,.string ⟨#[47]⟩] w fun e w'=>e=.returned (.tuple #[.string ⟨#[49]⟩,.string ⟨#[]⟩,.bool false])∧Ext w w'):=hid fun w ⟨m,hm⟩ =>
  (Tryz.sCut ⟨#[49]⟩ ⟨#[47]⟩ m w (by decide) hm).mono fun e w' ⟨h1,n,h2⟩=>⟨h1.trans (by rw [show (ByteArray.mk #[49]).data.toList=[49] from rfl,show (ByteArray.mk #[47]).data.toList=[47] from rfl,cut_one]),h2 ▸ Ext.drewN w n⟩
 have C3:Hid (∀ w,Calls Tryz.prog 107 #[.string ⟨#[49]⟩] w fun e w'=>∃ a k c,e=.returned (.slice a k c)∧NatV w' (.slice a k c) 1∧Ext w w'):=hid fun w=>read_c [49] (by intro b hb;simp at hb;subst hb;decide) (by decide) w;have C4:Hid (∀ w,Calls Tryz.prog 108 #[.int .u64 1] w fun r w'=>∃ a k cap,r=.returned (.slice a k cap)∧NatV w' (.slice a k cap) 1∧Ext w w'):=hid fun w=>of_c 1 w (by decide) (by decide);have C5:Hid (∀ (x y:Value) (w:World),NatV w x 1→NatV w y 1→Calls Tryz.prog 106 #[.bool false,x,y] w fun e w'=>∃ v,e=.returned v∧NumV w' v 1∧Ext w w'):=hid fun x y w h k=>by
  have:=made_c false x y 1 1 10 w h k (by show 1<2^10;decide) (by show 1<2^10;decide) (by decide) (by decide)
  rwa [show mkq false 1 1=1 from by decide +kernel] at this
 obtain ⟨W0,hW0,g0,hz0,B_Z⟩:=pro1 w #[.bool false,.slice none 0 0,.slice none 0 0] 40;have HE:=hid g0;have HB_Z:=hid B_Z;clear g0 B_Z 
 go_enter Tryz.func42,Tryz.ntmps42
 go_wp2_with fail;rw [←hW0];clear hW0;refine (C1.o _).mono ?_;rintro e w1 ⟨rfl,g1⟩;have hz_w1:=g1.size;replace HE:=hid (HE.o.trans g1);replace HB_Z:=hid (HB_Z.o.ext g1);obtain ⟨J1,J2,J3⟩:=HB_Z.o.c3;go_wp2_with fail;clear J1 J2 J3;refine (C2.o _ (hw.ext HE.o)).mono ?_;rintro e w2 ⟨rfl,g2⟩;have hz_w2:=g2.size;replace HE:=hid (HE.o.trans g2);replace HB_Z:=hid (HB_Z.o.ext g2);obtain ⟨J4,J5,J6⟩:=HB_Z.o.c3;go_wp2_with fail;clear J4 J5 J6;refine (row_one _).mono ?_;rintro e w3 ⟨rfl,g3⟩;have hz_w3:=g3.size;replace HE:=hid (HE.o.trans g3);replace HB_Z:=hid (HB_Z.o.ext g3);obtain ⟨J7,J8,J9⟩:=HB_Z.o.c3;go_wp2_with fail;clear J7 J8 J9;refine (C3.o _).mono ?_;rintro e w4 ⟨a4,n4,c4,rfl,k4,g4⟩;have hz_w4:=g4.size;replace HE:=hid (HE.o.trans g4);replace HB_Z:=hid (HB_Z.o.ext g4);obtain ⟨J10,J11,J12⟩:=HB_Z.o.c3;go_wp2_with fail;clear J10 J11 J12;refine (C4.o _).mono ?_;rintro e w5 ⟨a5,n5,c5,rfl,k5,g5⟩;have hz_w5:=g5.size;replace HE:=hid (HE.o.trans g5);replace HB_Z:=hid (HB_Z.o.ext g5);replace k4:=k4.ext g5;obtain ⟨J13,J14,J15⟩:=HB_Z.o.c3;go_wp2_with fail;clear J13 J14 J15;refine (C5.o _ _ _ k4 k5).mono ?_;rintro e w6 ⟨v,rfl,k6,g6⟩;have hz_w6:=g6.size;replace HE:=hid (HE.o.trans g6);replace HB_Z:=hid (HB_Z.o.ext g6);replace k4:=k4.ext g6;replace k5:=k5.ext g6;obtain ⟨ng,a6,n6,c6,a6',n6',c6',rfl⟩:=k6.shape;obtain ⟨J16,J17,J18⟩:=HB_Z.o.c3;obtain ⟨U19,U20,U21⟩:=HB_Z.o.f3;go_wp2_with fail;clear J16 J17 J18 U19 U20 U21;obtain ⟨W7,hW7,g7,q7,B7,hy7,ho7⟩:=sto3 HE.o (by omega) HB_Z.o (by decide) (.bool ng) (.slice a6 n6 c6) (.slice a6' n6' c6');rw [←hW7];clear hW7;replace HE:=hid g7;replace HB_Z:=hid B7;replace k4:=k4.keep q7;replace k5:=k5.keep q7;replace k6:=k6.keep q7;obtain ⟨J22,J23,J24⟩:=HB_Z.o.c3;refine bodyPost_ret (v:=.tuple #[.agg #[.bool ng,.slice a6 n6 c6,.slice a6' n6' c6'],.int .i64 0]) (by simp [results,Tryz.results42,go_sem,J22,J23,J24]) rfl ⟨_,rfl,k6,HE.o⟩
end Go.Proofs.YtopmjkkjlagfcaaGreatDoor
