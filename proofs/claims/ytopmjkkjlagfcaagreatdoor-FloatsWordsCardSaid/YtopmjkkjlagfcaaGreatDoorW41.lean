/- floats: Encode, of whatever format and value, over what Parse and Decode return. -/
import Derived.Test.YtopmjkkjlagfcaaGreatDoorW29
import Derived.Test.YtopmjkkjlagfcaaGreatDoorW39
import Derived.Test.YtopmjkkjlagfcaaGreatDoorW40
import Derived.Test.YtopmjkkjlagfcaaGreatDoorW38
namespace Go.Proofs.YtopmjkkjlagfcaaGreatDoor
open Go.RowKit Vn
set_option maxRecDepth 100000 in
set_option maxHeartbeats 4000000 in
theorem Encode_1s (E P : Nat) (neg : Bool) (S : ByteArray) (q : Rat) (w : World) (hF : Fmt E P) (CP : Hid (∀ w, WM w → Calls Tryz.prog 42 #[.string S] w fun e w' => ∃ v, e = .returned (.tuple #[v, .int .i64 0]) ∧ NumV w' v q ∧ Ext w w')) (hw : WM w) (hT : Tabs w) (o0 o1 : Nat) (CD : Hid (∀ w, Tabs w → Calls Tryz.prog 37 #[.agg #[.int .i64 (E : Nat), .int .i64 (P : Nat)], .agg #[.int .u64 (o0 : Nat), .int .u64 (o1 : Nat)]] w fun e w' => e = .returned (.tuple #[.agg #[.int .i64 1, .bool neg, .string S], .int .i64 0]) ∧ Ext w w')) (hW : Word (sgb E P neg) = .agg #[.int .u64 (o0 : Nat), .int .u64 (o1 : Nat)]) :
  Calls Tryz.prog 9 #[.agg #[.int .i64 (E : Nat), .int .i64 (P : Nat)], .agg #[.int .i64 1, .bool neg, .string S]] w fun e w' => e = .returned (.tuple #[.agg #[.int .u64 (o0 : Nat), .int .u64 (o1 : Nat)], .int .i64 0]) ∧ Ext w w' := by
 have CX : Hid (∀ w, Calls Tryz.prog 43 #[.agg #[.int .i64 (E : Nat), .int .i64 (P : Nat), .int .i64 0, .int .i64 (bias E : Nat)], .bool neg] w fun e w' => e = .returned (.agg #[.int .u64 o0, .int .u64 o1]) ∧ Ext w w') := hid fun w => by
  have := zero_c E P 0 (bias E) neg w hF
  rwa [hW] at this
 clear hW
 have CW := hid (fun w => with_nil E P w hF)
 have HP := hid hw
 have HT := hid hT
 have HF := hid hF
 clear hw hT hF
 obtain ⟨W0, hW0, g0, hz0, B_F, B_V, B_Z⟩ := pro3s w #[.int .i64 (E : Nat), .int .i64 (P : Nat)] #[.int .i64 1, .bool neg, .string S] #[.int .u64 0, .int .u64 0] 23 26 29
 have HE := hid g0
 have HB_F := hid B_F
 have HB_V := hid B_V
 have HB_Z := hid B_Z
 clear g0 B_F B_V B_Z 
 go_enter Tryz.func9, Tryz.ntmps9
 go_upto_region 1 with (fail)
 rw [← hW0]
 clear hW0
 obtain ⟨c_1, c_2⟩ := HB_F.out.c2
 obtain ⟨c_3, c_4, c_5⟩ := HB_V.out.c3
 obtain ⟨c_6, c_7⟩ := HB_Z.out.c2
 go_wp2_with fail
 clear c_1 c_2 c_3 c_4 c_5 c_6 c_7
 refine (CW.out _).mono ?_
 rintro e w1 ⟨rfl, g1⟩
 have hz_w1 := g1.size
 replace HE := hid (HE.out.trans g1)
 replace HB_F := hid (HB_F.out.ext g1)
 replace HB_V := hid (HB_V.out.ext g1)
 replace HB_Z := hid (HB_Z.out.ext g1)
 have gA := Ext.alloc w1 (.cells #[.int .i64 (E : Nat), .int .i64 (P : Nat), .int .i64 0, .int .i64 (bias E : Nat)] 81)
 obtain ⟨c_8, c_9⟩ := (HB_F.out.ext gA).c2
 obtain ⟨c_10, c_11, c_12⟩ := (HB_V.out.ext gA).c3
 obtain ⟨c_13, c_14⟩ := (HB_Z.out.ext gA).c2
 go_wp2_with fail
 clear gA c_8 c_9 c_10 c_11 c_12 c_13 c_14
 obtain ⟨W2, hW2, g2, hy2, B_M⟩ := pro1 w1 #[.int .i64 (E : Nat), .int .i64 (P : Nat), .int .i64 0, .int .i64 (bias E : Nat)] 81
 rw [← hW2]
 clear hW2
 have hz_W2 := g2.size
 replace HE := hid (HE.out.trans g2)
 replace HB_F := hid (HB_F.out.ext g2)
 replace HB_V := hid (HB_V.out.ext g2)
 replace HB_Z := hid (HB_Z.out.ext g2)
 have HB_M := hid B_M
 clear B_M
 refine (CP.out _ (HP.out.ext HE.out)).mono ?_
 rintro e w3 ⟨v1, rfl, kx, g3⟩
 have hz_w3 := g3.size
 replace HE := hid (HE.out.trans g3)
 replace HB_F := hid (HB_F.out.ext g3)
 replace HB_V := hid (HB_V.out.ext g3)
 replace HB_Z := hid (HB_Z.out.ext g3)
 replace HB_M := hid (HB_M.out.ext g3)
 obtain ⟨ng, a, n, c, a', n', c', rfl⟩ := kx.shape
 have gA := Ext.trans (Ext.alloc w3 (.cells #[.bool ng, .slice a n c, .slice a' n' c'] 40)) (Ext.alloc _ (.cells #[.int .u64 0, .int .u64 0] 29))
 obtain ⟨c_15, c_16⟩ := (HB_F.out.ext gA).c2
 obtain ⟨c_17, c_18, c_19⟩ := (HB_V.out.ext gA).c3
 obtain ⟨c_20, c_21⟩ := (HB_Z.out.ext gA).c2
 obtain ⟨c_22, c_23, c_24, c_25⟩ := (HB_M.out.ext gA).c4
 go_upto_region 8 with (fail)
 clear gA c_15 c_16 c_17 c_18 c_19 c_20 c_21 c_22 c_23 c_24 c_25
 obtain ⟨W4, hW4, g4, hy4, B_X, B_Y⟩ := pro2s w3 #[.bool ng, .slice a n c, .slice a' n' c'] #[.int .u64 0, .int .u64 0] 40 29
 rw [← hW4]
 clear hW4
 have hz_W4 := g4.size
 replace HE := hid (HE.out.trans g4)
 replace HB_F := hid (HB_F.out.ext g4)
 replace HB_V := hid (HB_V.out.ext g4)
 replace HB_Z := hid (HB_Z.out.ext g4)
 replace HB_M := hid (HB_M.out.ext g4)
 replace kx := kx.ext g4
 have HB_X := hid B_X
 have HB_Y := hid B_Y
 clear B_X B_Y
 obtain ⟨c_26, c_27⟩ := HB_F.out.c2
 obtain ⟨c_28, c_29, c_30⟩ := HB_V.out.c3
 obtain ⟨c_31, c_32⟩ := HB_Z.out.c2
 obtain ⟨c_33, c_34, c_35, c_36⟩ := HB_M.out.c4
 obtain ⟨c_37, c_38, c_39⟩ := HB_X.out.c3
 obtain ⟨c_40, c_41⟩ := HB_Y.out.c2
 go_wp2_with fail
 clear c_26 c_27 c_28 c_29 c_30 c_31 c_32 c_33 c_34 c_35 c_36 c_37 c_38 c_39 c_40 c_41
 refine (CX.out _).mono ?_
 rintro e w5 ⟨rfl, g5⟩
 have hz_w5 := g5.size
 replace HE := hid (HE.out.trans g5)
 replace HB_F := hid (HB_F.out.ext g5)
 replace HB_V := hid (HB_V.out.ext g5)
 replace HB_Z := hid (HB_Z.out.ext g5)
 replace HB_M := hid (HB_M.out.ext g5)
 replace HB_X := hid (HB_X.out.ext g5)
 replace HB_Y := hid (HB_Y.out.ext g5)
 replace kx := kx.ext g5
 obtain ⟨c_42, c_43⟩ := HB_F.out.c2
 obtain ⟨c_44, c_45, c_46⟩ := HB_V.out.c3
 obtain ⟨c_47, c_48⟩ := HB_Z.out.c2
 obtain ⟨c_49, c_50, c_51, c_52⟩ := HB_M.out.c4
 obtain ⟨c_53, c_54, c_55⟩ := HB_X.out.c3
 obtain ⟨c_56, c_57⟩ := HB_Y.out.c2
 obtain ⟨f_58, f_59⟩ := HB_Y.out.f2
 go_wp2_with fail
 clear c_42 c_43 c_44 c_45 c_46 c_47 c_48 c_49 c_50 c_51 c_52 c_53 c_54 c_55 c_56 c_57 f_58 f_59
 obtain ⟨W6, hW6, g6, q6, B6, hy6, ho6⟩ := sto2 HE.out (by omega) HB_Y.out (by decide) (.int .u64 (o0 : Nat)) (.int .u64 (o1 : Nat))
 rw [← hW6]
 clear hW6
 replace HE := hid g6
 replace HB_F := hid (ho6 _ _ _ (by omega) HB_F.out)
 replace HB_V := hid (ho6 _ _ _ (by omega) HB_V.out)
 replace HB_Z := hid (ho6 _ _ _ (by omega) HB_Z.out)
 replace HB_M := hid (ho6 _ _ _ (by omega) HB_M.out)
 replace HB_X := hid (ho6 _ _ _ (by omega) HB_X.out)
 replace HB_Y := hid B6
 replace kx := kx.keep q6
 refine (CD.out _ (HT.out.ext HE.out)).mono ?_
 rintro e w7 ⟨rfl, g7⟩
 have hz_w7 := g7.size
 replace HE := hid (HE.out.trans g7)
 replace HB_F := hid (HB_F.out.ext g7)
 replace HB_V := hid (HB_V.out.ext g7)
 replace HB_Z := hid (HB_Z.out.ext g7)
 replace HB_M := hid (HB_M.out.ext g7)
 replace HB_X := hid (HB_X.out.ext g7)
 replace HB_Y := hid (HB_Y.out.ext g7)
 replace kx := kx.ext g7
 have gA := Ext.alloc w7 (.cells #[.int .i64 1, .bool neg, .string S] 26)
 obtain ⟨c_60, c_61⟩ := (HB_F.out.ext gA).c2
 obtain ⟨c_62, c_63, c_64⟩ := (HB_V.out.ext gA).c3
 obtain ⟨c_65, c_66⟩ := (HB_Z.out.ext gA).c2
 obtain ⟨c_67, c_68, c_69, c_70⟩ := (HB_M.out.ext gA).c4
 obtain ⟨c_71, c_72, c_73⟩ := (HB_X.out.ext gA).c3
 obtain ⟨c_74, c_75⟩ := (HB_Y.out.ext gA).c2
 obtain ⟨f_76, f_77⟩ := (HB_Z.out.ext gA).f2
 go_wp2_with fail
 clear gA c_60 c_61 c_62 c_63 c_64 c_65 c_66 c_67 c_68 c_69 c_70 c_71 c_72 c_73 c_74 c_75 f_76 f_77
 obtain ⟨W8, hW8, g8, hy8, B_D⟩ := pro1 w7 #[.int .i64 1, .bool neg, .string S] 26
 rw [← hW8]
 clear hW8
 have hz_W8 := g8.size
 replace HE := hid (HE.out.trans g8)
 replace HB_F := hid (HB_F.out.ext g8)
 replace HB_V := hid (HB_V.out.ext g8)
 replace HB_Z := hid (HB_Z.out.ext g8)
 replace HB_M := hid (HB_M.out.ext g8)
 replace HB_X := hid (HB_X.out.ext g8)
 replace HB_Y := hid (HB_Y.out.ext g8)
 replace kx := kx.ext g8
 have HB_D := hid B_D
 clear B_D
 obtain ⟨W9, hW9, g9, q9, B9, hy9, ho9⟩ := sto2 HE.out (by omega) HB_Z.out (by decide) (.int .u64 (o0 : Nat)) (.int .u64 (o1 : Nat))
 rw [← hW9]
 clear hW9
 replace HE := hid g9
 replace HB_F := hid (ho9 _ _ _ (by omega) HB_F.out)
 replace HB_V := hid (ho9 _ _ _ (by omega) HB_V.out)
 replace HB_M := hid (ho9 _ _ _ (by omega) HB_M.out)
 replace HB_X := hid (ho9 _ _ _ (by omega) HB_X.out)
 replace HB_Y := hid (ho9 _ _ _ (by omega) HB_Y.out)
 replace HB_D := hid (ho9 _ _ _ (by omega) HB_D.out)
 replace HB_Z := hid B9
 replace kx := kx.keep q9
 obtain ⟨c_78, c_79⟩ := HB_Z.out.c2
 refine bodyPost_ret (v := .tuple #[.agg #[.int .u64 (o0 : Nat), .int .u64 (o1 : Nat)], .int .i64 0]) (by simp [results, Tryz.results9, go_sem, c_78, c_79]) rfl ⟨rfl, HE.out⟩
set_option maxRecDepth 100000 in
set_option maxHeartbeats 4000000 in
theorem Encode_2s (E P : Nat) (neg : Bool) (S : ByteArray) (q : Rat) (w : World) (hF : Fmt E P) (CP : Hid (∀ w, WM w → Calls Tryz.prog 42 #[.string S] w fun e w' => ∃ v, e = .returned (.tuple #[v, .int .i64 0]) ∧ NumV w' v q ∧ Ext w w')) (hw : WM w) (hT : Tabs w) (o0 o1 : Nat) (CD : Hid (∀ w, Tabs w → Calls Tryz.prog 37 #[.agg #[.int .i64 (E : Nat), .int .i64 (P : Nat)], .agg #[.int .u64 (o0 : Nat), .int .u64 (o1 : Nat)]] w fun e w' => e = .returned (.tuple #[.agg #[.int .i64 2, .bool neg, .string S], .int .i64 0]) ∧ Ext w w')) (l : Int) (K : Nat) (sx : SmQ K q) (hK : K ≤ 12000) (hl : q ≠ 0 → IsLog (absQ q) l) (hW : Word (rnd E P (bias E) 0 q l).1 = .agg #[.int .u64 (o0 : Nat), .int .u64 (o1 : Nat)]) :
  Calls Tryz.prog 9 #[.agg #[.int .i64 (E : Nat), .int .i64 (P : Nat)], .agg #[.int .i64 2, .bool neg, .string S]] w fun e w' => e = .returned (.tuple #[.agg #[.int .u64 (o0 : Nat), .int .u64 (o1 : Nat)], .int .i64 0]) ∧ Ext w w' := by
 obtain ⟨fl, hfl⟩ : ∃ f, f = (rnd E P (bias E) 0 q l).2 := ⟨_, rfl⟩
 have CX : Hid (∀ v w, NumV w v q → Tabs w → Calls Tryz.prog 44 #[.agg #[.int .i64 (E : Nat), .int .i64 (P : Nat), .int .i64 0, .int .i64 (bias E : Nat)], v] w fun e w' => e = .returned (.tuple #[.agg #[.int .u64 o0, .int .u64 o1], .int .i64 (fl : Nat)]) ∧ Ext w w') := hid fun v w h hT => by
  have := rnd_c E P (bias E) 0 v q l K w hF (by decide) rfl h sx hK hl hT
  unfold EndPost at this
  rwa [hW, ← hfl] at this
 clear hW sx hK hl hfl
 have CW := hid (fun w => with_nil E P w hF)
 have HP := hid hw
 have HT := hid hT
 have HF := hid hF
 clear hw hT hF
 obtain ⟨W0, hW0, g0, hz0, B_F, B_V, B_Z⟩ := pro3s w #[.int .i64 (E : Nat), .int .i64 (P : Nat)] #[.int .i64 2, .bool neg, .string S] #[.int .u64 0, .int .u64 0] 23 26 29
 have HE := hid g0
 have HB_F := hid B_F
 have HB_V := hid B_V
 have HB_Z := hid B_Z
 clear g0 B_F B_V B_Z 
 go_enter Tryz.func9, Tryz.ntmps9
 go_upto_region 1 with (fail)
 rw [← hW0]
 clear hW0
 obtain ⟨c_1, c_2⟩ := HB_F.out.c2
 obtain ⟨c_3, c_4, c_5⟩ := HB_V.out.c3
 obtain ⟨c_6, c_7⟩ := HB_Z.out.c2
 go_wp2_with fail
 clear c_1 c_2 c_3 c_4 c_5 c_6 c_7
 refine (CW.out _).mono ?_
 rintro e w1 ⟨rfl, g1⟩
 have hz_w1 := g1.size
 replace HE := hid (HE.out.trans g1)
 replace HB_F := hid (HB_F.out.ext g1)
 replace HB_V := hid (HB_V.out.ext g1)
 replace HB_Z := hid (HB_Z.out.ext g1)
 have gA := Ext.alloc w1 (.cells #[.int .i64 (E : Nat), .int .i64 (P : Nat), .int .i64 0, .int .i64 (bias E : Nat)] 81)
 obtain ⟨c_8, c_9⟩ := (HB_F.out.ext gA).c2
 obtain ⟨c_10, c_11, c_12⟩ := (HB_V.out.ext gA).c3
 obtain ⟨c_13, c_14⟩ := (HB_Z.out.ext gA).c2
 go_wp2_with fail
 clear gA c_8 c_9 c_10 c_11 c_12 c_13 c_14
 obtain ⟨W2, hW2, g2, hy2, B_M⟩ := pro1 w1 #[.int .i64 (E : Nat), .int .i64 (P : Nat), .int .i64 0, .int .i64 (bias E : Nat)] 81
 rw [← hW2]
 clear hW2
 have hz_W2 := g2.size
 replace HE := hid (HE.out.trans g2)
 replace HB_F := hid (HB_F.out.ext g2)
 replace HB_V := hid (HB_V.out.ext g2)
 replace HB_Z := hid (HB_Z.out.ext g2)
 have HB_M := hid B_M
 clear B_M
 refine (CP.out _ (HP.out.ext HE.out)).mono ?_
 rintro e w3 ⟨v1, rfl, kx, g3⟩
 have hz_w3 := g3.size
 replace HE := hid (HE.out.trans g3)
 replace HB_F := hid (HB_F.out.ext g3)
 replace HB_V := hid (HB_V.out.ext g3)
 replace HB_Z := hid (HB_Z.out.ext g3)
 replace HB_M := hid (HB_M.out.ext g3)
 obtain ⟨ng, a, n, c, a', n', c', rfl⟩ := kx.shape
 have gA := Ext.trans (Ext.alloc w3 (.cells #[.bool ng, .slice a n c, .slice a' n' c'] 40)) (Ext.alloc _ (.cells #[.int .u64 0, .int .u64 0] 29))
 obtain ⟨c_15, c_16⟩ := (HB_F.out.ext gA).c2
 obtain ⟨c_17, c_18, c_19⟩ := (HB_V.out.ext gA).c3
 obtain ⟨c_20, c_21⟩ := (HB_Z.out.ext gA).c2
 obtain ⟨c_22, c_23, c_24, c_25⟩ := (HB_M.out.ext gA).c4
 go_upto_region 8 with (fail)
 clear gA c_15 c_16 c_17 c_18 c_19 c_20 c_21 c_22 c_23 c_24 c_25
 obtain ⟨W4, hW4, g4, hy4, B_X, B_Y⟩ := pro2s w3 #[.bool ng, .slice a n c, .slice a' n' c'] #[.int .u64 0, .int .u64 0] 40 29
 rw [← hW4]
 clear hW4
 have hz_W4 := g4.size
 replace HE := hid (HE.out.trans g4)
 replace HB_F := hid (HB_F.out.ext g4)
 replace HB_V := hid (HB_V.out.ext g4)
 replace HB_Z := hid (HB_Z.out.ext g4)
 replace HB_M := hid (HB_M.out.ext g4)
 replace kx := kx.ext g4
 have HB_X := hid B_X
 have HB_Y := hid B_Y
 clear B_X B_Y
 obtain ⟨c_26, c_27⟩ := HB_F.out.c2
 obtain ⟨c_28, c_29, c_30⟩ := HB_V.out.c3
 obtain ⟨c_31, c_32⟩ := HB_Z.out.c2
 obtain ⟨c_33, c_34, c_35, c_36⟩ := HB_M.out.c4
 obtain ⟨c_37, c_38, c_39⟩ := HB_X.out.c3
 obtain ⟨c_40, c_41⟩ := HB_Y.out.c2
 go_wp2_with fail
 clear c_26 c_27 c_28 c_29 c_30 c_31 c_32 c_33 c_34 c_35 c_36 c_37 c_38 c_39 c_40 c_41
 refine (CX.out _ _ kx (HT.out.ext HE.out)).mono ?_
 rintro e w5 ⟨rfl, g5⟩
 have hz_w5 := g5.size
 replace HE := hid (HE.out.trans g5)
 replace HB_F := hid (HB_F.out.ext g5)
 replace HB_V := hid (HB_V.out.ext g5)
 replace HB_Z := hid (HB_Z.out.ext g5)
 replace HB_M := hid (HB_M.out.ext g5)
 replace HB_X := hid (HB_X.out.ext g5)
 replace HB_Y := hid (HB_Y.out.ext g5)
 replace kx := kx.ext g5
 obtain ⟨c_42, c_43⟩ := HB_F.out.c2
 obtain ⟨c_44, c_45, c_46⟩ := HB_V.out.c3
 obtain ⟨c_47, c_48⟩ := HB_Z.out.c2
 obtain ⟨c_49, c_50, c_51, c_52⟩ := HB_M.out.c4
 obtain ⟨c_53, c_54, c_55⟩ := HB_X.out.c3
 obtain ⟨c_56, c_57⟩ := HB_Y.out.c2
 obtain ⟨f_58, f_59⟩ := HB_Y.out.f2
 go_wp2_with fail
 clear c_42 c_43 c_44 c_45 c_46 c_47 c_48 c_49 c_50 c_51 c_52 c_53 c_54 c_55 c_56 c_57 f_58 f_59
 obtain ⟨W6, hW6, g6, q6, B6, hy6, ho6⟩ := sto2 HE.out (by omega) HB_Y.out (by decide) (.int .u64 (o0 : Nat)) (.int .u64 (o1 : Nat))
 rw [← hW6]
 clear hW6
 replace HE := hid g6
 replace HB_F := hid (ho6 _ _ _ (by omega) HB_F.out)
 replace HB_V := hid (ho6 _ _ _ (by omega) HB_V.out)
 replace HB_Z := hid (ho6 _ _ _ (by omega) HB_Z.out)
 replace HB_M := hid (ho6 _ _ _ (by omega) HB_M.out)
 replace HB_X := hid (ho6 _ _ _ (by omega) HB_X.out)
 replace HB_Y := hid B6
 replace kx := kx.keep q6
 refine (CD.out _ (HT.out.ext HE.out)).mono ?_
 rintro e w7 ⟨rfl, g7⟩
 have hz_w7 := g7.size
 replace HE := hid (HE.out.trans g7)
 replace HB_F := hid (HB_F.out.ext g7)
 replace HB_V := hid (HB_V.out.ext g7)
 replace HB_Z := hid (HB_Z.out.ext g7)
 replace HB_M := hid (HB_M.out.ext g7)
 replace HB_X := hid (HB_X.out.ext g7)
 replace HB_Y := hid (HB_Y.out.ext g7)
 replace kx := kx.ext g7
 have gA := Ext.alloc w7 (.cells #[.int .i64 2, .bool neg, .string S] 26)
 obtain ⟨c_60, c_61⟩ := (HB_F.out.ext gA).c2
 obtain ⟨c_62, c_63, c_64⟩ := (HB_V.out.ext gA).c3
 obtain ⟨c_65, c_66⟩ := (HB_Z.out.ext gA).c2
 obtain ⟨c_67, c_68, c_69, c_70⟩ := (HB_M.out.ext gA).c4
 obtain ⟨c_71, c_72, c_73⟩ := (HB_X.out.ext gA).c3
 obtain ⟨c_74, c_75⟩ := (HB_Y.out.ext gA).c2
 obtain ⟨f_76, f_77⟩ := (HB_Z.out.ext gA).f2
 go_wp2_with fail
 clear gA c_60 c_61 c_62 c_63 c_64 c_65 c_66 c_67 c_68 c_69 c_70 c_71 c_72 c_73 c_74 c_75 f_76 f_77
 obtain ⟨W8, hW8, g8, hy8, B_D⟩ := pro1 w7 #[.int .i64 2, .bool neg, .string S] 26
 rw [← hW8]
 clear hW8
 have hz_W8 := g8.size
 replace HE := hid (HE.out.trans g8)
 replace HB_F := hid (HB_F.out.ext g8)
 replace HB_V := hid (HB_V.out.ext g8)
 replace HB_Z := hid (HB_Z.out.ext g8)
 replace HB_M := hid (HB_M.out.ext g8)
 replace HB_X := hid (HB_X.out.ext g8)
 replace HB_Y := hid (HB_Y.out.ext g8)
 replace kx := kx.ext g8
 have HB_D := hid B_D
 clear B_D
 obtain ⟨W9, hW9, g9, q9, B9, hy9, ho9⟩ := sto2 HE.out (by omega) HB_Z.out (by decide) (.int .u64 (o0 : Nat)) (.int .u64 (o1 : Nat))
 rw [← hW9]
 clear hW9
 replace HE := hid g9
 replace HB_F := hid (ho9 _ _ _ (by omega) HB_F.out)
 replace HB_V := hid (ho9 _ _ _ (by omega) HB_V.out)
 replace HB_M := hid (ho9 _ _ _ (by omega) HB_M.out)
 replace HB_X := hid (ho9 _ _ _ (by omega) HB_X.out)
 replace HB_Y := hid (ho9 _ _ _ (by omega) HB_Y.out)
 replace HB_D := hid (ho9 _ _ _ (by omega) HB_D.out)
 replace HB_Z := hid B9
 replace kx := kx.keep q9
 obtain ⟨c_78, c_79⟩ := HB_Z.out.c2
 refine bodyPost_ret (v := .tuple #[.agg #[.int .u64 (o0 : Nat), .int .u64 (o1 : Nat)], .int .i64 0]) (by simp [results, Tryz.results9, go_sem, c_78, c_79]) rfl ⟨rfl, HE.out⟩
set_option maxRecDepth 100000 in
set_option maxHeartbeats 4000000 in
theorem Encode_3s (E P : Nat) (neg : Bool) (S : ByteArray) (q : Rat) (w : World) (hF : Fmt E P) (CP : Hid (∀ w, WM w → Calls Tryz.prog 42 #[.string S] w fun e w' => ∃ v, e = .returned (.tuple #[v, .int .i64 0]) ∧ NumV w' v q ∧ Ext w w')) (hw : WM w) (hT : Tabs w) (o0 o1 : Nat) (CD : Hid (∀ w, Tabs w → Calls Tryz.prog 37 #[.agg #[.int .i64 (E : Nat), .int .i64 (P : Nat)], .agg #[.int .u64 (o0 : Nat), .int .u64 (o1 : Nat)]] w fun e w' => e = .returned (.tuple #[.agg #[.int .i64 3, .bool neg, .string S], .int .i64 0]) ∧ Ext w w')) (hW : Word (infw E P neg) = .agg #[.int .u64 (o0 : Nat), .int .u64 (o1 : Nat)]) :
  Calls Tryz.prog 9 #[.agg #[.int .i64 (E : Nat), .int .i64 (P : Nat)], .agg #[.int .i64 3, .bool neg, .string S]] w fun e w' => e = .returned (.tuple #[.agg #[.int .u64 (o0 : Nat), .int .u64 (o1 : Nat)], .int .i64 0]) ∧ Ext w w' := by
 have CX : Hid (∀ w, Calls Tryz.prog 45 #[.agg #[.int .i64 (E : Nat), .int .i64 (P : Nat), .int .i64 0, .int .i64 (bias E : Nat)], .bool neg] w fun e w' => e = .returned (.agg #[.int .u64 o0, .int .u64 o1]) ∧ Ext w w') := hid fun w => by
  have := infinite_c E P 0 (bias E) neg w hF
  rwa [hW] at this
 clear hW
 have CW := hid (fun w => with_nil E P w hF)
 have HP := hid hw
 have HT := hid hT
 have HF := hid hF
 clear hw hT hF
 obtain ⟨W0, hW0, g0, hz0, B_F, B_V, B_Z⟩ := pro3s w #[.int .i64 (E : Nat), .int .i64 (P : Nat)] #[.int .i64 3, .bool neg, .string S] #[.int .u64 0, .int .u64 0] 23 26 29
 have HE := hid g0
 have HB_F := hid B_F
 have HB_V := hid B_V
 have HB_Z := hid B_Z
 clear g0 B_F B_V B_Z 
 go_enter Tryz.func9, Tryz.ntmps9
 go_upto_region 1 with (fail)
 rw [← hW0]
 clear hW0
 obtain ⟨c_1, c_2⟩ := HB_F.out.c2
 obtain ⟨c_3, c_4, c_5⟩ := HB_V.out.c3
 obtain ⟨c_6, c_7⟩ := HB_Z.out.c2
 go_wp2_with fail
 clear c_1 c_2 c_3 c_4 c_5 c_6 c_7
 refine (CW.out _).mono ?_
 rintro e w1 ⟨rfl, g1⟩
 have hz_w1 := g1.size
 replace HE := hid (HE.out.trans g1)
 replace HB_F := hid (HB_F.out.ext g1)
 replace HB_V := hid (HB_V.out.ext g1)
 replace HB_Z := hid (HB_Z.out.ext g1)
 have gA := Ext.alloc w1 (.cells #[.int .i64 (E : Nat), .int .i64 (P : Nat), .int .i64 0, .int .i64 (bias E : Nat)] 81)
 obtain ⟨c_8, c_9⟩ := (HB_F.out.ext gA).c2
 obtain ⟨c_10, c_11, c_12⟩ := (HB_V.out.ext gA).c3
 obtain ⟨c_13, c_14⟩ := (HB_Z.out.ext gA).c2
 go_wp2_with fail
 clear gA c_8 c_9 c_10 c_11 c_12 c_13 c_14
 obtain ⟨W2, hW2, g2, hy2, B_M⟩ := pro1 w1 #[.int .i64 (E : Nat), .int .i64 (P : Nat), .int .i64 0, .int .i64 (bias E : Nat)] 81
 rw [← hW2]
 clear hW2
 have hz_W2 := g2.size
 replace HE := hid (HE.out.trans g2)
 replace HB_F := hid (HB_F.out.ext g2)
 replace HB_V := hid (HB_V.out.ext g2)
 replace HB_Z := hid (HB_Z.out.ext g2)
 have HB_M := hid B_M
 clear B_M
 refine (CP.out _ (HP.out.ext HE.out)).mono ?_
 rintro e w3 ⟨v1, rfl, kx, g3⟩
 have hz_w3 := g3.size
 replace HE := hid (HE.out.trans g3)
 replace HB_F := hid (HB_F.out.ext g3)
 replace HB_V := hid (HB_V.out.ext g3)
 replace HB_Z := hid (HB_Z.out.ext g3)
 replace HB_M := hid (HB_M.out.ext g3)
 obtain ⟨ng, a, n, c, a', n', c', rfl⟩ := kx.shape
 have gA := Ext.trans (Ext.alloc w3 (.cells #[.bool ng, .slice a n c, .slice a' n' c'] 40)) (Ext.alloc _ (.cells #[.int .u64 0, .int .u64 0] 29))
 obtain ⟨c_15, c_16⟩ := (HB_F.out.ext gA).c2
 obtain ⟨c_17, c_18, c_19⟩ := (HB_V.out.ext gA).c3
 obtain ⟨c_20, c_21⟩ := (HB_Z.out.ext gA).c2
 obtain ⟨c_22, c_23, c_24, c_25⟩ := (HB_M.out.ext gA).c4
 go_upto_region 8 with (fail)
 clear gA c_15 c_16 c_17 c_18 c_19 c_20 c_21 c_22 c_23 c_24 c_25
 obtain ⟨W4, hW4, g4, hy4, B_X, B_Y⟩ := pro2s w3 #[.bool ng, .slice a n c, .slice a' n' c'] #[.int .u64 0, .int .u64 0] 40 29
 rw [← hW4]
 clear hW4
 have hz_W4 := g4.size
 replace HE := hid (HE.out.trans g4)
 replace HB_F := hid (HB_F.out.ext g4)
 replace HB_V := hid (HB_V.out.ext g4)
 replace HB_Z := hid (HB_Z.out.ext g4)
 replace HB_M := hid (HB_M.out.ext g4)
 replace kx := kx.ext g4
 have HB_X := hid B_X
 have HB_Y := hid B_Y
 clear B_X B_Y
 obtain ⟨c_26, c_27⟩ := HB_F.out.c2
 obtain ⟨c_28, c_29, c_30⟩ := HB_V.out.c3
 obtain ⟨c_31, c_32⟩ := HB_Z.out.c2
 obtain ⟨c_33, c_34, c_35, c_36⟩ := HB_M.out.c4
 obtain ⟨c_37, c_38, c_39⟩ := HB_X.out.c3
 obtain ⟨c_40, c_41⟩ := HB_Y.out.c2
 go_wp2_with fail
 clear c_26 c_27 c_28 c_29 c_30 c_31 c_32 c_33 c_34 c_35 c_36 c_37 c_38 c_39 c_40 c_41
 refine (CX.out _).mono ?_
 rintro e w5 ⟨rfl, g5⟩
 have hz_w5 := g5.size
 replace HE := hid (HE.out.trans g5)
 replace HB_F := hid (HB_F.out.ext g5)
 replace HB_V := hid (HB_V.out.ext g5)
 replace HB_Z := hid (HB_Z.out.ext g5)
 replace HB_M := hid (HB_M.out.ext g5)
 replace HB_X := hid (HB_X.out.ext g5)
 replace HB_Y := hid (HB_Y.out.ext g5)
 replace kx := kx.ext g5
 obtain ⟨c_42, c_43⟩ := HB_F.out.c2
 obtain ⟨c_44, c_45, c_46⟩ := HB_V.out.c3
 obtain ⟨c_47, c_48⟩ := HB_Z.out.c2
 obtain ⟨c_49, c_50, c_51, c_52⟩ := HB_M.out.c4
 obtain ⟨c_53, c_54, c_55⟩ := HB_X.out.c3
 obtain ⟨c_56, c_57⟩ := HB_Y.out.c2
 obtain ⟨f_58, f_59⟩ := HB_Y.out.f2
 go_wp2_with fail
 clear c_42 c_43 c_44 c_45 c_46 c_47 c_48 c_49 c_50 c_51 c_52 c_53 c_54 c_55 c_56 c_57 f_58 f_59
 obtain ⟨W6, hW6, g6, q6, B6, hy6, ho6⟩ := sto2 HE.out (by omega) HB_Y.out (by decide) (.int .u64 (o0 : Nat)) (.int .u64 (o1 : Nat))
 rw [← hW6]
 clear hW6
 replace HE := hid g6
 replace HB_F := hid (ho6 _ _ _ (by omega) HB_F.out)
 replace HB_V := hid (ho6 _ _ _ (by omega) HB_V.out)
 replace HB_Z := hid (ho6 _ _ _ (by omega) HB_Z.out)
 replace HB_M := hid (ho6 _ _ _ (by omega) HB_M.out)
 replace HB_X := hid (ho6 _ _ _ (by omega) HB_X.out)
 replace HB_Y := hid B6
 replace kx := kx.keep q6
 refine (CD.out _ (HT.out.ext HE.out)).mono ?_
 rintro e w7 ⟨rfl, g7⟩
 have hz_w7 := g7.size
 replace HE := hid (HE.out.trans g7)
 replace HB_F := hid (HB_F.out.ext g7)
 replace HB_V := hid (HB_V.out.ext g7)
 replace HB_Z := hid (HB_Z.out.ext g7)
 replace HB_M := hid (HB_M.out.ext g7)
 replace HB_X := hid (HB_X.out.ext g7)
 replace HB_Y := hid (HB_Y.out.ext g7)
 replace kx := kx.ext g7
 have gA := Ext.alloc w7 (.cells #[.int .i64 3, .bool neg, .string S] 26)
 obtain ⟨c_60, c_61⟩ := (HB_F.out.ext gA).c2
 obtain ⟨c_62, c_63, c_64⟩ := (HB_V.out.ext gA).c3
 obtain ⟨c_65, c_66⟩ := (HB_Z.out.ext gA).c2
 obtain ⟨c_67, c_68, c_69, c_70⟩ := (HB_M.out.ext gA).c4
 obtain ⟨c_71, c_72, c_73⟩ := (HB_X.out.ext gA).c3
 obtain ⟨c_74, c_75⟩ := (HB_Y.out.ext gA).c2
 obtain ⟨f_76, f_77⟩ := (HB_Z.out.ext gA).f2
 go_wp2_with fail
 clear gA c_60 c_61 c_62 c_63 c_64 c_65 c_66 c_67 c_68 c_69 c_70 c_71 c_72 c_73 c_74 c_75 f_76 f_77
 obtain ⟨W8, hW8, g8, hy8, B_D⟩ := pro1 w7 #[.int .i64 3, .bool neg, .string S] 26
 rw [← hW8]
 clear hW8
 have hz_W8 := g8.size
 replace HE := hid (HE.out.trans g8)
 replace HB_F := hid (HB_F.out.ext g8)
 replace HB_V := hid (HB_V.out.ext g8)
 replace HB_Z := hid (HB_Z.out.ext g8)
 replace HB_M := hid (HB_M.out.ext g8)
 replace HB_X := hid (HB_X.out.ext g8)
 replace HB_Y := hid (HB_Y.out.ext g8)
 replace kx := kx.ext g8
 have HB_D := hid B_D
 clear B_D
 obtain ⟨W9, hW9, g9, q9, B9, hy9, ho9⟩ := sto2 HE.out (by omega) HB_Z.out (by decide) (.int .u64 (o0 : Nat)) (.int .u64 (o1 : Nat))
 rw [← hW9]
 clear hW9
 replace HE := hid g9
 replace HB_F := hid (ho9 _ _ _ (by omega) HB_F.out)
 replace HB_V := hid (ho9 _ _ _ (by omega) HB_V.out)
 replace HB_M := hid (ho9 _ _ _ (by omega) HB_M.out)
 replace HB_X := hid (ho9 _ _ _ (by omega) HB_X.out)
 replace HB_Y := hid (ho9 _ _ _ (by omega) HB_Y.out)
 replace HB_D := hid (ho9 _ _ _ (by omega) HB_D.out)
 replace HB_Z := hid B9
 replace kx := kx.keep q9
 obtain ⟨c_78, c_79⟩ := HB_Z.out.c2
 refine bodyPost_ret (v := .tuple #[.agg #[.int .u64 (o0 : Nat), .int .u64 (o1 : Nat)], .int .i64 0]) (by simp [results, Tryz.results9, go_sem, c_78, c_79]) rfl ⟨rfl, HE.out⟩
set_option maxRecDepth 100000 in
set_option maxHeartbeats 4000000 in
theorem Encode_4s (E P : Nat) (neg : Bool) (S : ByteArray) (q : Rat) (w : World) (hF : Fmt E P) (CP : Hid (∀ w, WM w → Calls Tryz.prog 42 #[.string S] w fun e w' => ∃ v, e = .returned (.tuple #[v, .int .i64 0]) ∧ NumV w' v q ∧ Ext w w')) (hw : WM w) (hT : Tabs w) (N : Nat) (hq : q = (N : Rat)) (hN : N < 2 ^ (P - 2)) (o0 o1 : Nat) (CD : Hid (∀ w, Tabs w → Calls Tryz.prog 37 #[.agg #[.int .i64 (E : Nat), .int .i64 (P : Nat)], .agg #[.int .u64 (o0 : Nat), .int .u64 (o1 : Nat)]] w fun e w' => e = .returned (.tuple #[.agg #[.int .i64 4, .bool neg, .string S], .int .i64 0]) ∧ Ext w w')) (hW : Word (infw E P neg ||| N ||| nanw E P) = .agg #[.int .u64 (o0 : Nat), .int .u64 (o1 : Nat)]) :
  Calls Tryz.prog 9 #[.agg #[.int .i64 (E : Nat), .int .i64 (P : Nat)], .agg #[.int .i64 4, .bool neg, .string S]] w fun e w' => e = .returned (.tuple #[.agg #[.int .u64 (o0 : Nat), .int .u64 (o1 : Nat)], .int .i64 0]) ∧ Ext w w' := by
 obtain ⟨hE, hP, hb, hEP, hb1⟩ := fmt_bounds hF
 have hw2 : IntKind.i64.wrap ((P : Int) - 2) = (P : Int) - 2 := IntWalk.i64_in _ (by omega)
 have hv2 : wrap64 ((P : Int) - 2) = (P : Int) - 2 := w64r _ (by omega)
 have hd1 : q.den = 1 := by rw [hq]; rfl
 have hn0 : ¬ q.num.sign < 0 := by rw [hq]; show ¬ ((N : Nat) : Int).sign < 0; rw [Int.sign_neg_iff]; omega
 obtain ⟨sg, hsg⟩ : ∃ s, s = q.num.sign := ⟨_, rfl⟩
 rw [← hsg] at hn0
 have hd : decide (sg < 0) = false := decide_eq_false hn0
 have e2 : (2 : Rat) ^ ((P : Int) - 2) = ((2 ^ (P - 2) : Nat) : Rat) := by rw [show (P : Int) - 2 = ((P - 2 : Nat) : Int) by omega, p2_nat]
 have hlt : q < (2 : Rat) ^ ((P : Int) - 2) := by rw [hq, e2, Rat.natCast_lt_natCast]; exact hN
 have hp2 : 2 ^ (P - 2) ≤ 2 ^ 120 := Nat.pow_le_pow_right (by decide) (by omega)
 have sx : SmQ 120 q := by rw [hq]; exact SmQ.nat (by decide) (by omega)
 obtain ⟨cc, hcc⟩ : ∃ s, s = cmpQ q ((2 : Rat) ^ ((P : Int) - 2)) := ⟨_, rfl⟩
 have hc : ¬ 0 ≤ cc := by rw [hcc]; unfold cmpQ; rw [if_pos hlt]; decide
 have hd2 : decide (0 ≤ cc) = false := decide_eq_false hc
 have CII : Hid (∀ v w, NumV w v q → Calls Tryz.prog 46 #[v] w fun e w' => e = .returned (.bool true) ∧ Ext w w') := hid fun v w h => by
  have := isInt_c v q w h
  rwa [decide_eq_true hd1] at this
 have CSG : Hid (∀ v w, NumV w v q → Calls Tryz.prog 27 #[v] w fun e w' => e = .returned (.int .i64 sg) ∧ Ext w w') := hid fun v w h => by rw [hsg]; exact sign_c v q w h
 have CTW : Hid (∀ w, Calls Tryz.prog 47 #[.int .i64 ((P : Int) - 2)] w fun e w' => ∃ v, e = .returned v ∧ NumV w' v ((2 : Rat) ^ ((P : Int) - 2)) ∧ Ext w w') := hid fun w => two_c ((P : Int) - 2) w (by omega) (by omega)
 have s2 : SmQ 12000 ((2 : Rat) ^ ((P : Int) - 2)) := by
  rw [show (P : Int) - 2 = ((P - 2 : Nat) : Int) by omega]; exact SmQ.p2 (by omega)
 have CCM : Hid (∀ u v w, NumV w u q → NumV w v ((2 : Rat) ^ ((P : Int) - 2)) → Calls Tryz.prog 19 #[u, v] w fun e w' => e = .returned (.int .i64 cc) ∧ Ext w w') := hid fun u v w h k => by
  rw [hcc]; exact Cmp_c u v _ _ 12000 w h k (sx.mono (by decide)) s2 (by decide)
 obtain ⟨a0, a1, ea⟩ := Word.shape (infw E P neg)
 obtain ⟨p0, p1, ep⟩ := Word.shape N
 obtain ⟨b0, b1, eb⟩ := Word.shape (infw E P neg ||| N)
 obtain ⟨c0, c1, ec⟩ := Word.shape (nanw E P)
 have i8 : W128 (infw E P neg) := Nat.lt_trans (infw_lt hF neg) (by decide)
 have n8 : W128 (nanw E P) := by
  unfold nanw
  show _ < 2 ^ 128
  exact Nat.or_lt_two_pow (Nat.lt_trans (infw_lt hF false) (by decide)) (Nat.pow_lt_pow_right (by decide) (by omega))
 have N8 : W128 N := by show N < 2 ^ 128; omega
 have b8 : W128 (infw E P neg ||| N) := show _ < 2 ^ 128 from Nat.or_lt_two_pow i8 N8
 have CIF : Hid (∀ w, Calls Tryz.prog 45 #[.agg #[.int .i64 (E : Nat), .int .i64 (P : Nat), .int .i64 0, .int .i64 (bias E : Nat)], .bool neg] w fun e w' => e = .returned (.agg #[.int .u64 a0, .int .u64 a1]) ∧ Ext w w') := hid fun w => by
  have := infinite_c E P 0 (bias E) neg w hF
  rwa [ea] at this
 have CPK : Hid (∀ v w, NumV w v q → Calls Tryz.prog 49 #[v] w fun e w' => e = .returned (.agg #[.int .u64 p0, .int .u64 p1]) ∧ Ext w w') := hid fun v w h => by
  have := packed_c v N w (by rw [← hq]; exact h) N8
  rwa [ep] at this
 have CBO : Hid (∀ w, Calls Tryz.prog 48 #[.agg #[.int .u64 a0, .int .u64 a1], .agg #[.int .u64 p0, .int .u64 p1]] w fun e w' => e = .returned (.agg #[.int .u64 b0, .int .u64 b1]) ∧ Ext w w') := hid fun w => by
  have := both_w (infw E P neg) N w i8 N8
  rwa [ea, ep, eb] at this
 have CNA : Hid (∀ w, Calls Tryz.prog 50 #[.agg #[.int .i64 (E : Nat), .int .i64 (P : Nat), .int .i64 0, .int .i64 (bias E : Nat)]] w fun e w' => e = .returned (.agg #[.int .u64 c0, .int .u64 c1]) ∧ Ext w w') := hid fun w => by
  have := nan_c E P 0 (bias E) w hF
  rwa [ec] at this
 have CBN : Hid (∀ w, Calls Tryz.prog 48 #[.agg #[.int .u64 b0, .int .u64 b1], .agg #[.int .u64 c0, .int .u64 c1]] w fun e w' => e = .returned (.agg #[.int .u64 o0, .int .u64 o1]) ∧ Ext w w') := hid fun w => by
  have := both_w (infw E P neg ||| N) (nanw E P) w b8 n8
  rwa [eb, ec, hW] at this
 clear hW
 clear hE hP hb hEP hb1 hd1 hn0 hsg e2 hlt hp2 sx hcc hc s2 ea ep eb ec i8 n8 N8 b8 hq hN
 have CW := hid (fun w => with_nil E P w hF)
 have HP := hid hw
 have HT := hid hT
 have HF := hid hF
 clear hw hT hF
 obtain ⟨W0, hW0, g0, hz0, B_F, B_V, B_Z⟩ := pro3s w #[.int .i64 (E : Nat), .int .i64 (P : Nat)] #[.int .i64 4, .bool neg, .string S] #[.int .u64 0, .int .u64 0] 23 26 29
 have HE := hid g0
 have HB_F := hid B_F
 have HB_V := hid B_V
 have HB_Z := hid B_Z
 clear g0 B_F B_V B_Z 
 go_enter Tryz.func9, Tryz.ntmps9
 go_upto_region 1 with (fail)
 rw [← hW0]
 clear hW0
 obtain ⟨c_1, c_2⟩ := HB_F.out.c2
 obtain ⟨c_3, c_4, c_5⟩ := HB_V.out.c3
 obtain ⟨c_6, c_7⟩ := HB_Z.out.c2
 go_wp2_with fail
 clear c_1 c_2 c_3 c_4 c_5 c_6 c_7
 refine (CW.out _).mono ?_
 rintro e w1 ⟨rfl, g1⟩
 have hz_w1 := g1.size
 replace HE := hid (HE.out.trans g1)
 replace HB_F := hid (HB_F.out.ext g1)
 replace HB_V := hid (HB_V.out.ext g1)
 replace HB_Z := hid (HB_Z.out.ext g1)
 have gA := Ext.alloc w1 (.cells #[.int .i64 (E : Nat), .int .i64 (P : Nat), .int .i64 0, .int .i64 (bias E : Nat)] 81)
 obtain ⟨c_8, c_9⟩ := (HB_F.out.ext gA).c2
 obtain ⟨c_10, c_11, c_12⟩ := (HB_V.out.ext gA).c3
 obtain ⟨c_13, c_14⟩ := (HB_Z.out.ext gA).c2
 go_wp2_with fail
 clear gA c_8 c_9 c_10 c_11 c_12 c_13 c_14
 obtain ⟨W2, hW2, g2, hy2, B_M⟩ := pro1 w1 #[.int .i64 (E : Nat), .int .i64 (P : Nat), .int .i64 0, .int .i64 (bias E : Nat)] 81
 rw [← hW2]
 clear hW2
 have hz_W2 := g2.size
 replace HE := hid (HE.out.trans g2)
 replace HB_F := hid (HB_F.out.ext g2)
 replace HB_V := hid (HB_V.out.ext g2)
 replace HB_Z := hid (HB_Z.out.ext g2)
 have HB_M := hid B_M
 clear B_M
 refine (CP.out _ (HP.out.ext HE.out)).mono ?_
 rintro e w3 ⟨v1, rfl, kx, g3⟩
 have hz_w3 := g3.size
 replace HE := hid (HE.out.trans g3)
 replace HB_F := hid (HB_F.out.ext g3)
 replace HB_V := hid (HB_V.out.ext g3)
 replace HB_Z := hid (HB_Z.out.ext g3)
 replace HB_M := hid (HB_M.out.ext g3)
 obtain ⟨ng, a, n, c, a', n', c', rfl⟩ := kx.shape
 have gA := Ext.trans (Ext.alloc w3 (.cells #[.bool ng, .slice a n c, .slice a' n' c'] 40)) (Ext.alloc _ (.cells #[.int .u64 0, .int .u64 0] 29))
 obtain ⟨c_15, c_16⟩ := (HB_F.out.ext gA).c2
 obtain ⟨c_17, c_18, c_19⟩ := (HB_V.out.ext gA).c3
 obtain ⟨c_20, c_21⟩ := (HB_Z.out.ext gA).c2
 obtain ⟨c_22, c_23, c_24, c_25⟩ := (HB_M.out.ext gA).c4
 go_upto_region 8 with (fail)
 clear gA c_15 c_16 c_17 c_18 c_19 c_20 c_21 c_22 c_23 c_24 c_25
 obtain ⟨W4, hW4, g4, hy4, B_X, B_Y⟩ := pro2s w3 #[.bool ng, .slice a n c, .slice a' n' c'] #[.int .u64 0, .int .u64 0] 40 29
 rw [← hW4]
 clear hW4
 have hz_W4 := g4.size
 replace HE := hid (HE.out.trans g4)
 replace HB_F := hid (HB_F.out.ext g4)
 replace HB_V := hid (HB_V.out.ext g4)
 replace HB_Z := hid (HB_Z.out.ext g4)
 replace HB_M := hid (HB_M.out.ext g4)
 replace kx := kx.ext g4
 have HB_X := hid B_X
 have HB_Y := hid B_Y
 clear B_X B_Y
 obtain ⟨c_26, c_27, c_28⟩ := HB_V.out.c3
 go_upto_region 17 with (fail)
 clear c_26 c_27 c_28
 have HS : Hid (∀ w', Ext W4 w' → w'.cell? ⟨w3.heap.size, 0, none⟩ = some (.bool ng) ∧ w'.cell? ⟨w3.heap.size, 1, none⟩ = some (.slice a n c) ∧ w'.cell? ⟨w3.heap.size, 2, none⟩ = some (.slice a' n' c') ∧ w'.cell? ⟨w1.heap.size, 0, none⟩ = some (.int .i64 (E : Nat)) ∧ w'.cell? ⟨w1.heap.size, 1, none⟩ = some (.int .i64 (P : Nat)) ∧ w'.cell? ⟨w1.heap.size, 2, none⟩ = some (.int .i64 0) ∧ w'.cell? ⟨w1.heap.size, 3, none⟩ = some (.int .i64 (bias E : Nat))) := hid fun w' h => ⟨(HB_X.out.ext h).cell 0, (HB_X.out.ext h).cell 1, (HB_X.out.ext h).cell 2, (HB_M.out.ext h).cell 0, (HB_M.out.ext h).cell 1, (HB_M.out.ext h).cell 2, (HB_M.out.ext h).cell 3⟩
 have hb0 : Ext W4 W4.drew := Below.drew (Below.refl _ W4)
 refine wp_region_held_drew (S := fun w' => w'.cell? ⟨w3.heap.size, 0, none⟩ = some (.bool ng) ∧ w'.cell? ⟨w3.heap.size, 1, none⟩ = some (.slice a n c) ∧ w'.cell? ⟨w3.heap.size, 2, none⟩ = some (.slice a' n' c') ∧ w'.cell? ⟨w1.heap.size, 0, none⟩ = some (.int .i64 (E : Nat)) ∧ w'.cell? ⟨w1.heap.size, 1, none⟩ = some (.int .i64 (P : Nat)) ∧ w'.cell? ⟨w1.heap.size, 2, none⟩ = some (.int .i64 0) ∧ w'.cell? ⟨w1.heap.size, 3, none⟩ = some (.int .i64 (bias E : Nat))) (by kernel_rfl) (HS.out _ hb0) (fun hHeld => ?_)
 refine wpAnyH_take (i := 0) (oi := { dst := some 55, op := Op.load 40 (Operand.tmp 8), type := 40, pos := "floats.go:84", after := #[], guard := none }) (v := ?_) rfl (by kernel_rfl) (by kernel_rfl) (by kernel_rfl) (fun _ _ _ h => h) (Or.inl ⟨by rfl, ?_⟩) (by assumption) ?_
 rotate_left
 ·intro w' hSw
  (try dsimp only at hSw)
  go_simp <;> with_reducible rfl
 try simp only [Act.put, List.setIfInBounds_toArray, List.set_cons_zero, List.set_cons_succ]
 refine wpAnyH_ready (rs := [1]) (by kernel_rfl) (by simp) ?_
 refine AllReadyH.cons (o := { dst := some 56, op := Op.call { callee := Callee.value (Operand.func 46), args := #[Operand.tmp 55], argTypes := #[40] }, type := 4, pos := "floats.go:84", after := #[{ on := 0, ground := Ground.data }], guard := none }) rfl (fun K hK => ?_) AllReadyH.nil
 go_simp
 refine (CII.out _ _ (kx.ext hb0)).mono ?_
 rintro e x29_1 ⟨rfl, g1⟩
 have hb1 : Ext W4 x29_1 := hb0.trans g1
 try dsimp only
 refine hK.out _ _ (HS.out _ hb1) ?_
 clear hHeld
 intro hHeld
 clear hK K
 try simp only [Act.put, List.setIfInBounds_toArray, List.set_cons_zero, List.set_cons_succ]
 refine wpAnyH_take (i := 2) (oi := { dst := some 57, op := Op.unOp UnOp.not 4 (Operand.tmp 56), type := 4, pos := "floats.go:84", after := #[{ on := 1, ground := Ground.data }], guard := none }) (v := ?_) rfl (by kernel_rfl) (by kernel_rfl) (by kernel_rfl) (fun _ _ _ h => h) (Or.inl ⟨by rfl, ?_⟩) (by assumption) ?_
 rotate_left
 ·intro w' hSw
  (try dsimp only at hSw)
  go_simp <;> with_reducible rfl
 try simp only [Act.put, List.setIfInBounds_toArray, List.set_cons_zero, List.set_cons_succ]
 refine wpAnyH_take (i := 3) (oi := { dst := some 58, op := Op.move (Operand.tmp 57), type := 4, pos := "floats.go:84", after := #[{ on := 2, ground := Ground.data }, { on := 1, ground := Ground.chain }], guard := none }) (v := ?_) rfl (by kernel_rfl) (by kernel_rfl) (by kernel_rfl) (fun _ _ _ h => h) (Or.inl ⟨by rfl, ?_⟩) (by assumption) ?_
 rotate_left
 ·intro w' hSw
  (try dsimp only at hSw)
  go_simp <;> with_reducible rfl
 try simp only [Act.put, List.setIfInBounds_toArray, List.set_cons_zero, List.set_cons_succ]
 refine wpAnyH_take (i := 4) (oi := { dst := some 59, op := Op.load 40 (Operand.tmp 8), type := 40, pos := "floats.go:84", after := #[{ on := 3, ground := Ground.guard }], guard := some (3, false) }) (v := ?_) rfl (by kernel_rfl) (by kernel_rfl) (by kernel_rfl) (fun _ _ _ h => h) (Or.inl ⟨by rfl, ?_⟩) (by assumption) ?_
 rotate_left
 ·intro w' hSw
  (try dsimp only at hSw)
  go_simp <;> with_reducible rfl
 try simp only [Act.put, List.setIfInBounds_toArray, List.set_cons_zero, List.set_cons_succ]
 refine wpAnyH_ready (rs := [5]) (by kernel_rfl) (by simp) ?_
 refine AllReadyH.cons (o := { dst := some 60, op := Op.call { callee := Callee.value (Operand.func 27), args := #[Operand.tmp 59], argTypes := #[40] }, type := 3, pos := "floats.go:84", after := #[{ on := 4, ground := Ground.data }, { on := 3, ground := Ground.chain }, { on := 3, ground := Ground.guard }], guard := some (3, false) }) rfl (fun K hK => ?_) AllReadyH.nil
 go_simp
 refine (CSG.out _ _ (kx.ext hb1)).mono ?_
 rintro e x29_2 ⟨rfl, g2⟩
 have hb2 : Ext W4 x29_2 := hb1.trans g2
 try dsimp only
 refine hK.out _ _ (HS.out _ hb2) ?_
 clear hHeld
 intro hHeld
 clear hK K
 try simp only [Act.put, List.setIfInBounds_toArray, List.set_cons_zero, List.set_cons_succ]
 refine wpAnyH_take (i := 6) (oi := { dst := some 61, op := Op.binOp BinOp.lss 3 (Operand.tmp 60) (Operand.const (Value.int IntKind.i64 0)) 3, type := 4, pos := "floats.go:84", after := #[{ on := 5, ground := Ground.data }, { on := 3, ground := Ground.guard }], guard := some (3, false) }) (v := ?_) rfl (by kernel_rfl) (by kernel_rfl) (by kernel_rfl) (fun _ _ _ h => h) (Or.inl ⟨by rfl, ?_⟩) (by assumption) ?_
 rotate_left
 ·intro w' hSw
  (try dsimp only at hSw)
  go_simp <;> with_reducible rfl
 try simp only [Act.put, List.setIfInBounds_toArray, List.set_cons_zero, List.set_cons_succ]
 refine wpAnyH_take (i := 7) (oi := { dst := some 62, op := Op.pick (Operand.tmp 58) (Operand.const (Value.bool true)) (Operand.tmp 61), type := 4, pos := "floats.go:84", after := #[{ on := 3, ground := Ground.data }, { on := 6, ground := Ground.data }], guard := none }) (v := ?_) rfl (by kernel_rfl) (by kernel_rfl) (by kernel_rfl) (fun _ _ _ h => h) (Or.inl ⟨by rfl, ?_⟩) (by assumption) ?_
 rotate_left
 ·intro w' hSw
  (try dsimp only at hSw)
  go_simp <;> with_reducible rfl
 try simp only [Act.put, List.setIfInBounds_toArray, List.set_cons_zero, List.set_cons_succ]
 refine wpAnyH_take (i := 8) (oi := { dst := some 63, op := Op.move (Operand.tmp 62), type := 4, pos := "floats.go:84", after := #[{ on := 7, ground := Ground.data }, { on := 5, ground := Ground.chain }], guard := none }) (v := ?_) rfl (by kernel_rfl) (by kernel_rfl) (by kernel_rfl) (fun _ _ _ h => h) (Or.inl ⟨by rfl, ?_⟩) (by assumption) ?_
 rotate_left
 ·intro w' hSw
  (try dsimp only at hSw)
  go_simp <;> with_reducible rfl
 try simp only [Act.put, List.setIfInBounds_toArray, List.set_cons_zero, List.set_cons_succ]
 refine wpAnyH_take (i := 9) (oi := { dst := some 64, op := Op.load 40 (Operand.tmp 8), type := 40, pos := "floats.go:84", after := #[{ on := 8, ground := Ground.guard }], guard := some (8, false) }) (v := ?_) rfl (by kernel_rfl) (by kernel_rfl) (by kernel_rfl) (fun _ _ _ h => h) (Or.inl ⟨by rfl, ?_⟩) (by assumption) ?_
 rotate_left
 ·intro w' hSw
  (try dsimp only at hSw)
  go_simp <;> with_reducible rfl
 try simp only [Act.put, List.setIfInBounds_toArray, List.set_cons_zero, List.set_cons_succ]
 refine wpAnyH_take (i := 10) (oi := { dst := some 65, op := Op.fieldAddr 81 (Operand.tmp 6) 0, type := 0, pos := "floats.go:84", after := #[{ on := 8, ground := Ground.guard }], guard := some (8, false) }) (v := ?_) rfl (by kernel_rfl) (by kernel_rfl) (by kernel_rfl) (fun _ _ _ h => h) (Or.inl ⟨by rfl, ?_⟩) (by assumption) ?_
 rotate_left
 ·intro w' hSw
  (try dsimp only at hSw)
  go_simp <;> with_reducible rfl
 try simp only [Act.put, List.setIfInBounds_toArray, List.set_cons_zero, List.set_cons_succ]
 refine wpAnyH_take (i := 11) (oi := { dst := some 66, op := Op.fieldAddr 23 (Operand.tmp 65) 1, type := 0, pos := "floats.go:84", after := #[{ on := 10, ground := Ground.data }, { on := 8, ground := Ground.guard }], guard := some (8, false) }) (v := ?_) rfl (by kernel_rfl) (by kernel_rfl) (by kernel_rfl) (fun _ _ _ h => h) (Or.inl ⟨by rfl, ?_⟩) (by assumption) ?_
 rotate_left
 ·intro w' hSw
  (try dsimp only at hSw)
  go_simp <;> with_reducible rfl
 try simp only [Act.put, List.setIfInBounds_toArray, List.set_cons_zero, List.set_cons_succ]
 refine wpAnyH_take (i := 12) (oi := { dst := some 67, op := Op.load 3 (Operand.tmp 66), type := 3, pos := "floats.go:84", after := #[{ on := 11, ground := Ground.data }, { on := 8, ground := Ground.guard }], guard := some (8, false) }) (v := ?_) rfl (by kernel_rfl) (by kernel_rfl) (by kernel_rfl) (fun _ _ _ h => h) (Or.inl ⟨by rfl, ?_⟩) (by assumption) ?_
 rotate_left
 ·intro w' hSw
  (try dsimp only at hSw)
  go_simp <;> with_reducible rfl
 try simp only [Act.put, List.setIfInBounds_toArray, List.set_cons_zero, List.set_cons_succ]
 refine wpAnyH_take (i := 13) (oi := { dst := some 68, op := Op.binOp BinOp.sub 3 (Operand.tmp 67) (Operand.const (Value.int IntKind.i64 2)) 3, type := 3, pos := "floats.go:84", after := #[{ on := 12, ground := Ground.data }, { on := 8, ground := Ground.guard }], guard := some (8, false) }) (v := ?_) rfl (by kernel_rfl) (by kernel_rfl) (by kernel_rfl) (fun _ _ _ h => h) (Or.inl ⟨by rfl, ?_⟩) (by assumption) ?_
 rotate_left
 ·intro w' hSw
  (try dsimp only at hSw)
  go_simp <;> with_reducible rfl
 try simp only [Act.put, List.setIfInBounds_toArray, List.set_cons_zero, List.set_cons_succ]
 refine wpAnyH_ready (rs := [14]) (by kernel_rfl) (by simp) ?_
 refine AllReadyH.cons (o := { dst := some 69, op := Op.call { callee := Callee.value (Operand.func 47), args := #[Operand.tmp 68], argTypes := #[3] }, type := 40, pos := "floats.go:84", after := #[{ on := 13, ground := Ground.data }, { on := 8, ground := Ground.chain }, { on := 8, ground := Ground.guard }], guard := some (8, false) }) rfl (fun K hK => ?_) AllReadyH.nil
 go_simp
 refine (CTW.out _).mono ?_
 rintro e x29_3 ⟨v3, rfl, k3, g3⟩
 have hb3 : Ext W4 x29_3 := hb2.trans g3
 try dsimp only
 refine hK.out _ _ (HS.out _ hb3) ?_
 clear hHeld
 intro hHeld
 clear hK K
 try simp only [Act.put, List.setIfInBounds_toArray, List.set_cons_zero, List.set_cons_succ]
 refine wpAnyH_ready (rs := [15]) (by kernel_rfl) (by simp) ?_
 refine AllReadyH.cons (o := { dst := some 70, op := Op.call { callee := Callee.value (Operand.func 19), args := #[Operand.tmp 64, Operand.tmp 69], argTypes := #[40, 40] }, type := 3, pos := "floats.go:84", after := #[{ on := 9, ground := Ground.data }, { on := 14, ground := Ground.data }, { on := 14, ground := Ground.chain }, { on := 8, ground := Ground.guard }], guard := some (8, false) }) rfl (fun K hK => ?_) AllReadyH.nil
 go_simp
 refine (CCM.out _ _ _ (kx.ext hb3) k3).mono ?_
 rintro e x29_4 ⟨rfl, g4⟩
 have hb4 : Ext W4 x29_4 := hb3.trans g4
 try dsimp only
 refine hK.out _ _ (HS.out _ hb4) ?_
 clear hHeld
 intro hHeld
 clear hK K
 try simp only [Act.put, List.setIfInBounds_toArray, List.set_cons_zero, List.set_cons_succ]
 refine wpAnyH_take (i := 16) (oi := { dst := some 71, op := Op.binOp BinOp.geq 3 (Operand.tmp 70) (Operand.const (Value.int IntKind.i64 0)) 3, type := 4, pos := "floats.go:84", after := #[{ on := 15, ground := Ground.data }, { on := 8, ground := Ground.guard }], guard := some (8, false) }) (v := ?_) rfl (by kernel_rfl) (by kernel_rfl) (by kernel_rfl) (fun _ _ _ h => h) (Or.inl ⟨by rfl, ?_⟩) (by assumption) ?_
 rotate_left
 ·intro w' hSw
  (try dsimp only at hSw)
  go_simp <;> with_reducible rfl
 try simp only [Act.put, List.setIfInBounds_toArray, List.set_cons_zero, List.set_cons_succ]
 refine wpAnyH_take (i := 17) (oi := { dst := some 72, op := Op.pick (Operand.tmp 63) (Operand.const (Value.bool true)) (Operand.tmp 71), type := 4, pos := "floats.go:84", after := #[{ on := 8, ground := Ground.data }, { on := 16, ground := Ground.data }], guard := none }) (v := ?_) rfl (by kernel_rfl) (by kernel_rfl) (by kernel_rfl) (fun _ _ _ h => h) (Or.inl ⟨by rfl, ?_⟩) (by assumption) ?_
 rotate_left
 ·intro w' hSw
  (try dsimp only at hSw)
  go_simp <;> with_reducible rfl
 try simp only [Act.put, List.setIfInBounds_toArray, List.set_cons_zero, List.set_cons_succ]
 refine wpAnyH_done (by kernel_rfl) ?_ _
 clear HS hHeld
 have hz_x29_4 := hb4.size
 replace HE := hid (HE.out.trans hb4)
 replace HB_F := hid (HB_F.out.ext hb4)
 replace HB_V := hid (HB_V.out.ext hb4)
 replace HB_Z := hid (HB_Z.out.ext hb4)
 replace HB_M := hid (HB_M.out.ext hb4)
 replace HB_X := hid (HB_X.out.ext hb4)
 replace HB_Y := hid (HB_Y.out.ext hb4)
 replace kx := kx.ext hb4
 go_upto_region 19 with (fail)
 have HS : Hid (∀ w', Ext x29_4 w' → w'.cell? ⟨w1.heap.size, 0, none⟩ = some (.int .i64 (E : Nat)) ∧ w'.cell? ⟨w1.heap.size, 1, none⟩ = some (.int .i64 (P : Nat)) ∧ w'.cell? ⟨w1.heap.size, 2, none⟩ = some (.int .i64 0) ∧ w'.cell? ⟨w1.heap.size, 3, none⟩ = some (.int .i64 (bias E : Nat)) ∧ w'.cell? ⟨w.heap.size + 1, 0, none⟩ = some (.int .i64 4) ∧ w'.cell? ⟨w.heap.size + 1, 1, none⟩ = some (.bool neg) ∧ w'.cell? ⟨w.heap.size + 1, 2, none⟩ = some (.string S) ∧ w'.cell? ⟨w3.heap.size, 0, none⟩ = some (.bool ng) ∧ w'.cell? ⟨w3.heap.size, 1, none⟩ = some (.slice a n c) ∧ w'.cell? ⟨w3.heap.size, 2, none⟩ = some (.slice a' n' c')) := hid fun w' h => ⟨(HB_M.out.ext h).cell 0, (HB_M.out.ext h).cell 1, (HB_M.out.ext h).cell 2, (HB_M.out.ext h).cell 3, (HB_V.out.ext h).cell 0, (HB_V.out.ext h).cell 1, (HB_V.out.ext h).cell 2, (HB_X.out.ext h).cell 0, (HB_X.out.ext h).cell 1, (HB_X.out.ext h).cell 2⟩
 have hne_M : w1.heap.size ≠ w3.heap.size + 1 := by omega
 have hne_V : w.heap.size + 1 ≠ w3.heap.size + 1 := by omega
 have hne_X : w3.heap.size ≠ w3.heap.size + 1 := by omega
 have HSZ : Hid (∀ (v0 v1 : Value) (w' : World), Ext x29_4 w' → ((w'.setCell ⟨w3.heap.size + 1, 0, none⟩ v0).setCell ⟨w3.heap.size + 1, 1, none⟩ v1).cell? ⟨w1.heap.size, 0, none⟩ = some (.int .i64 (E : Nat)) ∧ ((w'.setCell ⟨w3.heap.size + 1, 0, none⟩ v0).setCell ⟨w3.heap.size + 1, 1, none⟩ v1).cell? ⟨w1.heap.size, 1, none⟩ = some (.int .i64 (P : Nat)) ∧ ((w'.setCell ⟨w3.heap.size + 1, 0, none⟩ v0).setCell ⟨w3.heap.size + 1, 1, none⟩ v1).cell? ⟨w1.heap.size, 2, none⟩ = some (.int .i64 0) ∧ ((w'.setCell ⟨w3.heap.size + 1, 0, none⟩ v0).setCell ⟨w3.heap.size + 1, 1, none⟩ v1).cell? ⟨w1.heap.size, 3, none⟩ = some (.int .i64 (bias E : Nat)) ∧ ((w'.setCell ⟨w3.heap.size + 1, 0, none⟩ v0).setCell ⟨w3.heap.size + 1, 1, none⟩ v1).cell? ⟨w.heap.size + 1, 0, none⟩ = some (.int .i64 4) ∧ ((w'.setCell ⟨w3.heap.size + 1, 0, none⟩ v0).setCell ⟨w3.heap.size + 1, 1, none⟩ v1).cell? ⟨w.heap.size + 1, 1, none⟩ = some (.bool neg) ∧ ((w'.setCell ⟨w3.heap.size + 1, 0, none⟩ v0).setCell ⟨w3.heap.size + 1, 1, none⟩ v1).cell? ⟨w.heap.size + 1, 2, none⟩ = some (.string S) ∧ ((w'.setCell ⟨w3.heap.size + 1, 0, none⟩ v0).setCell ⟨w3.heap.size + 1, 1, none⟩ v1).cell? ⟨w3.heap.size, 0, none⟩ = some (.bool ng) ∧ ((w'.setCell ⟨w3.heap.size + 1, 0, none⟩ v0).setCell ⟨w3.heap.size + 1, 1, none⟩ v1).cell? ⟨w3.heap.size, 1, none⟩ = some (.slice a n c) ∧ ((w'.setCell ⟨w3.heap.size + 1, 0, none⟩ v0).setCell ⟨w3.heap.size + 1, 1, none⟩ v1).cell? ⟨w3.heap.size, 2, none⟩ = some (.slice a' n' c')) := hid fun v0 v1 w' h => ⟨(cell_other hne_M (cell_other hne_M ((HB_M.out.ext h).cell 0))), (cell_other hne_M (cell_other hne_M ((HB_M.out.ext h).cell 1))), (cell_other hne_M (cell_other hne_M ((HB_M.out.ext h).cell 2))), (cell_other hne_M (cell_other hne_M ((HB_M.out.ext h).cell 3))), (cell_other hne_V (cell_other hne_V ((HB_V.out.ext h).cell 0))), (cell_other hne_V (cell_other hne_V ((HB_V.out.ext h).cell 1))), (cell_other hne_V (cell_other hne_V ((HB_V.out.ext h).cell 2))), (cell_other hne_X (cell_other hne_X ((HB_X.out.ext h).cell 0))), (cell_other hne_X (cell_other hne_X ((HB_X.out.ext h).cell 1))), (cell_other hne_X (cell_other hne_X ((HB_X.out.ext h).cell 2)))⟩
 clear hne_M hne_V hne_X
 have hb0 : Ext x29_4 x29_4.drew := Below.drew (Below.refl _ x29_4)
 go_region_held3 (fun w' => w'.cell? ⟨w1.heap.size, 0, none⟩ = some (.int .i64 (E : Nat)) ∧ w'.cell? ⟨w1.heap.size, 1, none⟩ = some (.int .i64 (P : Nat)) ∧ w'.cell? ⟨w1.heap.size, 2, none⟩ = some (.int .i64 0) ∧ w'.cell? ⟨w1.heap.size, 3, none⟩ = some (.int .i64 (bias E : Nat)) ∧ w'.cell? ⟨w.heap.size + 1, 0, none⟩ = some (.int .i64 4) ∧ w'.cell? ⟨w.heap.size + 1, 1, none⟩ = some (.bool neg) ∧ w'.cell? ⟨w.heap.size + 1, 2, none⟩ = some (.string S) ∧ w'.cell? ⟨w3.heap.size, 0, none⟩ = some (.bool ng) ∧ w'.cell? ⟨w3.heap.size, 1, none⟩ = some (.slice a n c) ∧ w'.cell? ⟨w3.heap.size, 2, none⟩ = some (.slice a' n' c'))
   (first | exact HS.out _ (by assumption) | exact HSZ.out _ _ _ (by assumption))
  (first
   | (go_at_call 45; (with_reducible refine (CIF.out _).mono ?_); rintro e x30_1 ⟨rfl, g1⟩; have hb1 : Ext x29_4 x30_1 := hb0.trans g1)
   | (go_at_call 49; (with_reducible refine (CPK.out _ _ (kx.ext hb1)).mono ?_); rintro e x30_2 ⟨rfl, g2⟩; have hb2 : Ext x29_4 x30_2 := hb1.trans g2)
   | (go_at_call 48; (with_reducible refine (CBO.out _).mono ?_); rintro e x30_3 ⟨rfl, g3⟩; have hb3 : Ext x29_4 x30_3 := hb2.trans g3; obtain ⟨zc0, zc1⟩ := (HB_Y.out.ext hb3).c2; obtain ⟨zf0, zf1⟩ := (HB_Y.out.ext hb3).f2))
 clear HS HSZ
 have hz_x30_3 := hb3.size
 replace HE := hid (HE.out.trans hb3)
 replace HB_F := hid (HB_F.out.ext hb3)
 replace HB_V := hid (HB_V.out.ext hb3)
 replace HB_Z := hid (HB_Z.out.ext hb3)
 replace HB_M := hid (HB_M.out.ext hb3)
 replace HB_X := hid (HB_X.out.ext hb3)
 replace HB_Y := hid (HB_Y.out.ext hb3)
 replace kx := kx.ext hb3
 obtain ⟨c_31, c_32⟩ := HB_Y.out.c2
 obtain ⟨f_33, f_34⟩ := HB_Y.out.f2
 go_upto_region 20 with (fail)
 clear c_31 c_32 f_33 f_34
 obtain ⟨W5, hW5, g5, q5, B5, hy5, ho5⟩ := sto2 HE.out (by omega) HB_Y.out (by decide) (.int .u64 (b0 : Nat)) (.int .u64 (b1 : Nat))
 rw [← hW5]
 clear hW5
 replace HE := hid g5
 replace HB_F := hid (ho5 _ _ _ (by omega) HB_F.out)
 replace HB_V := hid (ho5 _ _ _ (by omega) HB_V.out)
 replace HB_Z := hid (ho5 _ _ _ (by omega) HB_Z.out)
 replace HB_M := hid (ho5 _ _ _ (by omega) HB_M.out)
 replace HB_X := hid (ho5 _ _ _ (by omega) HB_X.out)
 replace HB_Y := hid B5
 replace kx := kx.keep q5
 obtain ⟨c_35, c_36, c_37⟩ := HB_V.out.c3
 go_upto_region 21 with (fail)
 clear c_35 c_36 c_37
 have hb0 : Ext W5 W5.drew := Below.drew (Below.refl _ W5)
 obtain ⟨c_39, c_40, c_41, c_42⟩ := (HB_M.out.ext hb0).c4
 obtain ⟨c_43, c_44⟩ := (HB_Y.out.ext hb0).c2
 obtain ⟨c_45, c_46⟩ := (HB_F.out.ext hb0).c2
 go_region_with (first
    | (go_at_call 50; (with_reducible refine (CNA.out _).mono ?_); rintro e x38_1 ⟨rfl, g1⟩; have hb1 : Ext W5 x38_1 := hb0.trans g1; obtain ⟨d_47, d_48, d_49, d_50⟩ := (HB_M.out.ext hb1).c4; obtain ⟨d_51, d_52⟩ := (HB_Y.out.ext hb1).c2; obtain ⟨d_53, d_54⟩ := (HB_F.out.ext hb1).c2; obtain ⟨d_55, d_56⟩ := (HB_Y.out.ext hb1).f2)
    | (go_at_call 48; (with_reducible refine (CBN.out _).mono ?_); rintro e x38_2 ⟨rfl, g2⟩; have hb2 : Ext W5 x38_2 := hb1.trans g2; obtain ⟨d_57, d_58, d_59, d_60⟩ := (HB_M.out.ext hb2).c4; obtain ⟨d_61, d_62⟩ := (HB_Y.out.ext hb2).c2; obtain ⟨d_63, d_64⟩ := (HB_F.out.ext hb2).c2; obtain ⟨d_65, d_66⟩ := (HB_Y.out.ext hb2).f2))
 all_goals (
  have hz_x38_2 := hb2.size
  replace HE := hid (HE.out.trans hb2)
  replace HB_F := hid (HB_F.out.ext hb2)
  replace HB_V := hid (HB_V.out.ext hb2)
  replace HB_Z := hid (HB_Z.out.ext hb2)
  replace HB_M := hid (HB_M.out.ext hb2)
  replace HB_X := hid (HB_X.out.ext hb2)
  replace HB_Y := hid (HB_Y.out.ext hb2)
  replace kx := kx.ext hb2
  obtain ⟨W6, hW6, g6, q6, B6, hy6, ho6⟩ := sto2 HE.out (by omega) HB_Y.out (by decide) (.int .u64 (o0 : Nat)) (.int .u64 (o1 : Nat))
  rw [← hW6]
  clear hW6
  replace HE := hid g6
  replace HB_F := hid (ho6 _ _ _ (by omega) HB_F.out)
  replace HB_V := hid (ho6 _ _ _ (by omega) HB_V.out)
  replace HB_Z := hid (ho6 _ _ _ (by omega) HB_Z.out)
  replace HB_M := hid (ho6 _ _ _ (by omega) HB_M.out)
  replace HB_X := hid (ho6 _ _ _ (by omega) HB_X.out)
  replace HB_Y := hid B6
  replace kx := kx.keep q6
  obtain ⟨c_67, c_68⟩ := HB_F.out.c2
  obtain ⟨c_69, c_70, c_71⟩ := HB_V.out.c3
  obtain ⟨c_72, c_73⟩ := HB_Z.out.c2
  obtain ⟨c_74, c_75, c_76, c_77⟩ := HB_M.out.c4
  obtain ⟨c_78, c_79, c_80⟩ := HB_X.out.c3
  obtain ⟨c_81, c_82⟩ := HB_Y.out.c2
  go_wp2_with fail
  clear c_67 c_68 c_69 c_70 c_71 c_72 c_73 c_74 c_75 c_76 c_77 c_78 c_79 c_80 c_81 c_82
  refine (CD.out _ (HT.out.ext HE.out)).mono ?_
  rintro e w7 ⟨rfl, g7⟩
  have hz_w7 := g7.size
  replace HE := hid (HE.out.trans g7)
  replace HB_F := hid (HB_F.out.ext g7)
  replace HB_V := hid (HB_V.out.ext g7)
  replace HB_Z := hid (HB_Z.out.ext g7)
  replace HB_M := hid (HB_M.out.ext g7)
  replace HB_X := hid (HB_X.out.ext g7)
  replace HB_Y := hid (HB_Y.out.ext g7)
  replace kx := kx.ext g7
  have gA := Ext.alloc w7 (.cells #[.int .i64 4, .bool neg, .string S] 26)
  obtain ⟨c_83, c_84⟩ := (HB_F.out.ext gA).c2
  obtain ⟨c_85, c_86, c_87⟩ := (HB_V.out.ext gA).c3
  obtain ⟨c_88, c_89⟩ := (HB_Z.out.ext gA).c2
  obtain ⟨c_90, c_91, c_92, c_93⟩ := (HB_M.out.ext gA).c4
  obtain ⟨c_94, c_95, c_96⟩ := (HB_X.out.ext gA).c3
  obtain ⟨c_97, c_98⟩ := (HB_Y.out.ext gA).c2
  obtain ⟨f_99, f_100⟩ := (HB_Z.out.ext gA).f2
  go_wp2_with fail
  clear gA c_83 c_84 c_85 c_86 c_87 c_88 c_89 c_90 c_91 c_92 c_93 c_94 c_95 c_96 c_97 c_98 f_99 f_100
  obtain ⟨W8, hW8, g8, hy8, B_D⟩ := pro1 w7 #[.int .i64 4, .bool neg, .string S] 26
  rw [← hW8]
  clear hW8
  have hz_W8 := g8.size
  replace HE := hid (HE.out.trans g8)
  replace HB_F := hid (HB_F.out.ext g8)
  replace HB_V := hid (HB_V.out.ext g8)
  replace HB_Z := hid (HB_Z.out.ext g8)
  replace HB_M := hid (HB_M.out.ext g8)
  replace HB_X := hid (HB_X.out.ext g8)
  replace HB_Y := hid (HB_Y.out.ext g8)
  replace kx := kx.ext g8
  have HB_D := hid B_D
  clear B_D
  obtain ⟨W9, hW9, g9, q9, B9, hy9, ho9⟩ := sto2 HE.out (by omega) HB_Z.out (by decide) (.int .u64 (o0 : Nat)) (.int .u64 (o1 : Nat))
  rw [← hW9]
  clear hW9
  replace HE := hid g9
  replace HB_F := hid (ho9 _ _ _ (by omega) HB_F.out)
  replace HB_V := hid (ho9 _ _ _ (by omega) HB_V.out)
  replace HB_M := hid (ho9 _ _ _ (by omega) HB_M.out)
  replace HB_X := hid (ho9 _ _ _ (by omega) HB_X.out)
  replace HB_Y := hid (ho9 _ _ _ (by omega) HB_Y.out)
  replace HB_D := hid (ho9 _ _ _ (by omega) HB_D.out)
  replace HB_Z := hid B9
  replace kx := kx.keep q9
  obtain ⟨c_101, c_102⟩ := HB_Z.out.c2
  refine bodyPost_ret (v := .tuple #[.agg #[.int .u64 (o0 : Nat), .int .u64 (o1 : Nat)], .int .i64 0]) (by simp [results, Tryz.results9, go_sem, c_101, c_102]) rfl ⟨rfl, HE.out⟩
 )
set_option maxRecDepth 100000 in
set_option maxHeartbeats 4000000 in
theorem Encode_5s (E P : Nat) (neg : Bool) (S : ByteArray) (q : Rat) (w : World) (hF : Fmt E P) (CP : Hid (∀ w, WM w → Calls Tryz.prog 42 #[.string S] w fun e w' => ∃ v, e = .returned (.tuple #[v, .int .i64 0]) ∧ NumV w' v q ∧ Ext w w')) (hw : WM w) (hT : Tabs w) (N : Nat) (hq : q = (N : Rat)) (hN : N < 2 ^ (P - 2)) (o0 o1 : Nat) (CD : Hid (∀ w, Tabs w → Calls Tryz.prog 37 #[.agg #[.int .i64 (E : Nat), .int .i64 (P : Nat)], .agg #[.int .u64 (o0 : Nat), .int .u64 (o1 : Nat)]] w fun e w' => e = .returned (.tuple #[.agg #[.int .i64 5, .bool neg, .string S], .int .i64 0]) ∧ Ext w w')) (hW : Word (infw E P neg ||| N) = .agg #[.int .u64 (o0 : Nat), .int .u64 (o1 : Nat)]) :
  Calls Tryz.prog 9 #[.agg #[.int .i64 (E : Nat), .int .i64 (P : Nat)], .agg #[.int .i64 5, .bool neg, .string S]] w fun e w' => e = .returned (.tuple #[.agg #[.int .u64 (o0 : Nat), .int .u64 (o1 : Nat)], .int .i64 0]) ∧ Ext w w' := by
 obtain ⟨hE, hP, hb, hEP, hb1⟩ := fmt_bounds hF
 have hw2 : IntKind.i64.wrap ((P : Int) - 2) = (P : Int) - 2 := IntWalk.i64_in _ (by omega)
 have hv2 : wrap64 ((P : Int) - 2) = (P : Int) - 2 := w64r _ (by omega)
 have hd1 : q.den = 1 := by rw [hq]; rfl
 have hn0 : ¬ q.num.sign < 0 := by rw [hq]; show ¬ ((N : Nat) : Int).sign < 0; rw [Int.sign_neg_iff]; omega
 obtain ⟨sg, hsg⟩ : ∃ s, s = q.num.sign := ⟨_, rfl⟩
 rw [← hsg] at hn0
 have hd : decide (sg < 0) = false := decide_eq_false hn0
 have e2 : (2 : Rat) ^ ((P : Int) - 2) = ((2 ^ (P - 2) : Nat) : Rat) := by rw [show (P : Int) - 2 = ((P - 2 : Nat) : Int) by omega, p2_nat]
 have hlt : q < (2 : Rat) ^ ((P : Int) - 2) := by rw [hq, e2, Rat.natCast_lt_natCast]; exact hN
 have hp2 : 2 ^ (P - 2) ≤ 2 ^ 120 := Nat.pow_le_pow_right (by decide) (by omega)
 have sx : SmQ 120 q := by rw [hq]; exact SmQ.nat (by decide) (by omega)
 obtain ⟨cc, hcc⟩ : ∃ s, s = cmpQ q ((2 : Rat) ^ ((P : Int) - 2)) := ⟨_, rfl⟩
 have hc : ¬ 0 ≤ cc := by rw [hcc]; unfold cmpQ; rw [if_pos hlt]; decide
 have hd2 : decide (0 ≤ cc) = false := decide_eq_false hc
 have CII : Hid (∀ v w, NumV w v q → Calls Tryz.prog 46 #[v] w fun e w' => e = .returned (.bool true) ∧ Ext w w') := hid fun v w h => by
  have := isInt_c v q w h
  rwa [decide_eq_true hd1] at this
 have CSG : Hid (∀ v w, NumV w v q → Calls Tryz.prog 27 #[v] w fun e w' => e = .returned (.int .i64 sg) ∧ Ext w w') := hid fun v w h => by rw [hsg]; exact sign_c v q w h
 have CTW : Hid (∀ w, Calls Tryz.prog 47 #[.int .i64 ((P : Int) - 2)] w fun e w' => ∃ v, e = .returned v ∧ NumV w' v ((2 : Rat) ^ ((P : Int) - 2)) ∧ Ext w w') := hid fun w => two_c ((P : Int) - 2) w (by omega) (by omega)
 have s2 : SmQ 12000 ((2 : Rat) ^ ((P : Int) - 2)) := by
  rw [show (P : Int) - 2 = ((P - 2 : Nat) : Int) by omega]; exact SmQ.p2 (by omega)
 have CCM : Hid (∀ u v w, NumV w u q → NumV w v ((2 : Rat) ^ ((P : Int) - 2)) → Calls Tryz.prog 19 #[u, v] w fun e w' => e = .returned (.int .i64 cc) ∧ Ext w w') := hid fun u v w h k => by
  rw [hcc]; exact Cmp_c u v _ _ 12000 w h k (sx.mono (by decide)) s2 (by decide)
 obtain ⟨a0, a1, ea⟩ := Word.shape (infw E P neg)
 obtain ⟨p0, p1, ep⟩ := Word.shape N
 obtain ⟨b0, b1, eb⟩ := Word.shape (infw E P neg ||| N)
 obtain ⟨c0, c1, ec⟩ := Word.shape (nanw E P)
 have i8 : W128 (infw E P neg) := Nat.lt_trans (infw_lt hF neg) (by decide)
 have n8 : W128 (nanw E P) := by
  unfold nanw
  show _ < 2 ^ 128
  exact Nat.or_lt_two_pow (Nat.lt_trans (infw_lt hF false) (by decide)) (Nat.pow_lt_pow_right (by decide) (by omega))
 have N8 : W128 N := by show N < 2 ^ 128; omega
 have b8 : W128 (infw E P neg ||| N) := show _ < 2 ^ 128 from Nat.or_lt_two_pow i8 N8
 have CIF : Hid (∀ w, Calls Tryz.prog 45 #[.agg #[.int .i64 (E : Nat), .int .i64 (P : Nat), .int .i64 0, .int .i64 (bias E : Nat)], .bool neg] w fun e w' => e = .returned (.agg #[.int .u64 a0, .int .u64 a1]) ∧ Ext w w') := hid fun w => by
  have := infinite_c E P 0 (bias E) neg w hF
  rwa [ea] at this
 have CPK : Hid (∀ v w, NumV w v q → Calls Tryz.prog 49 #[v] w fun e w' => e = .returned (.agg #[.int .u64 p0, .int .u64 p1]) ∧ Ext w w') := hid fun v w h => by
  have := packed_c v N w (by rw [← hq]; exact h) N8
  rwa [ep] at this
 have CBO : Hid (∀ w, Calls Tryz.prog 48 #[.agg #[.int .u64 a0, .int .u64 a1], .agg #[.int .u64 p0, .int .u64 p1]] w fun e w' => e = .returned (.agg #[.int .u64 b0, .int .u64 b1]) ∧ Ext w w') := hid fun w => by
  have := both_w (infw E P neg) N w i8 N8
  rwa [ea, ep, eb] at this
 have CNA : Hid (∀ w, Calls Tryz.prog 50 #[.agg #[.int .i64 (E : Nat), .int .i64 (P : Nat), .int .i64 0, .int .i64 (bias E : Nat)]] w fun e w' => e = .returned (.agg #[.int .u64 c0, .int .u64 c1]) ∧ Ext w w') := hid fun w => by
  have := nan_c E P 0 (bias E) w hF
  rwa [ec] at this
 obtain ⟨rfl, rfl⟩ : b0 = o0 ∧ b1 = o1 := by
  rw [eb] at hW
  have h2 : ((b0 : Nat) : Int) = o0 ∧ ((b1 : Nat) : Int) = o1 := by simpa using hW
  omega
 clear hW
 clear hE hP hb hEP hb1 hd1 hn0 hsg e2 hlt hp2 sx hcc hc s2 ea ep eb ec i8 n8 N8 b8 hq hN
 have CW := hid (fun w => with_nil E P w hF)
 have HP := hid hw
 have HT := hid hT
 have HF := hid hF
 clear hw hT hF
 obtain ⟨W0, hW0, g0, hz0, B_F, B_V, B_Z⟩ := pro3s w #[.int .i64 (E : Nat), .int .i64 (P : Nat)] #[.int .i64 5, .bool neg, .string S] #[.int .u64 0, .int .u64 0] 23 26 29
 have HE := hid g0
 have HB_F := hid B_F
 have HB_V := hid B_V
 have HB_Z := hid B_Z
 clear g0 B_F B_V B_Z 
 go_enter Tryz.func9, Tryz.ntmps9
 go_upto_region 1 with (fail)
 rw [← hW0]
 clear hW0
 obtain ⟨c_1, c_2⟩ := HB_F.out.c2
 obtain ⟨c_3, c_4, c_5⟩ := HB_V.out.c3
 obtain ⟨c_6, c_7⟩ := HB_Z.out.c2
 go_wp2_with fail
 clear c_1 c_2 c_3 c_4 c_5 c_6 c_7
 refine (CW.out _).mono ?_
 rintro e w1 ⟨rfl, g1⟩
 have hz_w1 := g1.size
 replace HE := hid (HE.out.trans g1)
 replace HB_F := hid (HB_F.out.ext g1)
 replace HB_V := hid (HB_V.out.ext g1)
 replace HB_Z := hid (HB_Z.out.ext g1)
 have gA := Ext.alloc w1 (.cells #[.int .i64 (E : Nat), .int .i64 (P : Nat), .int .i64 0, .int .i64 (bias E : Nat)] 81)
 obtain ⟨c_8, c_9⟩ := (HB_F.out.ext gA).c2
 obtain ⟨c_10, c_11, c_12⟩ := (HB_V.out.ext gA).c3
 obtain ⟨c_13, c_14⟩ := (HB_Z.out.ext gA).c2
 go_wp2_with fail
 clear gA c_8 c_9 c_10 c_11 c_12 c_13 c_14
 obtain ⟨W2, hW2, g2, hy2, B_M⟩ := pro1 w1 #[.int .i64 (E : Nat), .int .i64 (P : Nat), .int .i64 0, .int .i64 (bias E : Nat)] 81
 rw [← hW2]
 clear hW2
 have hz_W2 := g2.size
 replace HE := hid (HE.out.trans g2)
 replace HB_F := hid (HB_F.out.ext g2)
 replace HB_V := hid (HB_V.out.ext g2)
 replace HB_Z := hid (HB_Z.out.ext g2)
 have HB_M := hid B_M
 clear B_M
 refine (CP.out _ (HP.out.ext HE.out)).mono ?_
 rintro e w3 ⟨v1, rfl, kx, g3⟩
 have hz_w3 := g3.size
 replace HE := hid (HE.out.trans g3)
 replace HB_F := hid (HB_F.out.ext g3)
 replace HB_V := hid (HB_V.out.ext g3)
 replace HB_Z := hid (HB_Z.out.ext g3)
 replace HB_M := hid (HB_M.out.ext g3)
 obtain ⟨ng, a, n, c, a', n', c', rfl⟩ := kx.shape
 have gA := Ext.trans (Ext.alloc w3 (.cells #[.bool ng, .slice a n c, .slice a' n' c'] 40)) (Ext.alloc _ (.cells #[.int .u64 0, .int .u64 0] 29))
 obtain ⟨c_15, c_16⟩ := (HB_F.out.ext gA).c2
 obtain ⟨c_17, c_18, c_19⟩ := (HB_V.out.ext gA).c3
 obtain ⟨c_20, c_21⟩ := (HB_Z.out.ext gA).c2
 obtain ⟨c_22, c_23, c_24, c_25⟩ := (HB_M.out.ext gA).c4
 go_upto_region 8 with (fail)
 clear gA c_15 c_16 c_17 c_18 c_19 c_20 c_21 c_22 c_23 c_24 c_25
 obtain ⟨W4, hW4, g4, hy4, B_X, B_Y⟩ := pro2s w3 #[.bool ng, .slice a n c, .slice a' n' c'] #[.int .u64 0, .int .u64 0] 40 29
 rw [← hW4]
 clear hW4
 have hz_W4 := g4.size
 replace HE := hid (HE.out.trans g4)
 replace HB_F := hid (HB_F.out.ext g4)
 replace HB_V := hid (HB_V.out.ext g4)
 replace HB_Z := hid (HB_Z.out.ext g4)
 replace HB_M := hid (HB_M.out.ext g4)
 replace kx := kx.ext g4
 have HB_X := hid B_X
 have HB_Y := hid B_Y
 clear B_X B_Y
 obtain ⟨c_26, c_27, c_28⟩ := HB_V.out.c3
 go_upto_region 17 with (fail)
 clear c_26 c_27 c_28
 have HS : Hid (∀ w', Ext W4 w' → w'.cell? ⟨w3.heap.size, 0, none⟩ = some (.bool ng) ∧ w'.cell? ⟨w3.heap.size, 1, none⟩ = some (.slice a n c) ∧ w'.cell? ⟨w3.heap.size, 2, none⟩ = some (.slice a' n' c') ∧ w'.cell? ⟨w1.heap.size, 0, none⟩ = some (.int .i64 (E : Nat)) ∧ w'.cell? ⟨w1.heap.size, 1, none⟩ = some (.int .i64 (P : Nat)) ∧ w'.cell? ⟨w1.heap.size, 2, none⟩ = some (.int .i64 0) ∧ w'.cell? ⟨w1.heap.size, 3, none⟩ = some (.int .i64 (bias E : Nat))) := hid fun w' h => ⟨(HB_X.out.ext h).cell 0, (HB_X.out.ext h).cell 1, (HB_X.out.ext h).cell 2, (HB_M.out.ext h).cell 0, (HB_M.out.ext h).cell 1, (HB_M.out.ext h).cell 2, (HB_M.out.ext h).cell 3⟩
 have hb0 : Ext W4 W4.drew := Below.drew (Below.refl _ W4)
 refine wp_region_held_drew (S := fun w' => w'.cell? ⟨w3.heap.size, 0, none⟩ = some (.bool ng) ∧ w'.cell? ⟨w3.heap.size, 1, none⟩ = some (.slice a n c) ∧ w'.cell? ⟨w3.heap.size, 2, none⟩ = some (.slice a' n' c') ∧ w'.cell? ⟨w1.heap.size, 0, none⟩ = some (.int .i64 (E : Nat)) ∧ w'.cell? ⟨w1.heap.size, 1, none⟩ = some (.int .i64 (P : Nat)) ∧ w'.cell? ⟨w1.heap.size, 2, none⟩ = some (.int .i64 0) ∧ w'.cell? ⟨w1.heap.size, 3, none⟩ = some (.int .i64 (bias E : Nat))) (by kernel_rfl) (HS.out _ hb0) (fun hHeld => ?_)
 refine wpAnyH_take (i := 0) (oi := { dst := some 55, op := Op.load 40 (Operand.tmp 8), type := 40, pos := "floats.go:84", after := #[], guard := none }) (v := ?_) rfl (by kernel_rfl) (by kernel_rfl) (by kernel_rfl) (fun _ _ _ h => h) (Or.inl ⟨by rfl, ?_⟩) (by assumption) ?_
 rotate_left
 ·intro w' hSw
  (try dsimp only at hSw)
  go_simp <;> with_reducible rfl
 try simp only [Act.put, List.setIfInBounds_toArray, List.set_cons_zero, List.set_cons_succ]
 refine wpAnyH_ready (rs := [1]) (by kernel_rfl) (by simp) ?_
 refine AllReadyH.cons (o := { dst := some 56, op := Op.call { callee := Callee.value (Operand.func 46), args := #[Operand.tmp 55], argTypes := #[40] }, type := 4, pos := "floats.go:84", after := #[{ on := 0, ground := Ground.data }], guard := none }) rfl (fun K hK => ?_) AllReadyH.nil
 go_simp
 refine (CII.out _ _ (kx.ext hb0)).mono ?_
 rintro e x29_1 ⟨rfl, g1⟩
 have hb1 : Ext W4 x29_1 := hb0.trans g1
 try dsimp only
 refine hK.out _ _ (HS.out _ hb1) ?_
 clear hHeld
 intro hHeld
 clear hK K
 try simp only [Act.put, List.setIfInBounds_toArray, List.set_cons_zero, List.set_cons_succ]
 refine wpAnyH_take (i := 2) (oi := { dst := some 57, op := Op.unOp UnOp.not 4 (Operand.tmp 56), type := 4, pos := "floats.go:84", after := #[{ on := 1, ground := Ground.data }], guard := none }) (v := ?_) rfl (by kernel_rfl) (by kernel_rfl) (by kernel_rfl) (fun _ _ _ h => h) (Or.inl ⟨by rfl, ?_⟩) (by assumption) ?_
 rotate_left
 ·intro w' hSw
  (try dsimp only at hSw)
  go_simp <;> with_reducible rfl
 try simp only [Act.put, List.setIfInBounds_toArray, List.set_cons_zero, List.set_cons_succ]
 refine wpAnyH_take (i := 3) (oi := { dst := some 58, op := Op.move (Operand.tmp 57), type := 4, pos := "floats.go:84", after := #[{ on := 2, ground := Ground.data }, { on := 1, ground := Ground.chain }], guard := none }) (v := ?_) rfl (by kernel_rfl) (by kernel_rfl) (by kernel_rfl) (fun _ _ _ h => h) (Or.inl ⟨by rfl, ?_⟩) (by assumption) ?_
 rotate_left
 ·intro w' hSw
  (try dsimp only at hSw)
  go_simp <;> with_reducible rfl
 try simp only [Act.put, List.setIfInBounds_toArray, List.set_cons_zero, List.set_cons_succ]
 refine wpAnyH_take (i := 4) (oi := { dst := some 59, op := Op.load 40 (Operand.tmp 8), type := 40, pos := "floats.go:84", after := #[{ on := 3, ground := Ground.guard }], guard := some (3, false) }) (v := ?_) rfl (by kernel_rfl) (by kernel_rfl) (by kernel_rfl) (fun _ _ _ h => h) (Or.inl ⟨by rfl, ?_⟩) (by assumption) ?_
 rotate_left
 ·intro w' hSw
  (try dsimp only at hSw)
  go_simp <;> with_reducible rfl
 try simp only [Act.put, List.setIfInBounds_toArray, List.set_cons_zero, List.set_cons_succ]
 refine wpAnyH_ready (rs := [5]) (by kernel_rfl) (by simp) ?_
 refine AllReadyH.cons (o := { dst := some 60, op := Op.call { callee := Callee.value (Operand.func 27), args := #[Operand.tmp 59], argTypes := #[40] }, type := 3, pos := "floats.go:84", after := #[{ on := 4, ground := Ground.data }, { on := 3, ground := Ground.chain }, { on := 3, ground := Ground.guard }], guard := some (3, false) }) rfl (fun K hK => ?_) AllReadyH.nil
 go_simp
 refine (CSG.out _ _ (kx.ext hb1)).mono ?_
 rintro e x29_2 ⟨rfl, g2⟩
 have hb2 : Ext W4 x29_2 := hb1.trans g2
 try dsimp only
 refine hK.out _ _ (HS.out _ hb2) ?_
 clear hHeld
 intro hHeld
 clear hK K
 try simp only [Act.put, List.setIfInBounds_toArray, List.set_cons_zero, List.set_cons_succ]
 refine wpAnyH_take (i := 6) (oi := { dst := some 61, op := Op.binOp BinOp.lss 3 (Operand.tmp 60) (Operand.const (Value.int IntKind.i64 0)) 3, type := 4, pos := "floats.go:84", after := #[{ on := 5, ground := Ground.data }, { on := 3, ground := Ground.guard }], guard := some (3, false) }) (v := ?_) rfl (by kernel_rfl) (by kernel_rfl) (by kernel_rfl) (fun _ _ _ h => h) (Or.inl ⟨by rfl, ?_⟩) (by assumption) ?_
 rotate_left
 ·intro w' hSw
  (try dsimp only at hSw)
  go_simp <;> with_reducible rfl
 try simp only [Act.put, List.setIfInBounds_toArray, List.set_cons_zero, List.set_cons_succ]
 refine wpAnyH_take (i := 7) (oi := { dst := some 62, op := Op.pick (Operand.tmp 58) (Operand.const (Value.bool true)) (Operand.tmp 61), type := 4, pos := "floats.go:84", after := #[{ on := 3, ground := Ground.data }, { on := 6, ground := Ground.data }], guard := none }) (v := ?_) rfl (by kernel_rfl) (by kernel_rfl) (by kernel_rfl) (fun _ _ _ h => h) (Or.inl ⟨by rfl, ?_⟩) (by assumption) ?_
 rotate_left
 ·intro w' hSw
  (try dsimp only at hSw)
  go_simp <;> with_reducible rfl
 try simp only [Act.put, List.setIfInBounds_toArray, List.set_cons_zero, List.set_cons_succ]
 refine wpAnyH_take (i := 8) (oi := { dst := some 63, op := Op.move (Operand.tmp 62), type := 4, pos := "floats.go:84", after := #[{ on := 7, ground := Ground.data }, { on := 5, ground := Ground.chain }], guard := none }) (v := ?_) rfl (by kernel_rfl) (by kernel_rfl) (by kernel_rfl) (fun _ _ _ h => h) (Or.inl ⟨by rfl, ?_⟩) (by assumption) ?_
 rotate_left
 ·intro w' hSw
  (try dsimp only at hSw)
  go_simp <;> with_reducible rfl
 try simp only [Act.put, List.setIfInBounds_toArray, List.set_cons_zero, List.set_cons_succ]
 refine wpAnyH_take (i := 9) (oi := { dst := some 64, op := Op.load 40 (Operand.tmp 8), type := 40, pos := "floats.go:84", after := #[{ on := 8, ground := Ground.guard }], guard := some (8, false) }) (v := ?_) rfl (by kernel_rfl) (by kernel_rfl) (by kernel_rfl) (fun _ _ _ h => h) (Or.inl ⟨by rfl, ?_⟩) (by assumption) ?_
 rotate_left
 ·intro w' hSw
  (try dsimp only at hSw)
  go_simp <;> with_reducible rfl
 try simp only [Act.put, List.setIfInBounds_toArray, List.set_cons_zero, List.set_cons_succ]
 refine wpAnyH_take (i := 10) (oi := { dst := some 65, op := Op.fieldAddr 81 (Operand.tmp 6) 0, type := 0, pos := "floats.go:84", after := #[{ on := 8, ground := Ground.guard }], guard := some (8, false) }) (v := ?_) rfl (by kernel_rfl) (by kernel_rfl) (by kernel_rfl) (fun _ _ _ h => h) (Or.inl ⟨by rfl, ?_⟩) (by assumption) ?_
 rotate_left
 ·intro w' hSw
  (try dsimp only at hSw)
  go_simp <;> with_reducible rfl
 try simp only [Act.put, List.setIfInBounds_toArray, List.set_cons_zero, List.set_cons_succ]
 refine wpAnyH_take (i := 11) (oi := { dst := some 66, op := Op.fieldAddr 23 (Operand.tmp 65) 1, type := 0, pos := "floats.go:84", after := #[{ on := 10, ground := Ground.data }, { on := 8, ground := Ground.guard }], guard := some (8, false) }) (v := ?_) rfl (by kernel_rfl) (by kernel_rfl) (by kernel_rfl) (fun _ _ _ h => h) (Or.inl ⟨by rfl, ?_⟩) (by assumption) ?_
 rotate_left
 ·intro w' hSw
  (try dsimp only at hSw)
  go_simp <;> with_reducible rfl
 try simp only [Act.put, List.setIfInBounds_toArray, List.set_cons_zero, List.set_cons_succ]
 refine wpAnyH_take (i := 12) (oi := { dst := some 67, op := Op.load 3 (Operand.tmp 66), type := 3, pos := "floats.go:84", after := #[{ on := 11, ground := Ground.data }, { on := 8, ground := Ground.guard }], guard := some (8, false) }) (v := ?_) rfl (by kernel_rfl) (by kernel_rfl) (by kernel_rfl) (fun _ _ _ h => h) (Or.inl ⟨by rfl, ?_⟩) (by assumption) ?_
 rotate_left
 ·intro w' hSw
  (try dsimp only at hSw)
  go_simp <;> with_reducible rfl
 try simp only [Act.put, List.setIfInBounds_toArray, List.set_cons_zero, List.set_cons_succ]
 refine wpAnyH_take (i := 13) (oi := { dst := some 68, op := Op.binOp BinOp.sub 3 (Operand.tmp 67) (Operand.const (Value.int IntKind.i64 2)) 3, type := 3, pos := "floats.go:84", after := #[{ on := 12, ground := Ground.data }, { on := 8, ground := Ground.guard }], guard := some (8, false) }) (v := ?_) rfl (by kernel_rfl) (by kernel_rfl) (by kernel_rfl) (fun _ _ _ h => h) (Or.inl ⟨by rfl, ?_⟩) (by assumption) ?_
 rotate_left
 ·intro w' hSw
  (try dsimp only at hSw)
  go_simp <;> with_reducible rfl
 try simp only [Act.put, List.setIfInBounds_toArray, List.set_cons_zero, List.set_cons_succ]
 refine wpAnyH_ready (rs := [14]) (by kernel_rfl) (by simp) ?_
 refine AllReadyH.cons (o := { dst := some 69, op := Op.call { callee := Callee.value (Operand.func 47), args := #[Operand.tmp 68], argTypes := #[3] }, type := 40, pos := "floats.go:84", after := #[{ on := 13, ground := Ground.data }, { on := 8, ground := Ground.chain }, { on := 8, ground := Ground.guard }], guard := some (8, false) }) rfl (fun K hK => ?_) AllReadyH.nil
 go_simp
 refine (CTW.out _).mono ?_
 rintro e x29_3 ⟨v3, rfl, k3, g3⟩
 have hb3 : Ext W4 x29_3 := hb2.trans g3
 try dsimp only
 refine hK.out _ _ (HS.out _ hb3) ?_
 clear hHeld
 intro hHeld
 clear hK K
 try simp only [Act.put, List.setIfInBounds_toArray, List.set_cons_zero, List.set_cons_succ]
 refine wpAnyH_ready (rs := [15]) (by kernel_rfl) (by simp) ?_
 refine AllReadyH.cons (o := { dst := some 70, op := Op.call { callee := Callee.value (Operand.func 19), args := #[Operand.tmp 64, Operand.tmp 69], argTypes := #[40, 40] }, type := 3, pos := "floats.go:84", after := #[{ on := 9, ground := Ground.data }, { on := 14, ground := Ground.data }, { on := 14, ground := Ground.chain }, { on := 8, ground := Ground.guard }], guard := some (8, false) }) rfl (fun K hK => ?_) AllReadyH.nil
 go_simp
 refine (CCM.out _ _ _ (kx.ext hb3) k3).mono ?_
 rintro e x29_4 ⟨rfl, g4⟩
 have hb4 : Ext W4 x29_4 := hb3.trans g4
 try dsimp only
 refine hK.out _ _ (HS.out _ hb4) ?_
 clear hHeld
 intro hHeld
 clear hK K
 try simp only [Act.put, List.setIfInBounds_toArray, List.set_cons_zero, List.set_cons_succ]
 refine wpAnyH_take (i := 16) (oi := { dst := some 71, op := Op.binOp BinOp.geq 3 (Operand.tmp 70) (Operand.const (Value.int IntKind.i64 0)) 3, type := 4, pos := "floats.go:84", after := #[{ on := 15, ground := Ground.data }, { on := 8, ground := Ground.guard }], guard := some (8, false) }) (v := ?_) rfl (by kernel_rfl) (by kernel_rfl) (by kernel_rfl) (fun _ _ _ h => h) (Or.inl ⟨by rfl, ?_⟩) (by assumption) ?_
 rotate_left
 ·intro w' hSw
  (try dsimp only at hSw)
  go_simp <;> with_reducible rfl
 try simp only [Act.put, List.setIfInBounds_toArray, List.set_cons_zero, List.set_cons_succ]
 refine wpAnyH_take (i := 17) (oi := { dst := some 72, op := Op.pick (Operand.tmp 63) (Operand.const (Value.bool true)) (Operand.tmp 71), type := 4, pos := "floats.go:84", after := #[{ on := 8, ground := Ground.data }, { on := 16, ground := Ground.data }], guard := none }) (v := ?_) rfl (by kernel_rfl) (by kernel_rfl) (by kernel_rfl) (fun _ _ _ h => h) (Or.inl ⟨by rfl, ?_⟩) (by assumption) ?_
 rotate_left
 ·intro w' hSw
  (try dsimp only at hSw)
  go_simp <;> with_reducible rfl
 try simp only [Act.put, List.setIfInBounds_toArray, List.set_cons_zero, List.set_cons_succ]
 refine wpAnyH_done (by kernel_rfl) ?_ _
 clear HS hHeld
 have hz_x29_4 := hb4.size
 replace HE := hid (HE.out.trans hb4)
 replace HB_F := hid (HB_F.out.ext hb4)
 replace HB_V := hid (HB_V.out.ext hb4)
 replace HB_Z := hid (HB_Z.out.ext hb4)
 replace HB_M := hid (HB_M.out.ext hb4)
 replace HB_X := hid (HB_X.out.ext hb4)
 replace HB_Y := hid (HB_Y.out.ext hb4)
 replace kx := kx.ext hb4
 go_upto_region 19 with (fail)
 have HS : Hid (∀ w', Ext x29_4 w' → w'.cell? ⟨w1.heap.size, 0, none⟩ = some (.int .i64 (E : Nat)) ∧ w'.cell? ⟨w1.heap.size, 1, none⟩ = some (.int .i64 (P : Nat)) ∧ w'.cell? ⟨w1.heap.size, 2, none⟩ = some (.int .i64 0) ∧ w'.cell? ⟨w1.heap.size, 3, none⟩ = some (.int .i64 (bias E : Nat)) ∧ w'.cell? ⟨w.heap.size + 1, 0, none⟩ = some (.int .i64 5) ∧ w'.cell? ⟨w.heap.size + 1, 1, none⟩ = some (.bool neg) ∧ w'.cell? ⟨w.heap.size + 1, 2, none⟩ = some (.string S) ∧ w'.cell? ⟨w3.heap.size, 0, none⟩ = some (.bool ng) ∧ w'.cell? ⟨w3.heap.size, 1, none⟩ = some (.slice a n c) ∧ w'.cell? ⟨w3.heap.size, 2, none⟩ = some (.slice a' n' c')) := hid fun w' h => ⟨(HB_M.out.ext h).cell 0, (HB_M.out.ext h).cell 1, (HB_M.out.ext h).cell 2, (HB_M.out.ext h).cell 3, (HB_V.out.ext h).cell 0, (HB_V.out.ext h).cell 1, (HB_V.out.ext h).cell 2, (HB_X.out.ext h).cell 0, (HB_X.out.ext h).cell 1, (HB_X.out.ext h).cell 2⟩
 have hne_M : w1.heap.size ≠ w3.heap.size + 1 := by omega
 have hne_V : w.heap.size + 1 ≠ w3.heap.size + 1 := by omega
 have hne_X : w3.heap.size ≠ w3.heap.size + 1 := by omega
 have HSZ : Hid (∀ (v0 v1 : Value) (w' : World), Ext x29_4 w' → ((w'.setCell ⟨w3.heap.size + 1, 0, none⟩ v0).setCell ⟨w3.heap.size + 1, 1, none⟩ v1).cell? ⟨w1.heap.size, 0, none⟩ = some (.int .i64 (E : Nat)) ∧ ((w'.setCell ⟨w3.heap.size + 1, 0, none⟩ v0).setCell ⟨w3.heap.size + 1, 1, none⟩ v1).cell? ⟨w1.heap.size, 1, none⟩ = some (.int .i64 (P : Nat)) ∧ ((w'.setCell ⟨w3.heap.size + 1, 0, none⟩ v0).setCell ⟨w3.heap.size + 1, 1, none⟩ v1).cell? ⟨w1.heap.size, 2, none⟩ = some (.int .i64 0) ∧ ((w'.setCell ⟨w3.heap.size + 1, 0, none⟩ v0).setCell ⟨w3.heap.size + 1, 1, none⟩ v1).cell? ⟨w1.heap.size, 3, none⟩ = some (.int .i64 (bias E : Nat)) ∧ ((w'.setCell ⟨w3.heap.size + 1, 0, none⟩ v0).setCell ⟨w3.heap.size + 1, 1, none⟩ v1).cell? ⟨w.heap.size + 1, 0, none⟩ = some (.int .i64 5) ∧ ((w'.setCell ⟨w3.heap.size + 1, 0, none⟩ v0).setCell ⟨w3.heap.size + 1, 1, none⟩ v1).cell? ⟨w.heap.size + 1, 1, none⟩ = some (.bool neg) ∧ ((w'.setCell ⟨w3.heap.size + 1, 0, none⟩ v0).setCell ⟨w3.heap.size + 1, 1, none⟩ v1).cell? ⟨w.heap.size + 1, 2, none⟩ = some (.string S) ∧ ((w'.setCell ⟨w3.heap.size + 1, 0, none⟩ v0).setCell ⟨w3.heap.size + 1, 1, none⟩ v1).cell? ⟨w3.heap.size, 0, none⟩ = some (.bool ng) ∧ ((w'.setCell ⟨w3.heap.size + 1, 0, none⟩ v0).setCell ⟨w3.heap.size + 1, 1, none⟩ v1).cell? ⟨w3.heap.size, 1, none⟩ = some (.slice a n c) ∧ ((w'.setCell ⟨w3.heap.size + 1, 0, none⟩ v0).setCell ⟨w3.heap.size + 1, 1, none⟩ v1).cell? ⟨w3.heap.size, 2, none⟩ = some (.slice a' n' c')) := hid fun v0 v1 w' h => ⟨(cell_other hne_M (cell_other hne_M ((HB_M.out.ext h).cell 0))), (cell_other hne_M (cell_other hne_M ((HB_M.out.ext h).cell 1))), (cell_other hne_M (cell_other hne_M ((HB_M.out.ext h).cell 2))), (cell_other hne_M (cell_other hne_M ((HB_M.out.ext h).cell 3))), (cell_other hne_V (cell_other hne_V ((HB_V.out.ext h).cell 0))), (cell_other hne_V (cell_other hne_V ((HB_V.out.ext h).cell 1))), (cell_other hne_V (cell_other hne_V ((HB_V.out.ext h).cell 2))), (cell_other hne_X (cell_other hne_X ((HB_X.out.ext h).cell 0))), (cell_other hne_X (cell_other hne_X ((HB_X.out.ext h).cell 1))), (cell_other hne_X (cell_other hne_X ((HB_X.out.ext h).cell 2)))⟩
 clear hne_M hne_V hne_X
 have hb0 : Ext x29_4 x29_4.drew := Below.drew (Below.refl _ x29_4)
 go_region_held3 (fun w' => w'.cell? ⟨w1.heap.size, 0, none⟩ = some (.int .i64 (E : Nat)) ∧ w'.cell? ⟨w1.heap.size, 1, none⟩ = some (.int .i64 (P : Nat)) ∧ w'.cell? ⟨w1.heap.size, 2, none⟩ = some (.int .i64 0) ∧ w'.cell? ⟨w1.heap.size, 3, none⟩ = some (.int .i64 (bias E : Nat)) ∧ w'.cell? ⟨w.heap.size + 1, 0, none⟩ = some (.int .i64 5) ∧ w'.cell? ⟨w.heap.size + 1, 1, none⟩ = some (.bool neg) ∧ w'.cell? ⟨w.heap.size + 1, 2, none⟩ = some (.string S) ∧ w'.cell? ⟨w3.heap.size, 0, none⟩ = some (.bool ng) ∧ w'.cell? ⟨w3.heap.size, 1, none⟩ = some (.slice a n c) ∧ w'.cell? ⟨w3.heap.size, 2, none⟩ = some (.slice a' n' c'))
   (first | exact HS.out _ (by assumption) | exact HSZ.out _ _ _ (by assumption))
  (first
   | (go_at_call 45; (with_reducible refine (CIF.out _).mono ?_); rintro e x30_1 ⟨rfl, g1⟩; have hb1 : Ext x29_4 x30_1 := hb0.trans g1)
   | (go_at_call 49; (with_reducible refine (CPK.out _ _ (kx.ext hb1)).mono ?_); rintro e x30_2 ⟨rfl, g2⟩; have hb2 : Ext x29_4 x30_2 := hb1.trans g2)
   | (go_at_call 48; (with_reducible refine (CBO.out _).mono ?_); rintro e x30_3 ⟨rfl, g3⟩; have hb3 : Ext x29_4 x30_3 := hb2.trans g3; obtain ⟨zc0, zc1⟩ := (HB_Y.out.ext hb3).c2; obtain ⟨zf0, zf1⟩ := (HB_Y.out.ext hb3).f2))
 clear HS HSZ
 have hz_x30_3 := hb3.size
 replace HE := hid (HE.out.trans hb3)
 replace HB_F := hid (HB_F.out.ext hb3)
 replace HB_V := hid (HB_V.out.ext hb3)
 replace HB_Z := hid (HB_Z.out.ext hb3)
 replace HB_M := hid (HB_M.out.ext hb3)
 replace HB_X := hid (HB_X.out.ext hb3)
 replace HB_Y := hid (HB_Y.out.ext hb3)
 replace kx := kx.ext hb3
 obtain ⟨c_31, c_32⟩ := HB_Y.out.c2
 obtain ⟨f_33, f_34⟩ := HB_Y.out.f2
 go_upto_region 20 with (fail)
 clear c_31 c_32 f_33 f_34
 obtain ⟨W5, hW5, g5, q5, B5, hy5, ho5⟩ := sto2 HE.out (by omega) HB_Y.out (by decide) (.int .u64 (b0 : Nat)) (.int .u64 (b1 : Nat))
 rw [← hW5]
 clear hW5
 replace HE := hid g5
 replace HB_F := hid (ho5 _ _ _ (by omega) HB_F.out)
 replace HB_V := hid (ho5 _ _ _ (by omega) HB_V.out)
 replace HB_Z := hid (ho5 _ _ _ (by omega) HB_Z.out)
 replace HB_M := hid (ho5 _ _ _ (by omega) HB_M.out)
 replace HB_X := hid (ho5 _ _ _ (by omega) HB_X.out)
 replace HB_Y := hid B5
 replace kx := kx.keep q5
 obtain ⟨c_35, c_36⟩ := HB_F.out.c2
 obtain ⟨c_37, c_38, c_39⟩ := HB_V.out.c3
 obtain ⟨c_40, c_41⟩ := HB_Z.out.c2
 obtain ⟨c_42, c_43, c_44, c_45⟩ := HB_M.out.c4
 obtain ⟨c_46, c_47, c_48⟩ := HB_X.out.c3
 obtain ⟨c_49, c_50⟩ := HB_Y.out.c2
 go_wp2_with fail
 clear c_35 c_36 c_37 c_38 c_39 c_40 c_41 c_42 c_43 c_44 c_45 c_46 c_47 c_48 c_49 c_50
 refine (CD.out _ (HT.out.ext HE.out)).mono ?_
 rintro e w6 ⟨rfl, g6⟩
 have hz_w6 := g6.size
 replace HE := hid (HE.out.trans g6)
 replace HB_F := hid (HB_F.out.ext g6)
 replace HB_V := hid (HB_V.out.ext g6)
 replace HB_Z := hid (HB_Z.out.ext g6)
 replace HB_M := hid (HB_M.out.ext g6)
 replace HB_X := hid (HB_X.out.ext g6)
 replace HB_Y := hid (HB_Y.out.ext g6)
 replace kx := kx.ext g6
 have gA := Ext.alloc w6 (.cells #[.int .i64 5, .bool neg, .string S] 26)
 obtain ⟨c_51, c_52⟩ := (HB_F.out.ext gA).c2
 obtain ⟨c_53, c_54, c_55⟩ := (HB_V.out.ext gA).c3
 obtain ⟨c_56, c_57⟩ := (HB_Z.out.ext gA).c2
 obtain ⟨c_58, c_59, c_60, c_61⟩ := (HB_M.out.ext gA).c4
 obtain ⟨c_62, c_63, c_64⟩ := (HB_X.out.ext gA).c3
 obtain ⟨c_65, c_66⟩ := (HB_Y.out.ext gA).c2
 obtain ⟨f_67, f_68⟩ := (HB_Z.out.ext gA).f2
 go_wp2_with fail
 clear gA c_51 c_52 c_53 c_54 c_55 c_56 c_57 c_58 c_59 c_60 c_61 c_62 c_63 c_64 c_65 c_66 f_67 f_68
 obtain ⟨W7, hW7, g7, hy7, B_D⟩ := pro1 w6 #[.int .i64 5, .bool neg, .string S] 26
 rw [← hW7]
 clear hW7
 have hz_W7 := g7.size
 replace HE := hid (HE.out.trans g7)
 replace HB_F := hid (HB_F.out.ext g7)
 replace HB_V := hid (HB_V.out.ext g7)
 replace HB_Z := hid (HB_Z.out.ext g7)
 replace HB_M := hid (HB_M.out.ext g7)
 replace HB_X := hid (HB_X.out.ext g7)
 replace HB_Y := hid (HB_Y.out.ext g7)
 replace kx := kx.ext g7
 have HB_D := hid B_D
 clear B_D
 obtain ⟨W8, hW8, g8, q8, B8, hy8, ho8⟩ := sto2 HE.out (by omega) HB_Z.out (by decide) (.int .u64 (b0 : Nat)) (.int .u64 (b1 : Nat))
 rw [← hW8]
 clear hW8
 replace HE := hid g8
 replace HB_F := hid (ho8 _ _ _ (by omega) HB_F.out)
 replace HB_V := hid (ho8 _ _ _ (by omega) HB_V.out)
 replace HB_M := hid (ho8 _ _ _ (by omega) HB_M.out)
 replace HB_X := hid (ho8 _ _ _ (by omega) HB_X.out)
 replace HB_Y := hid (ho8 _ _ _ (by omega) HB_Y.out)
 replace HB_D := hid (ho8 _ _ _ (by omega) HB_D.out)
 replace HB_Z := hid B8
 replace kx := kx.keep q8
 obtain ⟨c_69, c_70⟩ := HB_Z.out.c2
 refine bodyPost_ret (v := .tuple #[.agg #[.int .u64 (b0 : Nat), .int .u64 (b1 : Nat)], .int .i64 0]) (by simp [results, Tryz.results9, go_sem, c_69, c_70]) rfl ⟨rfl, HE.out⟩
end Go.Proofs.YtopmjkkjlagfcaaGreatDoor
