/- floats: Encode of one, in the least of formats. -/
import Derived.Test.YtopmjkkjlagfcaaGreatDoorW20
import Derived.Test.YtopmjkkjlagfcaaGreatDoorW43
import Derived.Test.YtopmjkkjlagfcaaGreatDoorW49
import Derived.Test.YtopmjkkjlagfcaaGreatDoorW38
import Derived.Test.YtopmjkkjlagfcaaGreatDoorW47
namespace Go.Proofs.YtopmjkkjlagfcaaGreatDoor
open Go.RowKit Vn
theorem log1 : IsLog (absQ 1) 0 := ⟨by decide +kernel, by decide +kernel⟩
theorem rnd1 : rnd 3 3 3 0 1 0 = (12, 0) := by decide +kernel
set_option maxRecDepth 100000 in
set_option maxHeartbeats 4000000 in
theorem Encode_one (w : World) (hw : WM w) (hT : Tabs w) :
  Calls Tryz.prog 9 #[.agg #[.int .i64 3, .int .i64 3], .agg #[.int .i64 2, .bool false, .string ⟨#[49]⟩]] w fun e w' => e = .returned (.tuple #[.agg #[.int .u64 0, .int .u64 12], .int .i64 0]) ∧ Ext w w' := by
 have hF : Fmt (3 : Nat) (3 : Nat) := by unfold Fmt; decide
 have CW : Hid (∀ (w : World), Calls Tryz.prog 41 #[.agg #[.int .i64 3, .int .i64 3], .int .i64 0, .slice none 0 0] w fun e w' => e = .returned (.tuple #[.agg #[.int .i64 3, .int .i64 3, .int .i64 0, .int .i64 3], .int .i64 0]) ∧ Ext w w') := hid fun w => by
  have := with_good 3 3 0 _ [] w (by decide) hF (WSl.nil w)
  rwa [show withRes 3 3 0 [] = .tuple #[.agg #[.int .i64 3, .int .i64 3, .int .i64 0, .int .i64 3], .int .i64 0] from by unfold withRes; rw [if_pos (fun x hx => by simp at hx)]; rfl] at this
 have CR : Hid (∀ (v : Value) (w : World), NumV w v 1 → Tabs w → Calls Tryz.prog 44 #[.agg #[.int .i64 3, .int .i64 3, .int .i64 0, .int .i64 3], v] w fun e w' => e = .returned (.tuple #[.agg #[.int .u64 0, .int .u64 12], .int .i64 0]) ∧ Ext w w') := hid fun v w h hT => by
  have := rnd_c 3 3 3 0 v 1 0 10 w hF (by decide) rfl h ⟨by show _ < 2 ^ 10; decide, by show _ < 2 ^ 10; decide⟩ (by decide) (fun _ => log1) hT
  rw [rnd1] at this
  exact this
 have HP := hid hw
 have HT := hid hT
 clear hF hT
 obtain ⟨W0, hW0, g0, hz0, B_F, B_V, B_Z⟩ := pro3s w #[.int .i64 3, .int .i64 3] #[.int .i64 2, .bool false, .string ⟨#[49]⟩] #[.int .u64 0, .int .u64 0] 23 26 29
 have HE := hid g0
 have HB_F := hid B_F
 have HB_V := hid B_V
 have HB_Z := hid B_Z
 clear g0 B_F B_V B_Z 
 go_enter Tryz.func9, Tryz.ntmps9
 go_upto_region 1 with (fail)
 rw [← hW0]
 clear hW0
 obtain ⟨c_1, c_2⟩ := HB_F.out.c2
 obtain ⟨c_3, c_4, c_5⟩ := HB_V.out.c3
 obtain ⟨c_6, c_7⟩ := HB_Z.out.c2
 go_wp2_with fail
 clear c_1 c_2 c_3 c_4 c_5 c_6 c_7
 refine (CW.out _).mono ?_
 rintro e w1 ⟨rfl, g1⟩
 have hz_w1 := g1.size
 replace HE := hid (HE.out.trans g1)
 replace HB_F := hid (HB_F.out.ext g1)
 replace HB_V := hid (HB_V.out.ext g1)
 replace HB_Z := hid (HB_Z.out.ext g1)
 have gA := Ext.alloc w1 (.cells #[.int .i64 3, .int .i64 3, .int .i64 0, .int .i64 3] 81)
 obtain ⟨c_8, c_9⟩ := (HB_F.out.ext gA).c2
 obtain ⟨c_10, c_11, c_12⟩ := (HB_V.out.ext gA).c3
 obtain ⟨c_13, c_14⟩ := (HB_Z.out.ext gA).c2
 go_wp2_with fail
 clear gA c_8 c_9 c_10 c_11 c_12 c_13 c_14
 obtain ⟨W2, hW2, g2, hy2, B_M⟩ := pro1 w1 #[.int .i64 3, .int .i64 3, .int .i64 0, .int .i64 3] 81
 rw [← hW2]
 clear hW2
 have hz_W2 := g2.size
 replace HE := hid (HE.out.trans g2)
 replace HB_F := hid (HB_F.out.ext g2)
 replace HB_V := hid (HB_V.out.ext g2)
 replace HB_Z := hid (HB_Z.out.ext g2)
 have HB_M := hid B_M
 clear B_M
 refine (parse_one _ (HP.out.ext HE.out)).mono ?_
 rintro e w3 ⟨v1, rfl, k3, g3⟩
 have hz_w3 := g3.size
 replace HE := hid (HE.out.trans g3)
 replace HB_F := hid (HB_F.out.ext g3)
 replace HB_V := hid (HB_V.out.ext g3)
 replace HB_Z := hid (HB_Z.out.ext g3)
 replace HB_M := hid (HB_M.out.ext g3)
 obtain ⟨ng, a3, n3, c3, a3', n3', c3', rfl⟩ := k3.shape
 have gA := Ext.trans (Ext.alloc w3 (.cells #[.bool ng, .slice a3 n3 c3, .slice a3' n3' c3'] 40)) (Ext.alloc _ (.cells #[.int .u64 0, .int .u64 0] 29))
 obtain ⟨c_15, c_16⟩ := (HB_F.out.ext gA).c2
 obtain ⟨c_17, c_18, c_19⟩ := (HB_V.out.ext gA).c3
 obtain ⟨c_20, c_21⟩ := (HB_Z.out.ext gA).c2
 obtain ⟨c_22, c_23, c_24, c_25⟩ := (HB_M.out.ext gA).c4
 go_upto_region 8 with (fail)
 clear gA c_15 c_16 c_17 c_18 c_19 c_20 c_21 c_22 c_23 c_24 c_25
 obtain ⟨W4, hW4, g4, hy4, B_X, B_Y⟩ := pro2s w3 #[.bool ng, .slice a3 n3 c3, .slice a3' n3' c3'] #[.int .u64 0, .int .u64 0] 40 29
 rw [← hW4]
 clear hW4
 have hz_W4 := g4.size
 replace HE := hid (HE.out.trans g4)
 replace HB_F := hid (HB_F.out.ext g4)
 replace HB_V := hid (HB_V.out.ext g4)
 replace HB_Z := hid (HB_Z.out.ext g4)
 replace HB_M := hid (HB_M.out.ext g4)
 replace k3 := k3.ext g4
 have HB_X := hid B_X
 have HB_Y := hid B_Y
 clear B_X B_Y
 obtain ⟨c_26, c_27⟩ := HB_F.out.c2
 obtain ⟨c_28, c_29, c_30⟩ := HB_V.out.c3
 obtain ⟨c_31, c_32⟩ := HB_Z.out.c2
 obtain ⟨c_33, c_34, c_35, c_36⟩ := HB_M.out.c4
 obtain ⟨c_37, c_38, c_39⟩ := HB_X.out.c3
 obtain ⟨c_40, c_41⟩ := HB_Y.out.c2
 go_wp2_with fail
 clear c_26 c_27 c_28 c_29 c_30 c_31 c_32 c_33 c_34 c_35 c_36 c_37 c_38 c_39 c_40 c_41
 refine (CR.out _ _ k3 (HT.out.ext HE.out)).mono ?_
 rintro e w5 ⟨rfl, g5⟩
 have hz_w5 := g5.size
 replace HE := hid (HE.out.trans g5)
 replace HB_F := hid (HB_F.out.ext g5)
 replace HB_V := hid (HB_V.out.ext g5)
 replace HB_Z := hid (HB_Z.out.ext g5)
 replace HB_M := hid (HB_M.out.ext g5)
 replace HB_X := hid (HB_X.out.ext g5)
 replace HB_Y := hid (HB_Y.out.ext g5)
 replace k3 := k3.ext g5
 obtain ⟨c_42, c_43⟩ := HB_F.out.c2
 obtain ⟨c_44, c_45, c_46⟩ := HB_V.out.c3
 obtain ⟨c_47, c_48⟩ := HB_Z.out.c2
 obtain ⟨c_49, c_50, c_51, c_52⟩ := HB_M.out.c4
 obtain ⟨c_53, c_54, c_55⟩ := HB_X.out.c3
 obtain ⟨c_56, c_57⟩ := HB_Y.out.c2
 obtain ⟨f_58, f_59⟩ := HB_Y.out.f2
 go_wp2_with fail
 clear c_42 c_43 c_44 c_45 c_46 c_47 c_48 c_49 c_50 c_51 c_52 c_53 c_54 c_55 c_56 c_57 f_58 f_59
 obtain ⟨W6, hW6, g6, q6, B6, hy6, ho6⟩ := sto2 HE.out (by omega) HB_Y.out (by decide) (.int .u64 0) (.int .u64 12)
 rw [← hW6]
 clear hW6
 replace HE := hid g6
 replace HB_F := hid (ho6 _ _ _ (by omega) HB_F.out)
 replace HB_V := hid (ho6 _ _ _ (by omega) HB_V.out)
 replace HB_Z := hid (ho6 _ _ _ (by omega) HB_Z.out)
 replace HB_M := hid (ho6 _ _ _ (by omega) HB_M.out)
 replace HB_X := hid (ho6 _ _ _ (by omega) HB_X.out)
 replace HB_Y := hid B6
 replace k3 := k3.keep q6
 refine (Decode_one _ (HT.out.ext HE.out)).mono ?_
 rintro e w7 ⟨rfl, g7⟩
 have hz_w7 := g7.size
 replace HE := hid (HE.out.trans g7)
 replace HB_F := hid (HB_F.out.ext g7)
 replace HB_V := hid (HB_V.out.ext g7)
 replace HB_Z := hid (HB_Z.out.ext g7)
 replace HB_M := hid (HB_M.out.ext g7)
 replace HB_X := hid (HB_X.out.ext g7)
 replace HB_Y := hid (HB_Y.out.ext g7)
 replace k3 := k3.ext g7
 have gA := Ext.alloc w7 (.cells #[.int .i64 2, .bool false, .string ⟨#[49]⟩] 26)
 obtain ⟨c_60, c_61⟩ := (HB_F.out.ext gA).c2
 obtain ⟨c_62, c_63, c_64⟩ := (HB_V.out.ext gA).c3
 obtain ⟨c_65, c_66⟩ := (HB_Z.out.ext gA).c2
 obtain ⟨c_67, c_68, c_69, c_70⟩ := (HB_M.out.ext gA).c4
 obtain ⟨c_71, c_72, c_73⟩ := (HB_X.out.ext gA).c3
 obtain ⟨c_74, c_75⟩ := (HB_Y.out.ext gA).c2
 obtain ⟨f_76, f_77⟩ := (HB_Z.out.ext gA).f2
 go_wp2_with fail
 clear gA c_60 c_61 c_62 c_63 c_64 c_65 c_66 c_67 c_68 c_69 c_70 c_71 c_72 c_73 c_74 c_75 f_76 f_77
 obtain ⟨W8, hW8, g8, hy8, B_D⟩ := pro1 w7 #[.int .i64 2, .bool false, .string ⟨#[49]⟩] 26
 rw [← hW8]
 clear hW8
 have hz_W8 := g8.size
 replace HE := hid (HE.out.trans g8)
 replace HB_F := hid (HB_F.out.ext g8)
 replace HB_V := hid (HB_V.out.ext g8)
 replace HB_Z := hid (HB_Z.out.ext g8)
 replace HB_M := hid (HB_M.out.ext g8)
 replace HB_X := hid (HB_X.out.ext g8)
 replace HB_Y := hid (HB_Y.out.ext g8)
 replace k3 := k3.ext g8
 have HB_D := hid B_D
 clear B_D
 obtain ⟨W9, hW9, g9, q9, B9, hy9, ho9⟩ := sto2 HE.out (by omega) HB_Z.out (by decide) (.int .u64 0) (.int .u64 12)
 rw [← hW9]
 clear hW9
 replace HE := hid g9
 replace HB_F := hid (ho9 _ _ _ (by omega) HB_F.out)
 replace HB_V := hid (ho9 _ _ _ (by omega) HB_V.out)
 replace HB_M := hid (ho9 _ _ _ (by omega) HB_M.out)
 replace HB_X := hid (ho9 _ _ _ (by omega) HB_X.out)
 replace HB_Y := hid (ho9 _ _ _ (by omega) HB_Y.out)
 replace HB_D := hid (ho9 _ _ _ (by omega) HB_D.out)
 replace HB_Z := hid B9
 replace k3 := k3.keep q9
 obtain ⟨c_78, c_79⟩ := HB_Z.out.c2
 refine bodyPost_ret (v := .tuple #[.agg #[.int .u64 0, .int .u64 12], .int .i64 0]) (by simp [results, Tryz.results9, go_sem, c_78, c_79]) rfl ⟨rfl, HE.out⟩
end Go.Proofs.YtopmjkkjlagfcaaGreatDoor

/- the law's awake. -/
namespace Go.Proofs.YtopmjkkjlagfcaaGreatDoor
open Go.RowKit Vn
theorem k12 : wkind 3 3 12 = ((2 : Nat) : Int) := by decide
theorem sm12 : SmQ 10 (wvalK 3 3 (bias 3) 12) := ⟨by unfold Sm; decide +kernel, by unfold Sm; decide +kernel⟩
theorem log2' : IsLog (absQ (wvalK 3 3 (bias 3) 12 + wvalK 3 3 (bias 3) 12)) 1 := ⟨by decide +kernel, by decide +kernel⟩
theorem add12 : addR 3 3 (bias 3) 0 ((2 : Nat) : Int) (wn 3 3 12) (wvalK 3 3 (bias 3) 12) ((2 : Nat) : Int) (wn 3 3 12) (wvalK 3 3 (bias 3) 12) 1 = (16, 0) := by decide +kernel
theorem val16 : valueR 3 3 16 = (2, 0) := by decide +kernel
theorem val64 : valueR 3 3 64 = (0, 6) := by decide +kernel
def thirdQ : Rat := ((1 : Int) : Rat) / ((3 : Int) : Rat)
theorem smThird : SmQ 10 thirdQ := ⟨by unfold Sm; decide +kernel, by unfold Sm; decide +kernel⟩
theorem logThird : IsLog (absQ thirdQ) (-2) := ⟨by decide +kernel, by decide +kernel⟩
theorem rndThird : (rnd 3 3 (bias 3) 3 thirdQ (-2)).1 = 6 := by decide +kernel
theorem numThird : numberR 3 3 6 = (3 / 8, 0) := by decide +kernel
theorem n38 : (3 / 8 : Rat).num = ((3 : Nat) : Int) := by decide +kernel
theorem d38 : (3 / 8 : Rat).den = 8 := by decide +kernel
set_option maxRecDepth 100000 in
set_option maxHeartbeats 4000000 in
theorem six_c (w : World) :
  Calls Tryz.prog 35 #[] w fun e w' => e = .returned (.agg #[.int .i64 3, .int .i64 3]) ∧ Ext w w' := by
 obtain ⟨W0, hW0, g0, hz0, B_Z⟩ := pro1 w #[.int .i64 0, .int .i64 0] 23
 have HE := hid g0
 have HB_Z := hid B_Z
 clear g0 B_Z 
 go_enter Tryz.func35, Tryz.ntmps35
 go_upto_region 1 with (fail)
 rw [← hW0]
 clear hW0
 obtain ⟨c_1, c_2⟩ := HB_Z.out.c2
 obtain ⟨f_3, f_4⟩ := HB_Z.out.f2
 go_wp2_with fail
 clear c_1 c_2 f_3 f_4
 obtain ⟨W1, hW1, g1, q1, B1, hy1, ho1⟩ := sto2 HE.out (by omega) HB_Z.out (by decide) (.int .i64 3) (.int .i64 3)
 rw [← hW1]
 clear hW1
 replace HE := hid g1
 replace HB_Z := hid B1
 obtain ⟨c_5, c_6⟩ := HB_Z.out.c2
 refine bodyPost_ret (v := .agg #[.int .i64 3, .int .i64 3]) (by simp [results, Tryz.results35, go_sem, c_5, c_6]) rfl ⟨rfl, HE.out⟩
set_option maxRecDepth 100000 in
set_option maxHeartbeats 4000000 in
theorem awake_c (w : World) (hw : WM w) (hT : Tabs w) :
  Calls Tryz.prog 11 #[] w fun e w' => e = .returned (.bool true) ∧ Ext w w' := by
 have hF : Fmt (3 : Nat) (3 : Nat) := by unfold Fmt; decide
 have CA : Hid (∀ w, Tabs w → Calls Tryz.prog 30 #[.agg #[.int .i64 3, .int .i64 3], .int .i64 0, .agg #[.int .u64 0, .int .u64 12], .agg #[.int .u64 0, .int .u64 12]] w fun e w' => e = .returned (.tuple #[.agg #[.int .u64 0, .int .u64 16], .int .i64 0, .int .i64 0]) ∧ Ext w w') := hid fun w hT => by
  have := Add_good 3 3 0 12 12 2 2 1 10 w hF (by decide) (by decide) (by decide) k12 k12 (by decide) (by decide) sm12 sm12 (by decide) (fun _ => log2') hT
  rw [add12] at this
  exact this
 have CV : Hid (∀ w, Calls Tryz.prog 18 #[.agg #[.int .i64 3, .int .i64 3], .agg #[.int .u64 0, .int .u64 16]] w (NumErr 2 0 w)) := hid fun w => by
  have := Value_good 3 3 16 w hF (by decide)
  rw [val16] at this
  exact this
 have CB : Hid (∀ w, Calls Tryz.prog 18 #[.agg #[.int .i64 3, .int .i64 3], .agg #[.int .u64 0, .int .u64 64]] w (NumErr 0 6 w)) := hid fun w => by
  have := Value_good 3 3 64 w hF (by decide)
  rw [val64] at this
  exact this
 have CR : Hid (∀ w, Calls Tryz.prog 65 #[.int .i64 1, .int .i64 3] w fun e w' => ∃ v, e = .returned (.tuple #[v, .int .i64 0]) ∧ NumV w' v thirdQ ∧ Ext w w') := hid fun w => Ratio_c 1 3 w (by decide) (by decide) (by decide) (by decide) (by decide)
 have CN : Hid (∀ (v : Value) (w : World), NumV w v thirdQ → Tabs w → Calls Tryz.prog 66 #[.agg #[.int .i64 3, .int .i64 3], .int .i64 3, v] w (NumErr (3 / 8) 0 w)) := hid fun v w h hT => by
  have := Near_good 3 3 3 v thirdQ (-2) 10 w hF (by decide) h smThird (by decide) (fun _ => logThird) hT (by rw [rndThird]; decide)
  rw [rndThird, numThird] at this
  exact this
 have CT : Hid (∀ (v : Value) (w : World), NumV w v 2 → Tabs w → Calls Tryz.prog 67 #[v] w fun e w' => e = .returned (.string ⟨#[50]⟩) ∧ Ext w w') := hid fun v w h hT => Text_whole v 2 2 w h rfl (by decide) hT
 have CU : Hid (∀ (v : Value) (w : World), NumV w v (3 / 8) → Tabs w → Calls Tryz.prog 67 #[v] w fun e w' => e = .returned (.string ⟨#[51, 47, 56]⟩) ∧ Ext w w') := hid fun v w h hT => Text_quo v (3 / 8) 3 8 w h n38 d38 (by decide) (by decide) (by decide) hT
 have HP := hid hw
 have HT := hid hT
 clear hF hw hT
 go_enter Tryz.func11, Tryz.ntmps11
 go_wp2_with fail
 have HE : Hid (Ext w w) := hid (Below.refl _ _)
 refine (six_c _).mono ?_
 rintro e w1 ⟨rfl, g1⟩
 have hz_w1 := g1.size
 replace HE := hid (HE.out.trans g1)
 have gA := Ext.alloc w1 (.cells #[.int .i64 3, .int .i64 3] 23)
 go_wp2_with fail
 clear gA 
 obtain ⟨W2, hW2, g2, hy2, B_F⟩ := pro1 w1 #[.int .i64 3, .int .i64 3] 23
 rw [← hW2]
 clear hW2
 have hz_W2 := g2.size
 replace HE := hid (HE.out.trans g2)
 have HB_F := hid B_F
 clear B_F
 refine (Encode_one _ (HP.out.ext HE.out) (HT.out.ext HE.out)).mono ?_
 rintro e w3 ⟨rfl, g3⟩
 have hz_w3 := g3.size
 replace HE := hid (HE.out.trans g3)
 replace HB_F := hid (HB_F.out.ext g3)
 have gA := Ext.alloc w3 (.cells #[.int .u64 0, .int .u64 12] 29)
 obtain ⟨c_1, c_2⟩ := (HB_F.out.ext gA).c2
 go_wp2_with fail
 clear gA c_1 c_2
 obtain ⟨W4, hW4, g4, hy4, B_A⟩ := pro1 w3 #[.int .u64 0, .int .u64 12] 29
 rw [← hW4]
 clear hW4
 have hz_W4 := g4.size
 replace HE := hid (HE.out.trans g4)
 replace HB_F := hid (HB_F.out.ext g4)
 have HB_A := hid B_A
 clear B_A
 refine (CA.out _ (HT.out.ext HE.out)).mono ?_
 rintro e w5 ⟨rfl, g5⟩
 have hz_w5 := g5.size
 replace HE := hid (HE.out.trans g5)
 replace HB_F := hid (HB_F.out.ext g5)
 replace HB_A := hid (HB_A.out.ext g5)
 have gA := Ext.alloc w5 (.cells #[.int .u64 0, .int .u64 16] 29)
 obtain ⟨c_3, c_4⟩ := (HB_F.out.ext gA).c2
 obtain ⟨c_5, c_6⟩ := (HB_A.out.ext gA).c2
 go_wp2_with fail
 clear gA c_3 c_4 c_5 c_6
 obtain ⟨W6, hW6, g6, hy6, B_B⟩ := pro1 w5 #[.int .u64 0, .int .u64 16] 29
 rw [← hW6]
 clear hW6
 have hz_W6 := g6.size
 replace HE := hid (HE.out.trans g6)
 replace HB_F := hid (HB_F.out.ext g6)
 replace HB_A := hid (HB_A.out.ext g6)
 have HB_B := hid B_B
 clear B_B
 refine (CV.out _).mono ?_
 rintro e w7 ⟨vx, rfl, k7, g7⟩
 have hz_w7 := g7.size
 replace HE := hid (HE.out.trans g7)
 replace HB_F := hid (HB_F.out.ext g7)
 replace HB_A := hid (HB_A.out.ext g7)
 replace HB_B := hid (HB_B.out.ext g7)
 obtain ⟨ng1, a1, n1, c1, a1', n1', c1', rfl⟩ := k7.shape
 have gA := Ext.alloc w7 (.cells #[.bool ng1, .slice a1 n1 c1, .slice a1' n1' c1'] 40)
 obtain ⟨c_7, c_8⟩ := (HB_F.out.ext gA).c2
 obtain ⟨c_9, c_10⟩ := (HB_A.out.ext gA).c2
 obtain ⟨c_11, c_12⟩ := (HB_B.out.ext gA).c2
 go_wp2_with fail
 clear gA c_7 c_8 c_9 c_10 c_11 c_12
 obtain ⟨W8, hW8, g8, hy8, B_X⟩ := pro1 w7 #[.bool ng1, .slice a1 n1 c1, .slice a1' n1' c1'] 40
 rw [← hW8]
 clear hW8
 have hz_W8 := g8.size
 replace HE := hid (HE.out.trans g8)
 replace HB_F := hid (HB_F.out.ext g8)
 replace HB_A := hid (HB_A.out.ext g8)
 replace HB_B := hid (HB_B.out.ext g8)
 replace k7 := k7.ext g8
 have HB_X := hid B_X
 clear B_X
 refine (CR.out _).mono ?_
 rintro e w9 ⟨vt, rfl, k9, g9⟩
 have hz_w9 := g9.size
 replace HE := hid (HE.out.trans g9)
 replace HB_F := hid (HB_F.out.ext g9)
 replace HB_A := hid (HB_A.out.ext g9)
 replace HB_B := hid (HB_B.out.ext g9)
 replace HB_X := hid (HB_X.out.ext g9)
 replace k7 := k7.ext g9
 obtain ⟨ng2, a2, n2, c2, a2', n2', c2', rfl⟩ := k9.shape
 have gA := Ext.alloc w9 (.cells #[.bool ng2, .slice a2 n2 c2, .slice a2' n2' c2'] 40)
 obtain ⟨c_13, c_14⟩ := (HB_F.out.ext gA).c2
 obtain ⟨c_15, c_16⟩ := (HB_A.out.ext gA).c2
 obtain ⟨c_17, c_18⟩ := (HB_B.out.ext gA).c2
 obtain ⟨c_19, c_20, c_21⟩ := (HB_X.out.ext gA).c3
 go_wp2_with fail
 clear gA c_13 c_14 c_15 c_16 c_17 c_18 c_19 c_20 c_21
 obtain ⟨W10, hW10, g10, hy10, B_T⟩ := pro1 w9 #[.bool ng2, .slice a2 n2 c2, .slice a2' n2' c2'] 40
 rw [← hW10]
 clear hW10
 have hz_W10 := g10.size
 replace HE := hid (HE.out.trans g10)
 replace HB_F := hid (HB_F.out.ext g10)
 replace HB_A := hid (HB_A.out.ext g10)
 replace HB_B := hid (HB_B.out.ext g10)
 replace HB_X := hid (HB_X.out.ext g10)
 replace k7 := k7.ext g10
 replace k9 := k9.ext g10
 have HB_T := hid B_T
 clear B_T
 refine (CN.out _ _ k9 (HT.out.ext HE.out)).mono ?_
 rintro e w11 ⟨vy, rfl, k11, g11⟩
 have hz_w11 := g11.size
 replace HE := hid (HE.out.trans g11)
 replace HB_F := hid (HB_F.out.ext g11)
 replace HB_A := hid (HB_A.out.ext g11)
 replace HB_B := hid (HB_B.out.ext g11)
 replace HB_X := hid (HB_X.out.ext g11)
 replace HB_T := hid (HB_T.out.ext g11)
 replace k7 := k7.ext g11
 replace k9 := k9.ext g11
 obtain ⟨ng3, a3, n3, c3, a3', n3', c3', rfl⟩ := k11.shape
 have gA := Ext.alloc w11 (.cells #[.bool ng3, .slice a3 n3 c3, .slice a3' n3' c3'] 40)
 obtain ⟨c_22, c_23⟩ := (HB_F.out.ext gA).c2
 obtain ⟨c_24, c_25⟩ := (HB_A.out.ext gA).c2
 obtain ⟨c_26, c_27⟩ := (HB_B.out.ext gA).c2
 obtain ⟨c_28, c_29, c_30⟩ := (HB_X.out.ext gA).c3
 obtain ⟨c_31, c_32, c_33⟩ := (HB_T.out.ext gA).c3
 go_wp2_with fail
 clear gA c_22 c_23 c_24 c_25 c_26 c_27 c_28 c_29 c_30 c_31 c_32 c_33
 obtain ⟨W12, hW12, g12, hy12, B_Y⟩ := pro1 w11 #[.bool ng3, .slice a3 n3 c3, .slice a3' n3' c3'] 40
 rw [← hW12]
 clear hW12
 have hz_W12 := g12.size
 replace HE := hid (HE.out.trans g12)
 replace HB_F := hid (HB_F.out.ext g12)
 replace HB_A := hid (HB_A.out.ext g12)
 replace HB_B := hid (HB_B.out.ext g12)
 replace HB_X := hid (HB_X.out.ext g12)
 replace HB_T := hid (HB_T.out.ext g12)
 replace k7 := k7.ext g12
 replace k9 := k9.ext g12
 replace k11 := k11.ext g12
 have HB_Y := hid B_Y
 clear B_Y
 refine (CB.out _).mono ?_
 rintro e w13 ⟨vz, rfl, k13, g13⟩
 have hz_w13 := g13.size
 replace HE := hid (HE.out.trans g13)
 replace HB_F := hid (HB_F.out.ext g13)
 replace HB_A := hid (HB_A.out.ext g13)
 replace HB_B := hid (HB_B.out.ext g13)
 replace HB_X := hid (HB_X.out.ext g13)
 replace HB_T := hid (HB_T.out.ext g13)
 replace HB_Y := hid (HB_Y.out.ext g13)
 replace k7 := k7.ext g13
 replace k9 := k9.ext g13
 replace k11 := k11.ext g13
 obtain ⟨ng4, a4, n4, c4, a4', n4', c4', rfl⟩ := k13.shape
 have gA := Ext.alloc w13 (.cells #[.bool ng4, .slice a4 n4 c4, .slice a4' n4' c4'] 40)
 obtain ⟨c_34, c_35⟩ := (HB_F.out.ext gA).c2
 obtain ⟨c_36, c_37⟩ := (HB_A.out.ext gA).c2
 obtain ⟨c_38, c_39⟩ := (HB_B.out.ext gA).c2
 obtain ⟨c_40, c_41, c_42⟩ := (HB_X.out.ext gA).c3
 obtain ⟨c_43, c_44, c_45⟩ := (HB_T.out.ext gA).c3
 obtain ⟨c_46, c_47, c_48⟩ := (HB_Y.out.ext gA).c3
 go_wp2_with fail
 clear gA c_34 c_35 c_36 c_37 c_38 c_39 c_40 c_41 c_42 c_43 c_44 c_45 c_46 c_47 c_48
 obtain ⟨W14, hW14, g14, hy14, B_Z⟩ := pro1 w13 #[.bool ng4, .slice a4 n4 c4, .slice a4' n4' c4'] 40
 rw [← hW14]
 clear hW14
 have hz_W14 := g14.size
 replace HE := hid (HE.out.trans g14)
 replace HB_F := hid (HB_F.out.ext g14)
 replace HB_A := hid (HB_A.out.ext g14)
 replace HB_B := hid (HB_B.out.ext g14)
 replace HB_X := hid (HB_X.out.ext g14)
 replace HB_T := hid (HB_T.out.ext g14)
 replace HB_Y := hid (HB_Y.out.ext g14)
 replace k7 := k7.ext g14
 replace k9 := k9.ext g14
 replace k11 := k11.ext g14
 replace k13 := k13.ext g14
 have HB_Z := hid B_Z
 clear B_Z
 refine (CT.out _ _ k7 (HT.out.ext HE.out)).mono ?_
 rintro e w15 ⟨rfl, g15⟩
 have hz_w15 := g15.size
 replace HE := hid (HE.out.trans g15)
 replace HB_F := hid (HB_F.out.ext g15)
 replace HB_A := hid (HB_A.out.ext g15)
 replace HB_B := hid (HB_B.out.ext g15)
 replace HB_X := hid (HB_X.out.ext g15)
 replace HB_T := hid (HB_T.out.ext g15)
 replace HB_Y := hid (HB_Y.out.ext g15)
 replace HB_Z := hid (HB_Z.out.ext g15)
 replace k7 := k7.ext g15
 replace k9 := k9.ext g15
 replace k11 := k11.ext g15
 replace k13 := k13.ext g15
 obtain ⟨c_49, c_50⟩ := HB_F.out.c2
 obtain ⟨c_51, c_52⟩ := HB_A.out.c2
 obtain ⟨c_53, c_54⟩ := HB_B.out.c2
 obtain ⟨c_55, c_56, c_57⟩ := HB_X.out.c3
 obtain ⟨c_58, c_59, c_60⟩ := HB_T.out.c3
 obtain ⟨c_61, c_62, c_63⟩ := HB_Y.out.c3
 obtain ⟨c_64, c_65, c_66⟩ := HB_Z.out.c3
 go_wp2_with fail
 clear c_49 c_50 c_51 c_52 c_53 c_54 c_55 c_56 c_57 c_58 c_59 c_60 c_61 c_62 c_63 c_64 c_65 c_66
 refine (CU.out _ _ k11 (HT.out.ext HE.out)).mono ?_
 rintro e w16 ⟨rfl, g16⟩
 have hz_w16 := g16.size
 replace HE := hid (HE.out.trans g16)
 replace HB_F := hid (HB_F.out.ext g16)
 replace HB_A := hid (HB_A.out.ext g16)
 replace HB_B := hid (HB_B.out.ext g16)
 replace HB_X := hid (HB_X.out.ext g16)
 replace HB_T := hid (HB_T.out.ext g16)
 replace HB_Y := hid (HB_Y.out.ext g16)
 replace HB_Z := hid (HB_Z.out.ext g16)
 replace k7 := k7.ext g16
 replace k9 := k9.ext g16
 replace k11 := k11.ext g16
 replace k13 := k13.ext g16
 obtain ⟨c_67, c_68⟩ := HB_F.out.c2
 obtain ⟨c_69, c_70⟩ := HB_A.out.c2
 obtain ⟨c_71, c_72⟩ := HB_B.out.c2
 obtain ⟨c_73, c_74, c_75⟩ := HB_X.out.c3
 obtain ⟨c_76, c_77, c_78⟩ := HB_T.out.c3
 obtain ⟨c_79, c_80, c_81⟩ := HB_Y.out.c3
 obtain ⟨c_82, c_83, c_84⟩ := HB_Z.out.c3
 go_wp2_with fail
 clear c_67 c_68 c_69 c_70 c_71 c_72 c_73 c_74 c_75 c_76 c_77 c_78 c_79 c_80 c_81 c_82 c_83 c_84
 refine bodyPost_ret (v := .bool true) (by simp [results, Tryz.results11, go_sem]) rfl ⟨rfl, HE.out⟩
end Go.Proofs.YtopmjkkjlagfcaaGreatDoor

/- the law FloatsWords, over contracts. -/
namespace Go.Proofs.YtopmjkkjlagfcaaGreatDoor
open Go.RowKit Vn
theorem Box.atNew {X : World} {g : Nat} {cs : Array Value} {t : TypeId} (h : g = X.heap.size) : Box (X.alloc (.cells cs t)) g cs t := by subst h; exact Box.new X cs t
theorem Box.ontoA {X : World} {o : Obj} {g : Nat} {cs : Array Value} {t : TypeId} (h : Box X g cs t) : Box (X.alloc o) g cs t := h.ext (Ext.alloc _ _)
theorem Box.ontoD {X : World} {g : Nat} {cs : Array Value} {t : TypeId} (h : Box X g cs t) : Box X.drew g cs t := h
theorem Ext.ontoA {W X : World} {o : Obj} (h : Ext W X) : Ext W (X.alloc o) := Ext.trans h (Ext.alloc _ _)
theorem Ext.ontoD {W X : World} (h : Ext W X) : Ext W X.drew := Ext.trans h (Below.drew (Below.refl _ _))
theorem Ext.ontoS {W X : World} {b i : Nat} {v : Value} (hle : W.heap.size ≤ b) (h : Ext W X) : Ext W (X.setCell ⟨b, i, none⟩ v) := h.setCell (p := ⟨b, i, none⟩) hle v
def Tail (E P : Int) (lo hi : Rat) (p0 p1 : Nat) : Prop := ∃ n e : Int, (∀ u v w, NumV w u lo → NumV w v hi → Tabs w → Calls Tryz.prog 39 #[.agg #[.int .i64 E, .int .i64 P], u, v] w fun r w' => r = .returned (.tuple #[.int .i64 n, .int .i64 e]) ∧ Ext w w') ∧
 (e = 3 ∨ (e = 0 ∧ 0 < n ∧ n ≤ 4611686018427387904 ∧ ∃ q0 q1 : Nat, (∀ u w, NumV w u lo → Tabs w → Calls Tryz.prog 40 #[.agg #[.int .i64 E, .int .i64 P], u, .int .i64 (n - 1)] w fun r w' => r = .returned (.tuple #[.agg #[.int .u64 (q0 : Nat), .int .u64 (q1 : Nat)], .int .i64 0]) ∧ Ext w w') ∧
  (hi = 0 → q0 = 0 ∧ q1 = 0) ∧ (hi ≠ 0 → q0 = p0 ∧ q1 = p1)))
set_option maxRecDepth 100000 in
set_option maxHeartbeats 4000000 in
theorem words_bad (E P M : Int) (i0 i1 j0 j1 : Nat) (c0 c1 : Int) (de : Int) (hde : (de == 0) = false) (w : World) (CD : Hid (∀ w, Tabs w → Calls Tryz.prog 37 #[.agg #[.int .i64 E, .int .i64 P], .agg #[.int .u64 (i0 : Nat), .int .u64 (i1 : Nat)]] w fun e w' => e = .returned (.tuple #[.agg #[.int .i64 0, .bool false, .string ⟨#[]⟩], .int .i64 de]) ∧ Ext w w'))  (hw : WM w) (hT : Tabs w) :
  Calls Tryz.prog 8 #[.agg #[.int .i64 E, .int .i64 P, .int .i64 M, .int .u64 (i0 : Nat), .int .u64 (i1 : Nat), .int .u64 (j0 : Nat), .int .u64 (j1 : Nat), .int .u64 c0, .int .u64 c1]] w fun e w' => TruePost w e w' := by
 have hde2 : (de != 0) = true := by simp [bne, hde]
 have CW : Hid (∀ w, WM w → Tabs w → Calls Tryz.prog 11 #[] w fun e w' => e = .returned (.bool true) ∧ Ext w w') := hid fun w h k => awake_c w h k
 have HP := hid hw
 have HT := hid hT
 clear hw hT
 obtain ⟨W0, hW0, g0, hz0, B_O⟩ := pro1 w #[.int .i64 E, .int .i64 P, .int .i64 M, .int .u64 (i0 : Nat), .int .u64 (i1 : Nat), .int .u64 (j0 : Nat), .int .u64 (j1 : Nat), .int .u64 c0, .int .u64 c1] 57
 have HE := hid g0
 have HB_O := hid B_O
 clear g0 B_O 
 go_enter Tryz.func8, Tryz.ntmps8
 go_upto_region 1 with (fail)
 rw [← hW0]
 clear hW0
 obtain ⟨c_1, c_2, c_3, c_4, c_5, c_6, c_7, c_8, c_9⟩ := HB_O.out.c9
 go_upto_region 2 with (fail)
 clear c_1 c_2 c_3 c_4 c_5 c_6 c_7 c_8 c_9
 obtain ⟨W1, hW1, g1, hy1, B_F⟩ := pro1 W0 #[.int .i64 E, .int .i64 P] 23
 rw [← hW1]
 clear hW1
 have hz_W1 := g1.size
 replace HE := hid (HE.out.trans g1)
 replace HB_O := hid (HB_O.out.ext g1)
 have HB_F := hid B_F
 clear B_F
 obtain ⟨c_10, c_11, c_12, c_13, c_14, c_15, c_16, c_17, c_18⟩ := HB_O.out.c9
 obtain ⟨c_19, c_20⟩ := HB_F.out.c2
 go_wp2_with fail
 clear c_10 c_11 c_12 c_13 c_14 c_15 c_16 c_17 c_18 c_19 c_20
 refine (CD.out _ (HT.out.ext HE.out)).mono ?_
 rintro e w2 ⟨rfl, g2⟩
 have hz_w2 := g2.size
 replace HE := hid (HE.out.trans g2)
 replace HB_O := hid (HB_O.out.ext g2)
 replace HB_F := hid (HB_F.out.ext g2)
 have gA := Ext.alloc w2 (.cells #[.int .i64 0, .bool false, .string ⟨#[]⟩] 26)
 obtain ⟨c_21, c_22, c_23, c_24, c_25, c_26, c_27, c_28, c_29⟩ := (HB_O.out.ext gA).c9
 obtain ⟨c_30, c_31⟩ := (HB_F.out.ext gA).c2
 go_wp2_with fail
 clear gA c_21 c_22 c_23 c_24 c_25 c_26 c_27 c_28 c_29 c_30 c_31
 obtain ⟨W3, hW3, g3, hy3, B_V⟩ := pro1 w2 #[.int .i64 0, .bool false, .string ⟨#[]⟩] 26
 rw [← hW3]
 clear hW3
 have hz_W3 := g3.size
 replace HE := hid (HE.out.trans g3)
 replace HB_O := hid (HB_O.out.ext g3)
 replace HB_F := hid (HB_F.out.ext g3)
 have HB_V := hid B_V
 clear B_V
 refine (CW.out _ (HP.out.ext HE.out) (HT.out.ext HE.out)).mono ?_
 rintro e w4 ⟨rfl, g4⟩
 have hz_w4 := g4.size
 replace HE := hid (HE.out.trans g4)
 replace HB_O := hid (HB_O.out.ext g4)
 replace HB_F := hid (HB_F.out.ext g4)
 replace HB_V := hid (HB_V.out.ext g4)
 obtain ⟨c_32, c_33, c_34, c_35, c_36, c_37, c_38, c_39, c_40⟩ := HB_O.out.c9
 obtain ⟨c_41, c_42⟩ := HB_F.out.c2
 obtain ⟨c_43, c_44, c_45⟩ := HB_V.out.c3
 go_wp2_with fail
 clear c_32 c_33 c_34 c_35 c_36 c_37 c_38 c_39 c_40 c_41 c_42 c_43 c_44 c_45
 unfold TruePost
 refine bodyPost_ret (v := .bool true) (by simp [results, Tryz.results8, go_sem]) rfl ⟨rfl, HE.out⟩
set_option maxRecDepth 100000 in
set_option maxHeartbeats 4000000 in
theorem words_nan (E P M : Int) (i0 i1 j0 j1 : Nat) (c0 c1 : Int) (kd : Int) (hkd : kd = 4 ∨ kd = 5) (S : ByteArray) (ng : Bool) (w : World) (CD : Hid (∀ w, Tabs w → Calls Tryz.prog 37 #[.agg #[.int .i64 E, .int .i64 P], .agg #[.int .u64 (i0 : Nat), .int .u64 (i1 : Nat)]] w fun e w' => e = .returned (.tuple #[.agg #[.int .i64 kd, .bool ng, .string S], .int .i64 0]) ∧ Ext w w')) (CE : Hid (∀ w, WM w → Tabs w → Calls Tryz.prog 9 #[.agg #[.int .i64 E, .int .i64 P], .agg #[.int .i64 kd, .bool ng, .string S]] w fun e w' => e = .returned (.tuple #[.agg #[.int .u64 (i0 : Nat), .int .u64 (i1 : Nat)], .int .i64 0]) ∧ Ext w w')) (CU : Hid (∀ w, Calls Tryz.prog 21 #[.agg #[.int .i64 E, .int .i64 P], .agg #[.int .u64 (i0 : Nat), .int .u64 (i1 : Nat)], .bool true] w fun e w' => e = .returned (.tuple #[.agg #[.int .u64 0, .int .u64 0], .int .i64 4]) ∧ Ext w w'))  (hw : WM w) (hT : Tabs w) :
  Calls Tryz.prog 8 #[.agg #[.int .i64 E, .int .i64 P, .int .i64 M, .int .u64 (i0 : Nat), .int .u64 (i1 : Nat), .int .u64 (j0 : Nat), .int .u64 (j1 : Nat), .int .u64 c0, .int .u64 c1]] w fun e w' => TruePost w e w' := by
 have HKD := hid hkd
 clear hkd
 have CW : Hid (∀ w, WM w → Tabs w → Calls Tryz.prog 11 #[] w fun e w' => e = .returned (.bool true) ∧ Ext w w') := hid fun w h k => awake_c w h k
 have HP := hid hw
 have HT := hid hT
 clear hw hT
 obtain ⟨W0, hW0, g0, hz0, B_O⟩ := pro1 w #[.int .i64 E, .int .i64 P, .int .i64 M, .int .u64 (i0 : Nat), .int .u64 (i1 : Nat), .int .u64 (j0 : Nat), .int .u64 (j1 : Nat), .int .u64 c0, .int .u64 c1] 57
 have HE := hid g0
 have HB_O := hid B_O
 clear g0 B_O 
 go_enter Tryz.func8, Tryz.ntmps8
 go_upto_region 1 with (fail)
 rw [← hW0]
 clear hW0
 obtain ⟨c_1, c_2, c_3, c_4, c_5, c_6, c_7, c_8, c_9⟩ := HB_O.out.c9
 go_upto_region 2 with (fail)
 clear c_1 c_2 c_3 c_4 c_5 c_6 c_7 c_8 c_9
 obtain ⟨W1, hW1, g1, hy1, B_F⟩ := pro1 W0 #[.int .i64 E, .int .i64 P] 23
 rw [← hW1]
 clear hW1
 have hz_W1 := g1.size
 replace HE := hid (HE.out.trans g1)
 replace HB_O := hid (HB_O.out.ext g1)
 have HB_F := hid B_F
 clear B_F
 obtain ⟨c_10, c_11, c_12, c_13, c_14, c_15, c_16, c_17, c_18⟩ := HB_O.out.c9
 obtain ⟨c_19, c_20⟩ := HB_F.out.c2
 go_wp2_with fail
 clear c_10 c_11 c_12 c_13 c_14 c_15 c_16 c_17 c_18 c_19 c_20
 refine (CD.out _ (HT.out.ext HE.out)).mono ?_
 rintro e w2 ⟨rfl, g2⟩
 have hz_w2 := g2.size
 replace HE := hid (HE.out.trans g2)
 replace HB_O := hid (HB_O.out.ext g2)
 replace HB_F := hid (HB_F.out.ext g2)
 have gA := Ext.alloc w2 (.cells #[.int .i64 kd, .bool ng, .string S] 26)
 obtain ⟨c_21, c_22, c_23, c_24, c_25, c_26, c_27, c_28, c_29⟩ := (HB_O.out.ext gA).c9
 obtain ⟨c_30, c_31⟩ := (HB_F.out.ext gA).c2
 go_wp2_with fail
 clear gA c_21 c_22 c_23 c_24 c_25 c_26 c_27 c_28 c_29 c_30 c_31
 obtain ⟨W3, hW3, g3, hy3, B_V⟩ := pro1 w2 #[.int .i64 kd, .bool ng, .string S] 26
 rw [← hW3]
 clear hW3
 have hz_W3 := g3.size
 replace HE := hid (HE.out.trans g3)
 replace HB_O := hid (HB_O.out.ext g3)
 replace HB_F := hid (HB_F.out.ext g3)
 have HB_V := hid B_V
 clear B_V
 refine (CE.out _ (HP.out.ext HE.out) (HT.out.ext HE.out)).mono ?_
 rintro e w4 ⟨rfl, g4⟩
 have hz_w4 := g4.size
 replace HE := hid (HE.out.trans g4)
 replace HB_O := hid (HB_O.out.ext g4)
 replace HB_F := hid (HB_F.out.ext g4)
 replace HB_V := hid (HB_V.out.ext g4)
 have gA := Ext.alloc w4 (.cells #[.int .u64 (i0 : Nat), .int .u64 (i1 : Nat)] 29)
 obtain ⟨c_32, c_33, c_34, c_35, c_36, c_37, c_38, c_39, c_40⟩ := (HB_O.out.ext gA).c9
 obtain ⟨c_41, c_42⟩ := (HB_F.out.ext gA).c2
 obtain ⟨c_43, c_44, c_45⟩ := (HB_V.out.ext gA).c3
 go_wp2_with fail
 clear gA c_32 c_33 c_34 c_35 c_36 c_37 c_38 c_39 c_40 c_41 c_42 c_43 c_44 c_45
 obtain ⟨W5, hW5, g5, hy5, B_E⟩ := pro1 w4 #[.int .u64 (i0 : Nat), .int .u64 (i1 : Nat)] 29
 rw [← hW5]
 clear hW5
 have hz_W5 := g5.size
 replace HE := hid (HE.out.trans g5)
 replace HB_O := hid (HB_O.out.ext g5)
 replace HB_F := hid (HB_F.out.ext g5)
 replace HB_V := hid (HB_V.out.ext g5)
 have HB_E := hid B_E
 clear B_E
 refine (CU.out _).mono ?_
 rintro e w6 ⟨rfl, g6⟩
 have hz_w6 := g6.size
 replace HE := hid (HE.out.trans g6)
 replace HB_O := hid (HB_O.out.ext g6)
 replace HB_F := hid (HB_F.out.ext g6)
 replace HB_V := hid (HB_V.out.ext g6)
 replace HB_E := hid (HB_E.out.ext g6)
 have gA := Ext.alloc w6 (.cells #[.int .u64 0, .int .u64 0] 29)
 obtain ⟨c_46, c_47, c_48, c_49, c_50, c_51, c_52, c_53, c_54⟩ := (HB_O.out.ext gA).c9
 obtain ⟨c_55, c_56⟩ := (HB_F.out.ext gA).c2
 obtain ⟨c_57, c_58, c_59⟩ := (HB_V.out.ext gA).c3
 obtain ⟨c_60, c_61⟩ := (HB_E.out.ext gA).c2
 go_upto_region 9 with (fail)
 clear gA c_46 c_47 c_48 c_49 c_50 c_51 c_52 c_53 c_54 c_55 c_56 c_57 c_58 c_59 c_60 c_61
 obtain ⟨W7, hW7, g7, hy7, B_U⟩ := pro1 w6 #[.int .u64 0, .int .u64 0] 29
 rw [← hW7]
 clear hW7
 have hz_W7 := g7.size
 replace HE := hid (HE.out.trans g7)
 replace HB_O := hid (HB_O.out.ext g7)
 replace HB_F := hid (HB_F.out.ext g7)
 replace HB_V := hid (HB_V.out.ext g7)
 replace HB_E := hid (HB_E.out.ext g7)
 have HB_U := hid B_U
 clear B_U
 go_cut [58] (fun sv wx => sv = .bool true ∧ Hid (Ext W7 wx))
 case first =>
  rcases HKD.out with rfl | rfl
  ·obtain ⟨c_62, c_63, c_64, c_65, c_66, c_67, c_68, c_69, c_70⟩ := HB_O.out.c9
   obtain ⟨c_71, c_72⟩ := HB_F.out.c2
   obtain ⟨c_73, c_74, c_75⟩ := HB_V.out.c3
   obtain ⟨c_76, c_77⟩ := HB_E.out.c2
   obtain ⟨c_78, c_79⟩ := HB_U.out.c2
   go_wp2_with fail
   clear c_62 c_63 c_64 c_65 c_66 c_67 c_68 c_69 c_70 c_71 c_72 c_73 c_74 c_75 c_76 c_77 c_78 c_79
   go_meet
   exact ⟨rfl, hid (Below.refl _ W7)⟩
  ·obtain ⟨c_62, c_63, c_64, c_65, c_66, c_67, c_68, c_69, c_70⟩ := HB_O.out.c9
   obtain ⟨c_71, c_72⟩ := HB_F.out.c2
   obtain ⟨c_73, c_74, c_75⟩ := HB_V.out.c3
   obtain ⟨c_76, c_77⟩ := HB_E.out.c2
   obtain ⟨c_78, c_79⟩ := HB_U.out.c2
   go_wp2_with fail
   clear c_62 c_63 c_64 c_65 c_66 c_67 c_68 c_69 c_70 c_71 c_72 c_73 c_74 c_75 c_76 c_77 c_78 c_79
   go_meet
   exact ⟨rfl, hid (Below.refl _ W7)⟩
 case rest =>
  obtain ⟨rfl, gx9⟩ := hcut
  have hz_wc := gx9.out.size
  replace HE := hid (HE.out.trans gx9.out)
  replace HB_O := hid (HB_O.out.ext gx9.out)
  replace HB_F := hid (HB_F.out.ext gx9.out)
  replace HB_V := hid (HB_V.out.ext gx9.out)
  replace HB_E := hid (HB_E.out.ext gx9.out)
  replace HB_U := hid (HB_U.out.ext gx9.out)
  obtain ⟨c_62, c_63, c_64, c_65, c_66, c_67, c_68, c_69, c_70⟩ := HB_O.out.c9
  obtain ⟨c_71, c_72⟩ := HB_F.out.c2
  obtain ⟨c_73, c_74, c_75⟩ := HB_V.out.c3
  obtain ⟨c_76, c_77⟩ := HB_E.out.c2
  obtain ⟨c_78, c_79⟩ := HB_U.out.c2
  go_wp2_with fail
  clear c_62 c_63 c_64 c_65 c_66 c_67 c_68 c_69 c_70 c_71 c_72 c_73 c_74 c_75 c_76 c_77 c_78 c_79
  refine (CW.out _ (HP.out.ext HE.out) (HT.out.ext HE.out)).mono ?_
  rintro e w8 ⟨rfl, g8⟩
  have hz_w8 := g8.size
  replace HE := hid (HE.out.trans g8)
  replace HB_O := hid (HB_O.out.ext g8)
  replace HB_F := hid (HB_F.out.ext g8)
  replace HB_V := hid (HB_V.out.ext g8)
  replace HB_E := hid (HB_E.out.ext g8)
  replace HB_U := hid (HB_U.out.ext g8)
  obtain ⟨c_80, c_81, c_82, c_83, c_84, c_85, c_86, c_87, c_88⟩ := HB_O.out.c9
  obtain ⟨c_89, c_90⟩ := HB_F.out.c2
  obtain ⟨c_91, c_92, c_93⟩ := HB_V.out.c3
  obtain ⟨c_94, c_95⟩ := HB_E.out.c2
  obtain ⟨c_96, c_97⟩ := HB_U.out.c2
  go_wp2_with fail
  clear c_80 c_81 c_82 c_83 c_84 c_85 c_86 c_87 c_88 c_89 c_90 c_91 c_92 c_93 c_94 c_95 c_96 c_97
  unfold TruePost
  refine bodyPost_ret (v := .bool true) (by simp [results, Tryz.results8, go_sem]) rfl ⟨rfl, HE.out⟩
end Go.Proofs.YtopmjkkjlagfcaaGreatDoor
