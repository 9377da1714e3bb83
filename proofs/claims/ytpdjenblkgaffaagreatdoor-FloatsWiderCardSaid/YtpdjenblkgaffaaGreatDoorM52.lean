/- the law FloatsWider, over contracts. -/
import Derived.Test.YtpdjenblkgaffaaGreatDoorM41
import Derived.Test.YtpdjenblkgaffaaGreatDoorM50
import Derived.Test.YtpdjenblkgaffaaGreatDoorM51
namespace Go.Proofs.YtpdjenblkgaffaaGreatDoor
open Go.RowKit Vn

/-- the casts there and back, in an abstract form. -/
def CastsOk (E P E' P' M : Int) (i0 i1 : Nat) (qa : Rat) : Prop := ∃ r0 r1 : Nat, (∀ w, Tabs w → Calls Tryz.prog 12 #[.agg #[.int .i64 E, .int .i64 P], .agg #[.int .i64 E', .int .i64 P'], .int .i64 M, .agg #[.int .u64 (i0 : Nat), .int .u64 (i1 : Nat)]] w fun e w' => e = .returned (.tuple #[.agg #[.int .u64 r0, .int .u64 r1], .int .i64 0, .int .i64 0]) ∧ Ext w w') ∧
  (∀ w, Calls Tryz.prog 11 #[.agg #[.int .i64 E', .int .i64 P'], .agg #[.int .u64 r0, .int .u64 r1]] w (NumErr qa 0 w)) ∧
  (∀ w, Tabs w → Calls Tryz.prog 12 #[.agg #[.int .i64 E', .int .i64 P'], .agg #[.int .i64 E, .int .i64 P], .int .i64 M, .agg #[.int .u64 r0, .int .u64 r1]] w fun e w' => e = .returned (.tuple #[.agg #[.int .u64 (i0 : Nat), .int .u64 (i1 : Nat)], .int .i64 0, .int .i64 0]) ∧ Ext w w')

set_option maxRecDepth 100000 in
set_option maxHeartbeats 4000000 in
theorem wider_b1 (E P M E' P' : Int) (i0 i1 j0 j1 : Nat) (c0 c1 : Int) (lq mq : Rat) (w : World) (CL : Hid (∀ w, Calls Tryz.prog 5 #[.agg #[.int .i64 E, .int .i64 P]] w (NumErr lq 2 w))) (CG : Hid (∀ w, Calls Tryz.prog 6 #[.agg #[.int .i64 E, .int .i64 P]] w (NumErr mq 2 w))) (CI : Hid (∀ w, Calls Tryz.prog 7 #[.agg #[.int .i64 E, .int .i64 P], .agg #[.int .i64 E', .int .i64 P']] w fun e w' => e = .returned (.bool false) ∧ Ext w w')) (hw : WM w) (hT : Tabs w) :
   Calls Tryz.prog 3 #[.agg #[.int .i64 E, .int .i64 P, .int .i64 M, .int .u64 (i0 : Nat), .int .u64 (i1 : Nat), .int .u64 (j0 : Nat), .int .u64 (j1 : Nat), .int .u64 c0, .int .u64 c1], .agg #[.int .i64 E', .int .i64 P']] w fun e w' => TruePost w e w' := by
  have CW : Hid (∀ w, WM w → Tabs w → Calls Tryz.prog 9 #[] w fun e w' => e = .returned (.bool true) ∧ Ext w w') := hid fun w h k => awake_c w h k
  have HP := hid hw
  have HT := hid hT
  clear hw hT
  obtain ⟨W0, hW0, g0, hz0, B_O, B_G⟩ := pro2s w #[.int .i64 E, .int .i64 P, .int .i64 M, .int .u64 (i0 : Nat), .int .u64 (i1 : Nat), .int .u64 (j0 : Nat), .int .u64 (j1 : Nat), .int .u64 c0, .int .u64 c1] #[.int .i64 E', .int .i64 P'] 28 23
  have HE := hid g0
  have HB_O := hid B_O
  have HB_G := hid B_G
  clear g0 B_O B_G 
  go_enter Tryz.func3, Tryz.ntmps3
  go_upto_region 1 with (fail)
  rw [← hW0]
  clear hW0
  obtain ⟨c_1, c_2, c_3, c_4, c_5, c_6, c_7, c_8, c_9⟩ := HB_O.out.c9
  go_wp2_with fail
  clear c_1 c_2 c_3 c_4 c_5 c_6 c_7 c_8 c_9
  obtain ⟨W1, hW1, g1, hy1, B_F⟩ := pro1 W0 #[.int .i64 E, .int .i64 P] 23
  rw [← hW1]
  clear hW1
  have hz_W1 := g1.size
  replace HE := hid (HE.out.trans g1)
  replace HB_O := hid (HB_O.out.ext g1)
  replace HB_G := hid (HB_G.out.ext g1)
  have HB_F := hid B_F
  clear B_F
  refine (CL.out _).mono ?_
  rintro e w2 ⟨vl, rfl, kl, g2⟩
  have hz_w2 := g2.size
  replace HE := hid (HE.out.trans g2)
  replace HB_O := hid (HB_O.out.ext g2)
  replace HB_G := hid (HB_G.out.ext g2)
  replace HB_F := hid (HB_F.out.ext g2)
  obtain ⟨ngl, al, nl, cl, al', nl', cl', rfl⟩ := kl.shape
  have gA := Ext.alloc w2 (.cells #[.bool ngl, .slice al nl cl, .slice al' nl' cl'] 32)
  obtain ⟨c_10, c_11, c_12, c_13, c_14, c_15, c_16, c_17, c_18⟩ := (HB_O.out.ext gA).c9
  obtain ⟨c_19, c_20⟩ := (HB_G.out.ext gA).c2
  obtain ⟨c_21, c_22⟩ := (HB_F.out.ext gA).c2
  go_wp2_with fail
  clear gA c_10 c_11 c_12 c_13 c_14 c_15 c_16 c_17 c_18 c_19 c_20 c_21 c_22
  obtain ⟨W3, hW3, g3, hy3, B_L⟩ := pro1 w2 #[.bool ngl, .slice al nl cl, .slice al' nl' cl'] 32
  rw [← hW3]
  clear hW3
  have hz_W3 := g3.size
  replace HE := hid (HE.out.trans g3)
  replace HB_O := hid (HB_O.out.ext g3)
  replace HB_G := hid (HB_G.out.ext g3)
  replace HB_F := hid (HB_F.out.ext g3)
  replace kl := kl.ext g3
  have HB_L := hid B_L
  clear B_L
  refine (CG.out _).mono ?_
  rintro e w4 ⟨vm, rfl, km, g4⟩
  have hz_w4 := g4.size
  replace HE := hid (HE.out.trans g4)
  replace HB_O := hid (HB_O.out.ext g4)
  replace HB_G := hid (HB_G.out.ext g4)
  replace HB_F := hid (HB_F.out.ext g4)
  replace HB_L := hid (HB_L.out.ext g4)
  replace kl := kl.ext g4
  obtain ⟨ngm, am, nm, cm, am', nm', cm', rfl⟩ := km.shape
  have gA := Ext.alloc w4 (.cells #[.bool ngm, .slice am nm cm, .slice am' nm' cm'] 32)
  obtain ⟨c_23, c_24, c_25, c_26, c_27, c_28, c_29, c_30, c_31⟩ := (HB_O.out.ext gA).c9
  obtain ⟨c_32, c_33⟩ := (HB_G.out.ext gA).c2
  obtain ⟨c_34, c_35⟩ := (HB_F.out.ext gA).c2
  obtain ⟨c_36, c_37, c_38⟩ := (HB_L.out.ext gA).c3
  go_wp2_with fail
  clear gA c_23 c_24 c_25 c_26 c_27 c_28 c_29 c_30 c_31 c_32 c_33 c_34 c_35 c_36 c_37 c_38
  obtain ⟨W5, hW5, g5, hy5, B_S⟩ := pro1 w4 #[.bool ngm, .slice am nm cm, .slice am' nm' cm'] 32
  rw [← hW5]
  clear hW5
  have hz_W5 := g5.size
  replace HE := hid (HE.out.trans g5)
  replace HB_O := hid (HB_O.out.ext g5)
  replace HB_G := hid (HB_G.out.ext g5)
  replace HB_F := hid (HB_F.out.ext g5)
  replace HB_L := hid (HB_L.out.ext g5)
  replace kl := kl.ext g5
  replace km := km.ext g5
  have HB_S := hid B_S
  clear B_S
  refine (CI.out _).mono ?_
  rintro e w6 ⟨rfl, g6⟩
  have hz_w6 := g6.size
  replace HE := hid (HE.out.trans g6)
  replace HB_O := hid (HB_O.out.ext g6)
  replace HB_G := hid (HB_G.out.ext g6)
  replace HB_F := hid (HB_F.out.ext g6)
  replace HB_L := hid (HB_L.out.ext g6)
  replace HB_S := hid (HB_S.out.ext g6)
  replace kl := kl.ext g6
  replace km := km.ext g6
  obtain ⟨c_39, c_40, c_41, c_42, c_43, c_44, c_45, c_46, c_47⟩ := HB_O.out.c9
  obtain ⟨c_48, c_49⟩ := HB_G.out.c2
  obtain ⟨c_50, c_51⟩ := HB_F.out.c2
  obtain ⟨c_52, c_53, c_54⟩ := HB_L.out.c3
  obtain ⟨c_55, c_56, c_57⟩ := HB_S.out.c3
  go_wp2_with fail
  clear c_39 c_40 c_41 c_42 c_43 c_44 c_45 c_46 c_47 c_48 c_49 c_50 c_51 c_52 c_53 c_54 c_55 c_56 c_57
  refine (CW.out _ (HP.out.ext HE.out) (HT.out.ext HE.out)).mono ?_
  rintro e w7 ⟨rfl, g7⟩
  have hz_w7 := g7.size
  replace HE := hid (HE.out.trans g7)
  replace HB_O := hid (HB_O.out.ext g7)
  replace HB_G := hid (HB_G.out.ext g7)
  replace HB_F := hid (HB_F.out.ext g7)
  replace HB_L := hid (HB_L.out.ext g7)
  replace HB_S := hid (HB_S.out.ext g7)
  replace kl := kl.ext g7
  replace km := km.ext g7
  obtain ⟨c_58, c_59, c_60, c_61, c_62, c_63, c_64, c_65, c_66⟩ := HB_O.out.c9
  obtain ⟨c_67, c_68⟩ := HB_G.out.c2
  obtain ⟨c_69, c_70⟩ := HB_F.out.c2
  obtain ⟨c_71, c_72, c_73⟩ := HB_L.out.c3
  obtain ⟨c_74, c_75, c_76⟩ := HB_S.out.c3
  go_wp2_with fail
  clear c_58 c_59 c_60 c_61 c_62 c_63 c_64 c_65 c_66 c_67 c_68 c_69 c_70 c_71 c_72 c_73 c_74 c_75 c_76
  unfold TruePost
  refine bodyPost_ret (v := .bool true) (by simp [results, Tryz.results3, go_sem]) rfl ⟨rfl, HE.out⟩
set_option maxRecDepth 100000 in
set_option maxHeartbeats 4000000 in
theorem wider_b2 (E P M E' P' : Int) (i0 i1 j0 j1 : Nat) (c0 c1 : Int) (lq mq : Rat) (w : World) (CL : Hid (∀ w, Calls Tryz.prog 5 #[.agg #[.int .i64 E, .int .i64 P]] w (NumErr lq 0 w))) (CG : Hid (∀ w, Calls Tryz.prog 6 #[.agg #[.int .i64 E, .int .i64 P]] w (NumErr mq 0 w))) (CI : Hid (∀ w, Calls Tryz.prog 7 #[.agg #[.int .i64 E, .int .i64 P], .agg #[.int .i64 E', .int .i64 P']] w fun e w' => e = .returned (.bool false) ∧ Ext w w')) (CC : Hid (∀ w, Calls Tryz.prog 8 #[.agg #[.int .i64 E', .int .i64 P']] w fun e w' => e = .returned (.int .i64 2) ∧ Ext w w')) (hw : WM w) (hT : Tabs w) :
   Calls Tryz.prog 3 #[.agg #[.int .i64 E, .int .i64 P, .int .i64 M, .int .u64 (i0 : Nat), .int .u64 (i1 : Nat), .int .u64 (j0 : Nat), .int .u64 (j1 : Nat), .int .u64 c0, .int .u64 c1], .agg #[.int .i64 E', .int .i64 P']] w fun e w' => TruePost w e w' := by
  have CW : Hid (∀ w, WM w → Tabs w → Calls Tryz.prog 9 #[] w fun e w' => e = .returned (.bool true) ∧ Ext w w') := hid fun w h k => awake_c w h k
  have HP := hid hw
  have HT := hid hT
  clear hw hT
  obtain ⟨W0, hW0, g0, hz0, B_O, B_G⟩ := pro2s w #[.int .i64 E, .int .i64 P, .int .i64 M, .int .u64 (i0 : Nat), .int .u64 (i1 : Nat), .int .u64 (j0 : Nat), .int .u64 (j1 : Nat), .int .u64 c0, .int .u64 c1] #[.int .i64 E', .int .i64 P'] 28 23
  have HE := hid g0
  have HB_O := hid B_O
  have HB_G := hid B_G
  clear g0 B_O B_G 
  go_enter Tryz.func3, Tryz.ntmps3
  go_upto_region 1 with (fail)
  rw [← hW0]
  clear hW0
  obtain ⟨c_1, c_2, c_3, c_4, c_5, c_6, c_7, c_8, c_9⟩ := HB_O.out.c9
  go_wp2_with fail
  clear c_1 c_2 c_3 c_4 c_5 c_6 c_7 c_8 c_9
  obtain ⟨W1, hW1, g1, hy1, B_F⟩ := pro1 W0 #[.int .i64 E, .int .i64 P] 23
  rw [← hW1]
  clear hW1
  have hz_W1 := g1.size
  replace HE := hid (HE.out.trans g1)
  replace HB_O := hid (HB_O.out.ext g1)
  replace HB_G := hid (HB_G.out.ext g1)
  have HB_F := hid B_F
  clear B_F
  refine (CL.out _).mono ?_
  rintro e w2 ⟨vl, rfl, kl, g2⟩
  have hz_w2 := g2.size
  replace HE := hid (HE.out.trans g2)
  replace HB_O := hid (HB_O.out.ext g2)
  replace HB_G := hid (HB_G.out.ext g2)
  replace HB_F := hid (HB_F.out.ext g2)
  obtain ⟨ngl, al, nl, cl, al', nl', cl', rfl⟩ := kl.shape
  have gA := Ext.alloc w2 (.cells #[.bool ngl, .slice al nl cl, .slice al' nl' cl'] 32)
  obtain ⟨c_10, c_11, c_12, c_13, c_14, c_15, c_16, c_17, c_18⟩ := (HB_O.out.ext gA).c9
  obtain ⟨c_19, c_20⟩ := (HB_G.out.ext gA).c2
  obtain ⟨c_21, c_22⟩ := (HB_F.out.ext gA).c2
  go_wp2_with fail
  clear gA c_10 c_11 c_12 c_13 c_14 c_15 c_16 c_17 c_18 c_19 c_20 c_21 c_22
  obtain ⟨W3, hW3, g3, hy3, B_L⟩ := pro1 w2 #[.bool ngl, .slice al nl cl, .slice al' nl' cl'] 32
  rw [← hW3]
  clear hW3
  have hz_W3 := g3.size
  replace HE := hid (HE.out.trans g3)
  replace HB_O := hid (HB_O.out.ext g3)
  replace HB_G := hid (HB_G.out.ext g3)
  replace HB_F := hid (HB_F.out.ext g3)
  replace kl := kl.ext g3
  have HB_L := hid B_L
  clear B_L
  refine (CG.out _).mono ?_
  rintro e w4 ⟨vm, rfl, km, g4⟩
  have hz_w4 := g4.size
  replace HE := hid (HE.out.trans g4)
  replace HB_O := hid (HB_O.out.ext g4)
  replace HB_G := hid (HB_G.out.ext g4)
  replace HB_F := hid (HB_F.out.ext g4)
  replace HB_L := hid (HB_L.out.ext g4)
  replace kl := kl.ext g4
  obtain ⟨ngm, am, nm, cm, am', nm', cm', rfl⟩ := km.shape
  have gA := Ext.alloc w4 (.cells #[.bool ngm, .slice am nm cm, .slice am' nm' cm'] 32)
  obtain ⟨c_23, c_24, c_25, c_26, c_27, c_28, c_29, c_30, c_31⟩ := (HB_O.out.ext gA).c9
  obtain ⟨c_32, c_33⟩ := (HB_G.out.ext gA).c2
  obtain ⟨c_34, c_35⟩ := (HB_F.out.ext gA).c2
  obtain ⟨c_36, c_37, c_38⟩ := (HB_L.out.ext gA).c3
  go_wp2_with fail
  clear gA c_23 c_24 c_25 c_26 c_27 c_28 c_29 c_30 c_31 c_32 c_33 c_34 c_35 c_36 c_37 c_38
  obtain ⟨W5, hW5, g5, hy5, B_S⟩ := pro1 w4 #[.bool ngm, .slice am nm cm, .slice am' nm' cm'] 32
  rw [← hW5]
  clear hW5
  have hz_W5 := g5.size
  replace HE := hid (HE.out.trans g5)
  replace HB_O := hid (HB_O.out.ext g5)
  replace HB_G := hid (HB_G.out.ext g5)
  replace HB_F := hid (HB_F.out.ext g5)
  replace HB_L := hid (HB_L.out.ext g5)
  replace kl := kl.ext g5
  replace km := km.ext g5
  have HB_S := hid B_S
  clear B_S
  refine (CI.out _).mono ?_
  rintro e w6 ⟨rfl, g6⟩
  have hz_w6 := g6.size
  replace HE := hid (HE.out.trans g6)
  replace HB_O := hid (HB_O.out.ext g6)
  replace HB_G := hid (HB_G.out.ext g6)
  replace HB_F := hid (HB_F.out.ext g6)
  replace HB_L := hid (HB_L.out.ext g6)
  replace HB_S := hid (HB_S.out.ext g6)
  replace kl := kl.ext g6
  replace km := km.ext g6
  obtain ⟨c_39, c_40, c_41, c_42, c_43, c_44, c_45, c_46, c_47⟩ := HB_O.out.c9
  obtain ⟨c_48, c_49⟩ := HB_G.out.c2
  obtain ⟨c_50, c_51⟩ := HB_F.out.c2
  obtain ⟨c_52, c_53, c_54⟩ := HB_L.out.c3
  obtain ⟨c_55, c_56, c_57⟩ := HB_S.out.c3
  go_wp2_with fail
  clear c_39 c_40 c_41 c_42 c_43 c_44 c_45 c_46 c_47 c_48 c_49 c_50 c_51 c_52 c_53 c_54 c_55 c_56 c_57
  refine (CC.out _).mono ?_
  rintro e w7 ⟨rfl, g7⟩
  have hz_w7 := g7.size
  replace HE := hid (HE.out.trans g7)
  replace HB_O := hid (HB_O.out.ext g7)
  replace HB_G := hid (HB_G.out.ext g7)
  replace HB_F := hid (HB_F.out.ext g7)
  replace HB_L := hid (HB_L.out.ext g7)
  replace HB_S := hid (HB_S.out.ext g7)
  replace kl := kl.ext g7
  replace km := km.ext g7
  obtain ⟨c_58, c_59, c_60, c_61, c_62, c_63, c_64, c_65, c_66⟩ := HB_O.out.c9
  obtain ⟨c_67, c_68⟩ := HB_G.out.c2
  obtain ⟨c_69, c_70⟩ := HB_F.out.c2
  obtain ⟨c_71, c_72, c_73⟩ := HB_L.out.c3
  obtain ⟨c_74, c_75, c_76⟩ := HB_S.out.c3
  go_wp2_with fail
  clear c_58 c_59 c_60 c_61 c_62 c_63 c_64 c_65 c_66 c_67 c_68 c_69 c_70 c_71 c_72 c_73 c_74 c_75 c_76
  refine (CW.out _ (HP.out.ext HE.out) (HT.out.ext HE.out)).mono ?_
  rintro e w8 ⟨rfl, g8⟩
  have hz_w8 := g8.size
  replace HE := hid (HE.out.trans g8)
  replace HB_O := hid (HB_O.out.ext g8)
  replace HB_G := hid (HB_G.out.ext g8)
  replace HB_F := hid (HB_F.out.ext g8)
  replace HB_L := hid (HB_L.out.ext g8)
  replace HB_S := hid (HB_S.out.ext g8)
  replace kl := kl.ext g8
  replace km := km.ext g8
  obtain ⟨c_77, c_78, c_79, c_80, c_81, c_82, c_83, c_84, c_85⟩ := HB_O.out.c9
  obtain ⟨c_86, c_87⟩ := HB_G.out.c2
  obtain ⟨c_88, c_89⟩ := HB_F.out.c2
  obtain ⟨c_90, c_91, c_92⟩ := HB_L.out.c3
  obtain ⟨c_93, c_94, c_95⟩ := HB_S.out.c3
  go_wp2_with fail
  clear c_77 c_78 c_79 c_80 c_81 c_82 c_83 c_84 c_85 c_86 c_87 c_88 c_89 c_90 c_91 c_92 c_93 c_94 c_95
  unfold TruePost
  refine bodyPost_ret (v := .bool true) (by simp [results, Tryz.results3, go_sem]) rfl ⟨rfl, HE.out⟩
set_option maxRecDepth 100000 in
set_option maxHeartbeats 4000000 in
theorem wider_g (E P M E' P' : Int) (i0 i1 j0 j1 : Nat) (c0 c1 : Int) (lq mq qa : Rat) (za : Int) (hza : za = 0 ∨ za = 2 ∨ za = 4 ∨ za = 6) (h1 h2 ins : Bool) (w : World) (CL : Hid (∀ w, Calls Tryz.prog 5 #[.agg #[.int .i64 E, .int .i64 P]] w (NumErr lq 0 w))) (CG : Hid (∀ w, Calls Tryz.prog 6 #[.agg #[.int .i64 E, .int .i64 P]] w (NumErr mq 0 w))) (CI : Hid (∀ w, Calls Tryz.prog 7 #[.agg #[.int .i64 E, .int .i64 P], .agg #[.int .i64 E', .int .i64 P']] w fun e w' => e = .returned (.bool ins) ∧ Ext w w')) (CC : Hid (∀ w, Calls Tryz.prog 8 #[.agg #[.int .i64 E', .int .i64 P']] w fun e w' => e = .returned (.int .i64 0) ∧ Ext w w')) (CV : Hid (∀ w, Calls Tryz.prog 11 #[.agg #[.int .i64 E, .int .i64 P], .agg #[.int .u64 (i0 : Nat), .int .u64 (i1 : Nat)]] w (NumErr qa za w))) (sa : SmQ 5000 qa) (CH1 : Hid (∀ v w, NumV w v lq → Calls Tryz.prog 10 #[.agg #[.int .i64 E', .int .i64 P'], v] w fun e w' => e = .returned (.bool h1) ∧ Ext w w')) (CH2 : Hid (∀ v w, NumV w v mq → Calls Tryz.prog 10 #[.agg #[.int .i64 E', .int .i64 P'], v] w fun e w' => e = .returned (.bool h2) ∧ Ext w w')) (hins : ins = true ↔ h1 = true ∧ h2 = true ∧ P ≤ P') (HC : Hid (ins = true → za = 0 → 0 ≤ M → M ≤ 4 → CastsOk E P E' P' M i0 i1 qa)) (hw : WM w) (hT : Tabs w) :
   Calls Tryz.prog 3 #[.agg #[.int .i64 E, .int .i64 P, .int .i64 M, .int .u64 (i0 : Nat), .int .u64 (i1 : Nat), .int .u64 (j0 : Nat), .int .u64 (j1 : Nat), .int .u64 c0, .int .u64 c1], .agg #[.int .i64 E', .int .i64 P']] w fun e w' => TruePost w e w' := by
  have CW : Hid (∀ w, WM w → Tabs w → Calls Tryz.prog 9 #[] w fun e w' => e = .returned (.bool true) ∧ Ext w w') := hid fun w h k => awake_c w h k
  have HP := hid hw
  have HT := hid hT
  have CCM : Hid (∀ u x w, NumV w u qa → NumV w x qa → Calls Tryz.prog 13 #[u, x] w fun e w' => e = .returned (.int .i64 0) ∧ Ext w w') := hid fun u x w h k => by
    have := Cmp_c u x qa qa 5000 w h k sa sa (by decide)
    rwa [cmpQ_self] at this
  have HI := hid hins
  have HZA := hid hza
  clear hw hT sa hins hza
  obtain ⟨W0, hW0, g0, hz0, B_O, B_G⟩ := pro2s w #[.int .i64 E, .int .i64 P, .int .i64 M, .int .u64 (i0 : Nat), .int .u64 (i1 : Nat), .int .u64 (j0 : Nat), .int .u64 (j1 : Nat), .int .u64 c0, .int .u64 c1] #[.int .i64 E', .int .i64 P'] 28 23
  have HE := hid g0
  have HB_O := hid B_O
  have HB_G := hid B_G
  clear g0 B_O B_G 
  go_enter Tryz.func3, Tryz.ntmps3
  go_upto_region 1 with (fail)
  rw [← hW0]
  clear hW0
  obtain ⟨c_1, c_2, c_3, c_4, c_5, c_6, c_7, c_8, c_9⟩ := HB_O.out.c9
  go_wp2_with fail
  clear c_1 c_2 c_3 c_4 c_5 c_6 c_7 c_8 c_9
  obtain ⟨W1, hW1, g1, hy1, B_F⟩ := pro1 W0 #[.int .i64 E, .int .i64 P] 23
  rw [← hW1]
  clear hW1
  have hz_W1 := g1.size
  replace HE := hid (HE.out.trans g1)
  replace HB_O := hid (HB_O.out.ext g1)
  replace HB_G := hid (HB_G.out.ext g1)
  have HB_F := hid B_F
  clear B_F
  refine (CL.out _).mono ?_
  rintro e w2 ⟨vl, rfl, kl, g2⟩
  have hz_w2 := g2.size
  replace HE := hid (HE.out.trans g2)
  replace HB_O := hid (HB_O.out.ext g2)
  replace HB_G := hid (HB_G.out.ext g2)
  replace HB_F := hid (HB_F.out.ext g2)
  obtain ⟨ngl, al, nl, cl, al', nl', cl', rfl⟩ := kl.shape
  have gA := Ext.alloc w2 (.cells #[.bool ngl, .slice al nl cl, .slice al' nl' cl'] 32)
  obtain ⟨c_10, c_11, c_12, c_13, c_14, c_15, c_16, c_17, c_18⟩ := (HB_O.out.ext gA).c9
  obtain ⟨c_19, c_20⟩ := (HB_G.out.ext gA).c2
  obtain ⟨c_21, c_22⟩ := (HB_F.out.ext gA).c2
  go_wp2_with fail
  clear gA c_10 c_11 c_12 c_13 c_14 c_15 c_16 c_17 c_18 c_19 c_20 c_21 c_22
  obtain ⟨W3, hW3, g3, hy3, B_L⟩ := pro1 w2 #[.bool ngl, .slice al nl cl, .slice al' nl' cl'] 32
  rw [← hW3]
  clear hW3
  have hz_W3 := g3.size
  replace HE := hid (HE.out.trans g3)
  replace HB_O := hid (HB_O.out.ext g3)
  replace HB_G := hid (HB_G.out.ext g3)
  replace HB_F := hid (HB_F.out.ext g3)
  replace kl := kl.ext g3
  have HB_L := hid B_L
  clear B_L
  refine (CG.out _).mono ?_
  rintro e w4 ⟨vm, rfl, km, g4⟩
  have hz_w4 := g4.size
  replace HE := hid (HE.out.trans g4)
  replace HB_O := hid (HB_O.out.ext g4)
  replace HB_G := hid (HB_G.out.ext g4)
  replace HB_F := hid (HB_F.out.ext g4)
  replace HB_L := hid (HB_L.out.ext g4)
  replace kl := kl.ext g4
  obtain ⟨ngm, am, nm, cm, am', nm', cm', rfl⟩ := km.shape
  have gA := Ext.alloc w4 (.cells #[.bool ngm, .slice am nm cm, .slice am' nm' cm'] 32)
  obtain ⟨c_23, c_24, c_25, c_26, c_27, c_28, c_29, c_30, c_31⟩ := (HB_O.out.ext gA).c9
  obtain ⟨c_32, c_33⟩ := (HB_G.out.ext gA).c2
  obtain ⟨c_34, c_35⟩ := (HB_F.out.ext gA).c2
  obtain ⟨c_36, c_37, c_38⟩ := (HB_L.out.ext gA).c3
  go_wp2_with fail
  clear gA c_23 c_24 c_25 c_26 c_27 c_28 c_29 c_30 c_31 c_32 c_33 c_34 c_35 c_36 c_37 c_38
  obtain ⟨W5, hW5, g5, hy5, B_S⟩ := pro1 w4 #[.bool ngm, .slice am nm cm, .slice am' nm' cm'] 32
  rw [← hW5]
  clear hW5
  have hz_W5 := g5.size
  replace HE := hid (HE.out.trans g5)
  replace HB_O := hid (HB_O.out.ext g5)
  replace HB_G := hid (HB_G.out.ext g5)
  replace HB_F := hid (HB_F.out.ext g5)
  replace HB_L := hid (HB_L.out.ext g5)
  replace kl := kl.ext g5
  replace km := km.ext g5
  have HB_S := hid B_S
  clear B_S
  refine (CI.out _).mono ?_
  rintro e w6 ⟨rfl, g6⟩
  have hz_w6 := g6.size
  replace HE := hid (HE.out.trans g6)
  replace HB_O := hid (HB_O.out.ext g6)
  replace HB_G := hid (HB_G.out.ext g6)
  replace HB_F := hid (HB_F.out.ext g6)
  replace HB_L := hid (HB_L.out.ext g6)
  replace HB_S := hid (HB_S.out.ext g6)
  replace kl := kl.ext g6
  replace km := km.ext g6
  obtain ⟨c_39, c_40, c_41, c_42, c_43, c_44, c_45, c_46, c_47⟩ := HB_O.out.c9
  obtain ⟨c_48, c_49⟩ := HB_G.out.c2
  obtain ⟨c_50, c_51⟩ := HB_F.out.c2
  obtain ⟨c_52, c_53, c_54⟩ := HB_L.out.c3
  obtain ⟨c_55, c_56, c_57⟩ := HB_S.out.c3
  go_wp2_with fail
  clear c_39 c_40 c_41 c_42 c_43 c_44 c_45 c_46 c_47 c_48 c_49 c_50 c_51 c_52 c_53 c_54 c_55 c_56 c_57
  refine (CC.out _).mono ?_
  rintro e w7 ⟨rfl, g7⟩
  have hz_w7 := g7.size
  replace HE := hid (HE.out.trans g7)
  replace HB_O := hid (HB_O.out.ext g7)
  replace HB_G := hid (HB_G.out.ext g7)
  replace HB_F := hid (HB_F.out.ext g7)
  replace HB_L := hid (HB_L.out.ext g7)
  replace HB_S := hid (HB_S.out.ext g7)
  replace kl := kl.ext g7
  replace km := km.ext g7
  obtain ⟨c_58, c_59, c_60, c_61, c_62, c_63, c_64, c_65, c_66⟩ := HB_O.out.c9
  obtain ⟨c_67, c_68⟩ := HB_G.out.c2
  obtain ⟨c_69, c_70⟩ := HB_F.out.c2
  obtain ⟨c_71, c_72, c_73⟩ := HB_L.out.c3
  obtain ⟨c_74, c_75, c_76⟩ := HB_S.out.c3
  go_wp2_with fail
  clear c_58 c_59 c_60 c_61 c_62 c_63 c_64 c_65 c_66 c_67 c_68 c_69 c_70 c_71 c_72 c_73 c_74 c_75 c_76
  refine (CH1.out _ _ kl).mono ?_
  rintro e w8 ⟨rfl, g8⟩
  have hz_w8 := g8.size
  replace HE := hid (HE.out.trans g8)
  replace HB_O := hid (HB_O.out.ext g8)
  replace HB_G := hid (HB_G.out.ext g8)
  replace HB_F := hid (HB_F.out.ext g8)
  replace HB_L := hid (HB_L.out.ext g8)
  replace HB_S := hid (HB_S.out.ext g8)
  replace kl := kl.ext g8
  replace km := km.ext g8
  by_cases e1 : h1 = true
  · subst e1
    have HI2 : Hid (ins = true ↔ h2 = true ∧ P ≤ P') := hid (by rw [HI.out]; simp)
    clear HI
    obtain ⟨c_77, c_78, c_79, c_80, c_81, c_82, c_83, c_84, c_85⟩ := HB_O.out.c9
    obtain ⟨c_86, c_87⟩ := HB_G.out.c2
    obtain ⟨c_88, c_89⟩ := HB_F.out.c2
    obtain ⟨c_90, c_91, c_92⟩ := HB_L.out.c3
    obtain ⟨c_93, c_94, c_95⟩ := HB_S.out.c3
    go_wp2_with fail
    clear c_77 c_78 c_79 c_80 c_81 c_82 c_83 c_84 c_85 c_86 c_87 c_88 c_89 c_90 c_91 c_92 c_93 c_94 c_95
    refine (CH2.out _ _ km).mono ?_
    rintro e w9 ⟨rfl, g9⟩
    have hz_w9 := g9.size
    replace HE := hid (HE.out.trans g9)
    replace HB_O := hid (HB_O.out.ext g9)
    replace HB_G := hid (HB_G.out.ext g9)
    replace HB_F := hid (HB_F.out.ext g9)
    replace HB_L := hid (HB_L.out.ext g9)
    replace HB_S := hid (HB_S.out.ext g9)
    replace kl := kl.ext g9
    replace km := km.ext g9
    by_cases e2 : h2 = true
    · subst e2
      have HI3 : Hid (ins = true ↔ P ≤ P') := hid (by rw [HI2.out]; simp)
      clear HI2
      by_cases e3 : P ≤ P'
      · have hd3 : decide (P ≤ P') = true := decide_eq_true e3
        obtain rfl : ins = true := HI3.out.2 e3
        have HC2 := hid (HC.out rfl)
        clear e3 HI3 HC
        obtain ⟨c_96, c_97, c_98, c_99, c_100, c_101, c_102, c_103, c_104⟩ := HB_O.out.c9
        obtain ⟨c_105, c_106⟩ := HB_G.out.c2
        obtain ⟨c_107, c_108⟩ := HB_F.out.c2
        obtain ⟨c_109, c_110, c_111⟩ := HB_L.out.c3
        obtain ⟨c_112, c_113, c_114⟩ := HB_S.out.c3
        go_wp2_with fail
        clear c_96 c_97 c_98 c_99 c_100 c_101 c_102 c_103 c_104 c_105 c_106 c_107 c_108 c_109 c_110 c_111 c_112 c_113 c_114
        refine (CV.out _).mono ?_
        rintro e w10 ⟨va, rfl, ka, g10⟩
        have hz_w10 := g10.size
        replace HE := hid (HE.out.trans g10)
        replace HB_O := hid (HB_O.out.ext g10)
        replace HB_G := hid (HB_G.out.ext g10)
        replace HB_F := hid (HB_F.out.ext g10)
        replace HB_L := hid (HB_L.out.ext g10)
        replace HB_S := hid (HB_S.out.ext g10)
        replace kl := kl.ext g10
        replace km := km.ext g10
        obtain ⟨nga, aa, na, ca, aa', na', ca', rfl⟩ := ka.shape
        rcases HZA.out with e4 | rfl | rfl | rfl
        · subst e4
          have HC3 := hid (HC2.out rfl)
          clear HC2
          by_cases e5 : M < 0
          · have hd5 : decide (M < 0) = true := decide_eq_true e5
            clear e5
            have gA := Ext.alloc w10 (.cells #[.bool nga, .slice aa na ca, .slice aa' na' ca'] 32)
            obtain ⟨c_115, c_116, c_117, c_118, c_119, c_120, c_121, c_122, c_123⟩ := (HB_O.out.ext gA).c9
            obtain ⟨c_124, c_125⟩ := (HB_G.out.ext gA).c2
            obtain ⟨c_126, c_127⟩ := (HB_F.out.ext gA).c2
            obtain ⟨c_128, c_129, c_130⟩ := (HB_L.out.ext gA).c3
            obtain ⟨c_131, c_132, c_133⟩ := (HB_S.out.ext gA).c3
            go_wp2_with fail
            clear gA c_115 c_116 c_117 c_118 c_119 c_120 c_121 c_122 c_123 c_124 c_125 c_126 c_127 c_128 c_129 c_130 c_131 c_132 c_133
            obtain ⟨W11, hW11, g11, hy11, B_A⟩ := pro1 w10 #[.bool nga, .slice aa na ca, .slice aa' na' ca'] 32
            rw [← hW11]
            clear hW11
            have hz_W11 := g11.size
            replace HE := hid (HE.out.trans g11)
            replace HB_O := hid (HB_O.out.ext g11)
            replace HB_G := hid (HB_G.out.ext g11)
            replace HB_F := hid (HB_F.out.ext g11)
            replace HB_L := hid (HB_L.out.ext g11)
            replace HB_S := hid (HB_S.out.ext g11)
            replace kl := kl.ext g11
            replace km := km.ext g11
            replace ka := ka.ext g11
            have HB_A := hid B_A
            clear B_A
            refine (CW.out _ (HP.out.ext HE.out) (HT.out.ext HE.out)).mono ?_
            rintro e w12 ⟨rfl, g12⟩
            have hz_w12 := g12.size
            replace HE := hid (HE.out.trans g12)
            replace HB_O := hid (HB_O.out.ext g12)
            replace HB_G := hid (HB_G.out.ext g12)
            replace HB_F := hid (HB_F.out.ext g12)
            replace HB_L := hid (HB_L.out.ext g12)
            replace HB_S := hid (HB_S.out.ext g12)
            replace HB_A := hid (HB_A.out.ext g12)
            replace kl := kl.ext g12
            replace km := km.ext g12
            replace ka := ka.ext g12
            obtain ⟨c_134, c_135, c_136, c_137, c_138, c_139, c_140, c_141, c_142⟩ := HB_O.out.c9
            obtain ⟨c_143, c_144⟩ := HB_G.out.c2
            obtain ⟨c_145, c_146⟩ := HB_F.out.c2
            obtain ⟨c_147, c_148, c_149⟩ := HB_L.out.c3
            obtain ⟨c_150, c_151, c_152⟩ := HB_S.out.c3
            obtain ⟨c_153, c_154, c_155⟩ := HB_A.out.c3
            go_wp2_with fail
            clear c_134 c_135 c_136 c_137 c_138 c_139 c_140 c_141 c_142 c_143 c_144 c_145 c_146 c_147 c_148 c_149 c_150 c_151 c_152 c_153 c_154 c_155
            unfold TruePost
            refine bodyPost_ret (v := .bool true) (by simp [results, Tryz.results3, go_sem]) rfl ⟨rfl, HE.out⟩
          · have hd5 : decide (M < 0) = false := decide_eq_false e5
            by_cases e6 : 4 < M
            · have hd6 : decide (4 < M) = true := decide_eq_true e6
              clear e5 e6
              have gA := Ext.alloc w10 (.cells #[.bool nga, .slice aa na ca, .slice aa' na' ca'] 32)
              obtain ⟨c_115, c_116, c_117, c_118, c_119, c_120, c_121, c_122, c_123⟩ := (HB_O.out.ext gA).c9
              obtain ⟨c_124, c_125⟩ := (HB_G.out.ext gA).c2
              obtain ⟨c_126, c_127⟩ := (HB_F.out.ext gA).c2
              obtain ⟨c_128, c_129, c_130⟩ := (HB_L.out.ext gA).c3
              obtain ⟨c_131, c_132, c_133⟩ := (HB_S.out.ext gA).c3
              go_wp2_with fail
              clear gA c_115 c_116 c_117 c_118 c_119 c_120 c_121 c_122 c_123 c_124 c_125 c_126 c_127 c_128 c_129 c_130 c_131 c_132 c_133
              obtain ⟨W11, hW11, g11, hy11, B_A⟩ := pro1 w10 #[.bool nga, .slice aa na ca, .slice aa' na' ca'] 32
              rw [← hW11]
              clear hW11
              have hz_W11 := g11.size
              replace HE := hid (HE.out.trans g11)
              replace HB_O := hid (HB_O.out.ext g11)
              replace HB_G := hid (HB_G.out.ext g11)
              replace HB_F := hid (HB_F.out.ext g11)
              replace HB_L := hid (HB_L.out.ext g11)
              replace HB_S := hid (HB_S.out.ext g11)
              replace kl := kl.ext g11
              replace km := km.ext g11
              replace ka := ka.ext g11
              have HB_A := hid B_A
              clear B_A
              refine (CW.out _ (HP.out.ext HE.out) (HT.out.ext HE.out)).mono ?_
              rintro e w12 ⟨rfl, g12⟩
              have hz_w12 := g12.size
              replace HE := hid (HE.out.trans g12)
              replace HB_O := hid (HB_O.out.ext g12)
              replace HB_G := hid (HB_G.out.ext g12)
              replace HB_F := hid (HB_F.out.ext g12)
              replace HB_L := hid (HB_L.out.ext g12)
              replace HB_S := hid (HB_S.out.ext g12)
              replace HB_A := hid (HB_A.out.ext g12)
              replace kl := kl.ext g12
              replace km := km.ext g12
              replace ka := ka.ext g12
              obtain ⟨c_134, c_135, c_136, c_137, c_138, c_139, c_140, c_141, c_142⟩ := HB_O.out.c9
              obtain ⟨c_143, c_144⟩ := HB_G.out.c2
              obtain ⟨c_145, c_146⟩ := HB_F.out.c2
              obtain ⟨c_147, c_148, c_149⟩ := HB_L.out.c3
              obtain ⟨c_150, c_151, c_152⟩ := HB_S.out.c3
              obtain ⟨c_153, c_154, c_155⟩ := HB_A.out.c3
              go_wp2_with fail
              clear c_134 c_135 c_136 c_137 c_138 c_139 c_140 c_141 c_142 c_143 c_144 c_145 c_146 c_147 c_148 c_149 c_150 c_151 c_152 c_153 c_154 c_155
              unfold TruePost
              refine bodyPost_ret (v := .bool true) (by simp [results, Tryz.results3, go_sem]) rfl ⟨rfl, HE.out⟩
            · have hd6 : decide (4 < M) = false := decide_eq_false e6
              obtain ⟨r0, r1, CA, CB, CD⟩ := HC3.out (by omega) (by omega)
              have CA := hid CA
              have CB := hid CB
              have CD := hid CD
              clear e5 e6
              have gA := Ext.alloc w10 (.cells #[.bool nga, .slice aa na ca, .slice aa' na' ca'] 32)
              obtain ⟨c_115, c_116, c_117, c_118, c_119, c_120, c_121, c_122, c_123⟩ := (HB_O.out.ext gA).c9
              obtain ⟨c_124, c_125⟩ := (HB_G.out.ext gA).c2
              obtain ⟨c_126, c_127⟩ := (HB_F.out.ext gA).c2
              obtain ⟨c_128, c_129, c_130⟩ := (HB_L.out.ext gA).c3
              obtain ⟨c_131, c_132, c_133⟩ := (HB_S.out.ext gA).c3
              go_wp2_with fail
              clear gA c_115 c_116 c_117 c_118 c_119 c_120 c_121 c_122 c_123 c_124 c_125 c_126 c_127 c_128 c_129 c_130 c_131 c_132 c_133
              obtain ⟨W11, hW11, g11, hy11, B_A⟩ := pro1 w10 #[.bool nga, .slice aa na ca, .slice aa' na' ca'] 32
              rw [← hW11]
              clear hW11
              have hz_W11 := g11.size
              replace HE := hid (HE.out.trans g11)
              replace HB_O := hid (HB_O.out.ext g11)
              replace HB_G := hid (HB_G.out.ext g11)
              replace HB_F := hid (HB_F.out.ext g11)
              replace HB_L := hid (HB_L.out.ext g11)
              replace HB_S := hid (HB_S.out.ext g11)
              replace kl := kl.ext g11
              replace km := km.ext g11
              replace ka := ka.ext g11
              have HB_A := hid B_A
              clear B_A
              refine (CA.out _ (HT.out.ext HE.out)).mono ?_
              rintro e w12 ⟨rfl, g12⟩
              have hz_w12 := g12.size
              replace HE := hid (HE.out.trans g12)
              replace HB_O := hid (HB_O.out.ext g12)
              replace HB_G := hid (HB_G.out.ext g12)
              replace HB_F := hid (HB_F.out.ext g12)
              replace HB_L := hid (HB_L.out.ext g12)
              replace HB_S := hid (HB_S.out.ext g12)
              replace HB_A := hid (HB_A.out.ext g12)
              replace kl := kl.ext g12
              replace km := km.ext g12
              replace ka := ka.ext g12
              have gA := Ext.alloc w12 (.cells #[.int .u64 r0, .int .u64 r1] 26)
              obtain ⟨c_134, c_135, c_136, c_137, c_138, c_139, c_140, c_141, c_142⟩ := (HB_O.out.ext gA).c9
              obtain ⟨c_143, c_144⟩ := (HB_G.out.ext gA).c2
              obtain ⟨c_145, c_146⟩ := (HB_F.out.ext gA).c2
              obtain ⟨c_147, c_148, c_149⟩ := (HB_L.out.ext gA).c3
              obtain ⟨c_150, c_151, c_152⟩ := (HB_S.out.ext gA).c3
              obtain ⟨c_153, c_154, c_155⟩ := (HB_A.out.ext gA).c3
              go_wp2_with fail
              clear gA c_134 c_135 c_136 c_137 c_138 c_139 c_140 c_141 c_142 c_143 c_144 c_145 c_146 c_147 c_148 c_149 c_150 c_151 c_152 c_153 c_154 c_155
              obtain ⟨W13, hW13, g13, hy13, B_W⟩ := pro1 w12 #[.int .u64 r0, .int .u64 r1] 26
              rw [← hW13]
              clear hW13
              have hz_W13 := g13.size
              replace HE := hid (HE.out.trans g13)
              replace HB_O := hid (HB_O.out.ext g13)
              replace HB_G := hid (HB_G.out.ext g13)
              replace HB_F := hid (HB_F.out.ext g13)
              replace HB_L := hid (HB_L.out.ext g13)
              replace HB_S := hid (HB_S.out.ext g13)
              replace HB_A := hid (HB_A.out.ext g13)
              replace kl := kl.ext g13
              replace km := km.ext g13
              replace ka := ka.ext g13
              have HB_W := hid B_W
              clear B_W
              refine (CB.out _).mono ?_
              rintro e w14 ⟨vb, rfl, kb, g14⟩
              have hz_w14 := g14.size
              replace HE := hid (HE.out.trans g14)
              replace HB_O := hid (HB_O.out.ext g14)
              replace HB_G := hid (HB_G.out.ext g14)
              replace HB_F := hid (HB_F.out.ext g14)
              replace HB_L := hid (HB_L.out.ext g14)
              replace HB_S := hid (HB_S.out.ext g14)
              replace HB_A := hid (HB_A.out.ext g14)
              replace HB_W := hid (HB_W.out.ext g14)
              replace kl := kl.ext g14
              replace km := km.ext g14
              replace ka := ka.ext g14
              obtain ⟨ngb, ab, nb, cb, ab', nb', cb', rfl⟩ := kb.shape
              have gA := Ext.alloc w14 (.cells #[.bool ngb, .slice ab nb cb, .slice ab' nb' cb'] 32)
              obtain ⟨c_156, c_157, c_158, c_159, c_160, c_161, c_162, c_163, c_164⟩ := (HB_O.out.ext gA).c9
              obtain ⟨c_165, c_166⟩ := (HB_G.out.ext gA).c2
              obtain ⟨c_167, c_168⟩ := (HB_F.out.ext gA).c2
              obtain ⟨c_169, c_170, c_171⟩ := (HB_L.out.ext gA).c3
              obtain ⟨c_172, c_173, c_174⟩ := (HB_S.out.ext gA).c3
              obtain ⟨c_175, c_176, c_177⟩ := (HB_A.out.ext gA).c3
              obtain ⟨c_178, c_179⟩ := (HB_W.out.ext gA).c2
              go_wp2_with fail
              clear gA c_156 c_157 c_158 c_159 c_160 c_161 c_162 c_163 c_164 c_165 c_166 c_167 c_168 c_169 c_170 c_171 c_172 c_173 c_174 c_175 c_176 c_177 c_178 c_179
              obtain ⟨W15, hW15, g15, hy15, B_B⟩ := pro1 w14 #[.bool ngb, .slice ab nb cb, .slice ab' nb' cb'] 32
              rw [← hW15]
              clear hW15
              have hz_W15 := g15.size
              replace HE := hid (HE.out.trans g15)
              replace HB_O := hid (HB_O.out.ext g15)
              replace HB_G := hid (HB_G.out.ext g15)
              replace HB_F := hid (HB_F.out.ext g15)
              replace HB_L := hid (HB_L.out.ext g15)
              replace HB_S := hid (HB_S.out.ext g15)
              replace HB_A := hid (HB_A.out.ext g15)
              replace HB_W := hid (HB_W.out.ext g15)
              replace kl := kl.ext g15
              replace km := km.ext g15
              replace ka := ka.ext g15
              replace kb := kb.ext g15
              have HB_B := hid B_B
              clear B_B
              refine (CD.out _ (HT.out.ext HE.out)).mono ?_
              rintro e w16 ⟨rfl, g16⟩
              have hz_w16 := g16.size
              replace HE := hid (HE.out.trans g16)
              replace HB_O := hid (HB_O.out.ext g16)
              replace HB_G := hid (HB_G.out.ext g16)
              replace HB_F := hid (HB_F.out.ext g16)
              replace HB_L := hid (HB_L.out.ext g16)
              replace HB_S := hid (HB_S.out.ext g16)
              replace HB_A := hid (HB_A.out.ext g16)
              replace HB_W := hid (HB_W.out.ext g16)
              replace HB_B := hid (HB_B.out.ext g16)
              replace kl := kl.ext g16
              replace km := km.ext g16
              replace ka := ka.ext g16
              replace kb := kb.ext g16
              have gA := Ext.alloc w16 (.cells #[.int .u64 (i0 : Nat), .int .u64 (i1 : Nat)] 26)
              obtain ⟨c_180, c_181, c_182, c_183, c_184, c_185, c_186, c_187, c_188⟩ := (HB_O.out.ext gA).c9
              obtain ⟨c_189, c_190⟩ := (HB_G.out.ext gA).c2
              obtain ⟨c_191, c_192⟩ := (HB_F.out.ext gA).c2
              obtain ⟨c_193, c_194, c_195⟩ := (HB_L.out.ext gA).c3
              obtain ⟨c_196, c_197, c_198⟩ := (HB_S.out.ext gA).c3
              obtain ⟨c_199, c_200, c_201⟩ := (HB_A.out.ext gA).c3
              obtain ⟨c_202, c_203⟩ := (HB_W.out.ext gA).c2
              obtain ⟨c_204, c_205, c_206⟩ := (HB_B.out.ext gA).c3
              go_wp2_with fail
              clear gA c_180 c_181 c_182 c_183 c_184 c_185 c_186 c_187 c_188 c_189 c_190 c_191 c_192 c_193 c_194 c_195 c_196 c_197 c_198 c_199 c_200 c_201 c_202 c_203 c_204 c_205 c_206
              obtain ⟨W17, hW17, g17, hy17, B_K⟩ := pro1 w16 #[.int .u64 (i0 : Nat), .int .u64 (i1 : Nat)] 26
              rw [← hW17]
              clear hW17
              have hz_W17 := g17.size
              replace HE := hid (HE.out.trans g17)
              replace HB_O := hid (HB_O.out.ext g17)
              replace HB_G := hid (HB_G.out.ext g17)
              replace HB_F := hid (HB_F.out.ext g17)
              replace HB_L := hid (HB_L.out.ext g17)
              replace HB_S := hid (HB_S.out.ext g17)
              replace HB_A := hid (HB_A.out.ext g17)
              replace HB_W := hid (HB_W.out.ext g17)
              replace HB_B := hid (HB_B.out.ext g17)
              replace kl := kl.ext g17
              replace km := km.ext g17
              replace ka := ka.ext g17
              replace kb := kb.ext g17
              have HB_K := hid B_K
              clear B_K
              refine (CCM.out _ _ _ ka kb).mono ?_
              rintro e w18 ⟨rfl, g18⟩
              have hz_w18 := g18.size
              replace HE := hid (HE.out.trans g18)
              replace HB_O := hid (HB_O.out.ext g18)
              replace HB_G := hid (HB_G.out.ext g18)
              replace HB_F := hid (HB_F.out.ext g18)
              replace HB_L := hid (HB_L.out.ext g18)
              replace HB_S := hid (HB_S.out.ext g18)
              replace HB_A := hid (HB_A.out.ext g18)
              replace HB_W := hid (HB_W.out.ext g18)
              replace HB_B := hid (HB_B.out.ext g18)
              replace HB_K := hid (HB_K.out.ext g18)
              replace kl := kl.ext g18
              replace km := km.ext g18
              replace ka := ka.ext g18
              replace kb := kb.ext g18
              obtain ⟨c_207, c_208, c_209, c_210, c_211, c_212, c_213, c_214, c_215⟩ := HB_O.out.c9
              obtain ⟨c_216, c_217⟩ := HB_G.out.c2
              obtain ⟨c_218, c_219⟩ := HB_F.out.c2
              obtain ⟨c_220, c_221, c_222⟩ := HB_L.out.c3
              obtain ⟨c_223, c_224, c_225⟩ := HB_S.out.c3
              obtain ⟨c_226, c_227, c_228⟩ := HB_A.out.c3
              obtain ⟨c_229, c_230⟩ := HB_W.out.c2
              obtain ⟨c_231, c_232, c_233⟩ := HB_B.out.c3
              obtain ⟨c_234, c_235⟩ := HB_K.out.c2
              go_wp2_with fail
              clear c_207 c_208 c_209 c_210 c_211 c_212 c_213 c_214 c_215 c_216 c_217 c_218 c_219 c_220 c_221 c_222 c_223 c_224 c_225 c_226 c_227 c_228 c_229 c_230 c_231 c_232 c_233 c_234 c_235
              refine (CW.out _ (HP.out.ext HE.out) (HT.out.ext HE.out)).mono ?_
              rintro e w19 ⟨rfl, g19⟩
              have hz_w19 := g19.size
              replace HE := hid (HE.out.trans g19)
              replace HB_O := hid (HB_O.out.ext g19)
              replace HB_G := hid (HB_G.out.ext g19)
              replace HB_F := hid (HB_F.out.ext g19)
              replace HB_L := hid (HB_L.out.ext g19)
              replace HB_S := hid (HB_S.out.ext g19)
              replace HB_A := hid (HB_A.out.ext g19)
              replace HB_W := hid (HB_W.out.ext g19)
              replace HB_B := hid (HB_B.out.ext g19)
              replace HB_K := hid (HB_K.out.ext g19)
              replace kl := kl.ext g19
              replace km := km.ext g19
              replace ka := ka.ext g19
              replace kb := kb.ext g19
              obtain ⟨c_236, c_237, c_238, c_239, c_240, c_241, c_242, c_243, c_244⟩ := HB_O.out.c9
              obtain ⟨c_245, c_246⟩ := HB_G.out.c2
              obtain ⟨c_247, c_248⟩ := HB_F.out.c2
              obtain ⟨c_249, c_250, c_251⟩ := HB_L.out.c3
              obtain ⟨c_252, c_253, c_254⟩ := HB_S.out.c3
              obtain ⟨c_255, c_256, c_257⟩ := HB_A.out.c3
              obtain ⟨c_258, c_259⟩ := HB_W.out.c2
              obtain ⟨c_260, c_261, c_262⟩ := HB_B.out.c3
              obtain ⟨c_263, c_264⟩ := HB_K.out.c2
              go_wp2_with fail
              clear c_236 c_237 c_238 c_239 c_240 c_241 c_242 c_243 c_244 c_245 c_246 c_247 c_248 c_249 c_250 c_251 c_252 c_253 c_254 c_255 c_256 c_257 c_258 c_259 c_260 c_261 c_262 c_263 c_264
              unfold TruePost
              refine bodyPost_ret (v := .bool true) (by simp [results, Tryz.results3, go_sem]) rfl ⟨rfl, HE.out⟩
        · have gA := Ext.alloc w10 (.cells #[.bool nga, .slice aa na ca, .slice aa' na' ca'] 32)
          obtain ⟨c_115, c_116, c_117, c_118, c_119, c_120, c_121, c_122, c_123⟩ := (HB_O.out.ext gA).c9
          obtain ⟨c_124, c_125⟩ := (HB_G.out.ext gA).c2
          obtain ⟨c_126, c_127⟩ := (HB_F.out.ext gA).c2
          obtain ⟨c_128, c_129, c_130⟩ := (HB_L.out.ext gA).c3
          obtain ⟨c_131, c_132, c_133⟩ := (HB_S.out.ext gA).c3
          go_wp2_with fail
          clear gA c_115 c_116 c_117 c_118 c_119 c_120 c_121 c_122 c_123 c_124 c_125 c_126 c_127 c_128 c_129 c_130 c_131 c_132 c_133
          obtain ⟨W11, hW11, g11, hy11, B_A⟩ := pro1 w10 #[.bool nga, .slice aa na ca, .slice aa' na' ca'] 32
          rw [← hW11]
          clear hW11
          have hz_W11 := g11.size
          replace HE := hid (HE.out.trans g11)
          replace HB_O := hid (HB_O.out.ext g11)
          replace HB_G := hid (HB_G.out.ext g11)
          replace HB_F := hid (HB_F.out.ext g11)
          replace HB_L := hid (HB_L.out.ext g11)
          replace HB_S := hid (HB_S.out.ext g11)
          replace kl := kl.ext g11
          replace km := km.ext g11
          replace ka := ka.ext g11
          have HB_A := hid B_A
          clear B_A
          refine (CW.out _ (HP.out.ext HE.out) (HT.out.ext HE.out)).mono ?_
          rintro e w12 ⟨rfl, g12⟩
          have hz_w12 := g12.size
          replace HE := hid (HE.out.trans g12)
          replace HB_O := hid (HB_O.out.ext g12)
          replace HB_G := hid (HB_G.out.ext g12)
          replace HB_F := hid (HB_F.out.ext g12)
          replace HB_L := hid (HB_L.out.ext g12)
          replace HB_S := hid (HB_S.out.ext g12)
          replace HB_A := hid (HB_A.out.ext g12)
          replace kl := kl.ext g12
          replace km := km.ext g12
          replace ka := ka.ext g12
          obtain ⟨c_134, c_135, c_136, c_137, c_138, c_139, c_140, c_141, c_142⟩ := HB_O.out.c9
          obtain ⟨c_143, c_144⟩ := HB_G.out.c2
          obtain ⟨c_145, c_146⟩ := HB_F.out.c2
          obtain ⟨c_147, c_148, c_149⟩ := HB_L.out.c3
          obtain ⟨c_150, c_151, c_152⟩ := HB_S.out.c3
          obtain ⟨c_153, c_154, c_155⟩ := HB_A.out.c3
          go_wp2_with fail
          clear c_134 c_135 c_136 c_137 c_138 c_139 c_140 c_141 c_142 c_143 c_144 c_145 c_146 c_147 c_148 c_149 c_150 c_151 c_152 c_153 c_154 c_155
          unfold TruePost
          refine bodyPost_ret (v := .bool true) (by simp [results, Tryz.results3, go_sem]) rfl ⟨rfl, HE.out⟩
        · have gA := Ext.alloc w10 (.cells #[.bool nga, .slice aa na ca, .slice aa' na' ca'] 32)
          obtain ⟨c_115, c_116, c_117, c_118, c_119, c_120, c_121, c_122, c_123⟩ := (HB_O.out.ext gA).c9
          obtain ⟨c_124, c_125⟩ := (HB_G.out.ext gA).c2
          obtain ⟨c_126, c_127⟩ := (HB_F.out.ext gA).c2
          obtain ⟨c_128, c_129, c_130⟩ := (HB_L.out.ext gA).c3
          obtain ⟨c_131, c_132, c_133⟩ := (HB_S.out.ext gA).c3
          go_wp2_with fail
          clear gA c_115 c_116 c_117 c_118 c_119 c_120 c_121 c_122 c_123 c_124 c_125 c_126 c_127 c_128 c_129 c_130 c_131 c_132 c_133
          obtain ⟨W11, hW11, g11, hy11, B_A⟩ := pro1 w10 #[.bool nga, .slice aa na ca, .slice aa' na' ca'] 32
          rw [← hW11]
          clear hW11
          have hz_W11 := g11.size
          replace HE := hid (HE.out.trans g11)
          replace HB_O := hid (HB_O.out.ext g11)
          replace HB_G := hid (HB_G.out.ext g11)
          replace HB_F := hid (HB_F.out.ext g11)
          replace HB_L := hid (HB_L.out.ext g11)
          replace HB_S := hid (HB_S.out.ext g11)
          replace kl := kl.ext g11
          replace km := km.ext g11
          replace ka := ka.ext g11
          have HB_A := hid B_A
          clear B_A
          refine (CW.out _ (HP.out.ext HE.out) (HT.out.ext HE.out)).mono ?_
          rintro e w12 ⟨rfl, g12⟩
          have hz_w12 := g12.size
          replace HE := hid (HE.out.trans g12)
          replace HB_O := hid (HB_O.out.ext g12)
          replace HB_G := hid (HB_G.out.ext g12)
          replace HB_F := hid (HB_F.out.ext g12)
          replace HB_L := hid (HB_L.out.ext g12)
          replace HB_S := hid (HB_S.out.ext g12)
          replace HB_A := hid (HB_A.out.ext g12)
          replace kl := kl.ext g12
          replace km := km.ext g12
          replace ka := ka.ext g12
          obtain ⟨c_134, c_135, c_136, c_137, c_138, c_139, c_140, c_141, c_142⟩ := HB_O.out.c9
          obtain ⟨c_143, c_144⟩ := HB_G.out.c2
          obtain ⟨c_145, c_146⟩ := HB_F.out.c2
          obtain ⟨c_147, c_148, c_149⟩ := HB_L.out.c3
          obtain ⟨c_150, c_151, c_152⟩ := HB_S.out.c3
          obtain ⟨c_153, c_154, c_155⟩ := HB_A.out.c3
          go_wp2_with fail
          clear c_134 c_135 c_136 c_137 c_138 c_139 c_140 c_141 c_142 c_143 c_144 c_145 c_146 c_147 c_148 c_149 c_150 c_151 c_152 c_153 c_154 c_155
          unfold TruePost
          refine bodyPost_ret (v := .bool true) (by simp [results, Tryz.results3, go_sem]) rfl ⟨rfl, HE.out⟩
        · have gA := Ext.alloc w10 (.cells #[.bool nga, .slice aa na ca, .slice aa' na' ca'] 32)
          obtain ⟨c_115, c_116, c_117, c_118, c_119, c_120, c_121, c_122, c_123⟩ := (HB_O.out.ext gA).c9
          obtain ⟨c_124, c_125⟩ := (HB_G.out.ext gA).c2
          obtain ⟨c_126, c_127⟩ := (HB_F.out.ext gA).c2
          obtain ⟨c_128, c_129, c_130⟩ := (HB_L.out.ext gA).c3
          obtain ⟨c_131, c_132, c_133⟩ := (HB_S.out.ext gA).c3
          go_wp2_with fail
          clear gA c_115 c_116 c_117 c_118 c_119 c_120 c_121 c_122 c_123 c_124 c_125 c_126 c_127 c_128 c_129 c_130 c_131 c_132 c_133
          obtain ⟨W11, hW11, g11, hy11, B_A⟩ := pro1 w10 #[.bool nga, .slice aa na ca, .slice aa' na' ca'] 32
          rw [← hW11]
          clear hW11
          have hz_W11 := g11.size
          replace HE := hid (HE.out.trans g11)
          replace HB_O := hid (HB_O.out.ext g11)
          replace HB_G := hid (HB_G.out.ext g11)
          replace HB_F := hid (HB_F.out.ext g11)
          replace HB_L := hid (HB_L.out.ext g11)
          replace HB_S := hid (HB_S.out.ext g11)
          replace kl := kl.ext g11
          replace km := km.ext g11
          replace ka := ka.ext g11
          have HB_A := hid B_A
          clear B_A
          refine (CW.out _ (HP.out.ext HE.out) (HT.out.ext HE.out)).mono ?_
          rintro e w12 ⟨rfl, g12⟩
          have hz_w12 := g12.size
          replace HE := hid (HE.out.trans g12)
          replace HB_O := hid (HB_O.out.ext g12)
          replace HB_G := hid (HB_G.out.ext g12)
          replace HB_F := hid (HB_F.out.ext g12)
          replace HB_L := hid (HB_L.out.ext g12)
          replace HB_S := hid (HB_S.out.ext g12)
          replace HB_A := hid (HB_A.out.ext g12)
          replace kl := kl.ext g12
          replace km := km.ext g12
          replace ka := ka.ext g12
          obtain ⟨c_134, c_135, c_136, c_137, c_138, c_139, c_140, c_141, c_142⟩ := HB_O.out.c9
          obtain ⟨c_143, c_144⟩ := HB_G.out.c2
          obtain ⟨c_145, c_146⟩ := HB_F.out.c2
          obtain ⟨c_147, c_148, c_149⟩ := HB_L.out.c3
          obtain ⟨c_150, c_151, c_152⟩ := HB_S.out.c3
          obtain ⟨c_153, c_154, c_155⟩ := HB_A.out.c3
          go_wp2_with fail
          clear c_134 c_135 c_136 c_137 c_138 c_139 c_140 c_141 c_142 c_143 c_144 c_145 c_146 c_147 c_148 c_149 c_150 c_151 c_152 c_153 c_154 c_155
          unfold TruePost
          refine bodyPost_ret (v := .bool true) (by simp [results, Tryz.results3, go_sem]) rfl ⟨rfl, HE.out⟩
      · have hd3 : decide (P ≤ P') = false := decide_eq_false e3
        obtain rfl : ins = false := by cases ins; rfl; exact absurd (HI3.out.1 rfl) e3
        clear e3
        obtain ⟨c_96, c_97, c_98, c_99, c_100, c_101, c_102, c_103, c_104⟩ := HB_O.out.c9
        obtain ⟨c_105, c_106⟩ := HB_G.out.c2
        obtain ⟨c_107, c_108⟩ := HB_F.out.c2
        obtain ⟨c_109, c_110, c_111⟩ := HB_L.out.c3
        obtain ⟨c_112, c_113, c_114⟩ := HB_S.out.c3
        go_wp2_with fail
        clear c_96 c_97 c_98 c_99 c_100 c_101 c_102 c_103 c_104 c_105 c_106 c_107 c_108 c_109 c_110 c_111 c_112 c_113 c_114
        refine (CV.out _).mono ?_
        rintro e w10 ⟨va, rfl, ka, g10⟩
        have hz_w10 := g10.size
        replace HE := hid (HE.out.trans g10)
        replace HB_O := hid (HB_O.out.ext g10)
        replace HB_G := hid (HB_G.out.ext g10)
        replace HB_F := hid (HB_F.out.ext g10)
        replace HB_L := hid (HB_L.out.ext g10)
        replace HB_S := hid (HB_S.out.ext g10)
        replace kl := kl.ext g10
        replace km := km.ext g10
        obtain ⟨nga, aa, na, ca, aa', na', ca', rfl⟩ := ka.shape
        have gA := Ext.alloc w10 (.cells #[.bool nga, .slice aa na ca, .slice aa' na' ca'] 32)
        obtain ⟨c_115, c_116, c_117, c_118, c_119, c_120, c_121, c_122, c_123⟩ := (HB_O.out.ext gA).c9
        obtain ⟨c_124, c_125⟩ := (HB_G.out.ext gA).c2
        obtain ⟨c_126, c_127⟩ := (HB_F.out.ext gA).c2
        obtain ⟨c_128, c_129, c_130⟩ := (HB_L.out.ext gA).c3
        obtain ⟨c_131, c_132, c_133⟩ := (HB_S.out.ext gA).c3
        go_wp2_with fail
        clear gA c_115 c_116 c_117 c_118 c_119 c_120 c_121 c_122 c_123 c_124 c_125 c_126 c_127 c_128 c_129 c_130 c_131 c_132 c_133
        obtain ⟨W11, hW11, g11, hy11, B_A⟩ := pro1 w10 #[.bool nga, .slice aa na ca, .slice aa' na' ca'] 32
        rw [← hW11]
        clear hW11
        have hz_W11 := g11.size
        replace HE := hid (HE.out.trans g11)
        replace HB_O := hid (HB_O.out.ext g11)
        replace HB_G := hid (HB_G.out.ext g11)
        replace HB_F := hid (HB_F.out.ext g11)
        replace HB_L := hid (HB_L.out.ext g11)
        replace HB_S := hid (HB_S.out.ext g11)
        replace kl := kl.ext g11
        replace km := km.ext g11
        replace ka := ka.ext g11
        have HB_A := hid B_A
        clear B_A
        refine (CW.out _ (HP.out.ext HE.out) (HT.out.ext HE.out)).mono ?_
        rintro e w12 ⟨rfl, g12⟩
        have hz_w12 := g12.size
        replace HE := hid (HE.out.trans g12)
        replace HB_O := hid (HB_O.out.ext g12)
        replace HB_G := hid (HB_G.out.ext g12)
        replace HB_F := hid (HB_F.out.ext g12)
        replace HB_L := hid (HB_L.out.ext g12)
        replace HB_S := hid (HB_S.out.ext g12)
        replace HB_A := hid (HB_A.out.ext g12)
        replace kl := kl.ext g12
        replace km := km.ext g12
        replace ka := ka.ext g12
        obtain ⟨c_134, c_135, c_136, c_137, c_138, c_139, c_140, c_141, c_142⟩ := HB_O.out.c9
        obtain ⟨c_143, c_144⟩ := HB_G.out.c2
        obtain ⟨c_145, c_146⟩ := HB_F.out.c2
        obtain ⟨c_147, c_148, c_149⟩ := HB_L.out.c3
        obtain ⟨c_150, c_151, c_152⟩ := HB_S.out.c3
        obtain ⟨c_153, c_154, c_155⟩ := HB_A.out.c3
        go_wp2_with fail
        clear c_134 c_135 c_136 c_137 c_138 c_139 c_140 c_141 c_142 c_143 c_144 c_145 c_146 c_147 c_148 c_149 c_150 c_151 c_152 c_153 c_154 c_155
        unfold TruePost
        refine bodyPost_ret (v := .bool true) (by simp [results, Tryz.results3, go_sem]) rfl ⟨rfl, HE.out⟩
    · obtain rfl : h2 = false := by cases h2; rfl; exact absurd rfl e2
      obtain rfl : ins = false := by cases ins; rfl; exact absurd (HI2.out.1 rfl).1 e2
      clear e2
      obtain ⟨c_96, c_97, c_98, c_99, c_100, c_101, c_102, c_103, c_104⟩ := HB_O.out.c9
      obtain ⟨c_105, c_106⟩ := HB_G.out.c2
      obtain ⟨c_107, c_108⟩ := HB_F.out.c2
      obtain ⟨c_109, c_110, c_111⟩ := HB_L.out.c3
      obtain ⟨c_112, c_113, c_114⟩ := HB_S.out.c3
      go_wp2_with fail
      clear c_96 c_97 c_98 c_99 c_100 c_101 c_102 c_103 c_104 c_105 c_106 c_107 c_108 c_109 c_110 c_111 c_112 c_113 c_114
      refine (CV.out _).mono ?_
      rintro e w10 ⟨va, rfl, ka, g10⟩
      have hz_w10 := g10.size
      replace HE := hid (HE.out.trans g10)
      replace HB_O := hid (HB_O.out.ext g10)
      replace HB_G := hid (HB_G.out.ext g10)
      replace HB_F := hid (HB_F.out.ext g10)
      replace HB_L := hid (HB_L.out.ext g10)
      replace HB_S := hid (HB_S.out.ext g10)
      replace kl := kl.ext g10
      replace km := km.ext g10
      obtain ⟨nga, aa, na, ca, aa', na', ca', rfl⟩ := ka.shape
      have gA := Ext.alloc w10 (.cells #[.bool nga, .slice aa na ca, .slice aa' na' ca'] 32)
      obtain ⟨c_115, c_116, c_117, c_118, c_119, c_120, c_121, c_122, c_123⟩ := (HB_O.out.ext gA).c9
      obtain ⟨c_124, c_125⟩ := (HB_G.out.ext gA).c2
      obtain ⟨c_126, c_127⟩ := (HB_F.out.ext gA).c2
      obtain ⟨c_128, c_129, c_130⟩ := (HB_L.out.ext gA).c3
      obtain ⟨c_131, c_132, c_133⟩ := (HB_S.out.ext gA).c3
      go_wp2_with fail
      clear gA c_115 c_116 c_117 c_118 c_119 c_120 c_121 c_122 c_123 c_124 c_125 c_126 c_127 c_128 c_129 c_130 c_131 c_132 c_133
      obtain ⟨W11, hW11, g11, hy11, B_A⟩ := pro1 w10 #[.bool nga, .slice aa na ca, .slice aa' na' ca'] 32
      rw [← hW11]
      clear hW11
      have hz_W11 := g11.size
      replace HE := hid (HE.out.trans g11)
      replace HB_O := hid (HB_O.out.ext g11)
      replace HB_G := hid (HB_G.out.ext g11)
      replace HB_F := hid (HB_F.out.ext g11)
      replace HB_L := hid (HB_L.out.ext g11)
      replace HB_S := hid (HB_S.out.ext g11)
      replace kl := kl.ext g11
      replace km := km.ext g11
      replace ka := ka.ext g11
      have HB_A := hid B_A
      clear B_A
      refine (CW.out _ (HP.out.ext HE.out) (HT.out.ext HE.out)).mono ?_
      rintro e w12 ⟨rfl, g12⟩
      have hz_w12 := g12.size
      replace HE := hid (HE.out.trans g12)
      replace HB_O := hid (HB_O.out.ext g12)
      replace HB_G := hid (HB_G.out.ext g12)
      replace HB_F := hid (HB_F.out.ext g12)
      replace HB_L := hid (HB_L.out.ext g12)
      replace HB_S := hid (HB_S.out.ext g12)
      replace HB_A := hid (HB_A.out.ext g12)
      replace kl := kl.ext g12
      replace km := km.ext g12
      replace ka := ka.ext g12
      obtain ⟨c_134, c_135, c_136, c_137, c_138, c_139, c_140, c_141, c_142⟩ := HB_O.out.c9
      obtain ⟨c_143, c_144⟩ := HB_G.out.c2
      obtain ⟨c_145, c_146⟩ := HB_F.out.c2
      obtain ⟨c_147, c_148, c_149⟩ := HB_L.out.c3
      obtain ⟨c_150, c_151, c_152⟩ := HB_S.out.c3
      obtain ⟨c_153, c_154, c_155⟩ := HB_A.out.c3
      go_wp2_with fail
      clear c_134 c_135 c_136 c_137 c_138 c_139 c_140 c_141 c_142 c_143 c_144 c_145 c_146 c_147 c_148 c_149 c_150 c_151 c_152 c_153 c_154 c_155
      unfold TruePost
      refine bodyPost_ret (v := .bool true) (by simp [results, Tryz.results3, go_sem]) rfl ⟨rfl, HE.out⟩
  · obtain rfl : h1 = false := by cases h1; rfl; exact absurd rfl e1
    obtain rfl : ins = false := by cases ins; rfl; exact absurd (HI.out.1 rfl).1 e1
    clear e1
    obtain ⟨c_77, c_78, c_79, c_80, c_81, c_82, c_83, c_84, c_85⟩ := HB_O.out.c9
    obtain ⟨c_86, c_87⟩ := HB_G.out.c2
    obtain ⟨c_88, c_89⟩ := HB_F.out.c2
    obtain ⟨c_90, c_91, c_92⟩ := HB_L.out.c3
    obtain ⟨c_93, c_94, c_95⟩ := HB_S.out.c3
    go_wp2_with fail
    clear c_77 c_78 c_79 c_80 c_81 c_82 c_83 c_84 c_85 c_86 c_87 c_88 c_89 c_90 c_91 c_92 c_93 c_94 c_95
    refine (CV.out _).mono ?_
    rintro e w9 ⟨va, rfl, ka, g9⟩
    have hz_w9 := g9.size
    replace HE := hid (HE.out.trans g9)
    replace HB_O := hid (HB_O.out.ext g9)
    replace HB_G := hid (HB_G.out.ext g9)
    replace HB_F := hid (HB_F.out.ext g9)
    replace HB_L := hid (HB_L.out.ext g9)
    replace HB_S := hid (HB_S.out.ext g9)
    replace kl := kl.ext g9
    replace km := km.ext g9
    obtain ⟨nga, aa, na, ca, aa', na', ca', rfl⟩ := ka.shape
    have gA := Ext.alloc w9 (.cells #[.bool nga, .slice aa na ca, .slice aa' na' ca'] 32)
    obtain ⟨c_96, c_97, c_98, c_99, c_100, c_101, c_102, c_103, c_104⟩ := (HB_O.out.ext gA).c9
    obtain ⟨c_105, c_106⟩ := (HB_G.out.ext gA).c2
    obtain ⟨c_107, c_108⟩ := (HB_F.out.ext gA).c2
    obtain ⟨c_109, c_110, c_111⟩ := (HB_L.out.ext gA).c3
    obtain ⟨c_112, c_113, c_114⟩ := (HB_S.out.ext gA).c3
    go_wp2_with fail
    clear gA c_96 c_97 c_98 c_99 c_100 c_101 c_102 c_103 c_104 c_105 c_106 c_107 c_108 c_109 c_110 c_111 c_112 c_113 c_114
    obtain ⟨W10, hW10, g10, hy10, B_A⟩ := pro1 w9 #[.bool nga, .slice aa na ca, .slice aa' na' ca'] 32
    rw [← hW10]
    clear hW10
    have hz_W10 := g10.size
    replace HE := hid (HE.out.trans g10)
    replace HB_O := hid (HB_O.out.ext g10)
    replace HB_G := hid (HB_G.out.ext g10)
    replace HB_F := hid (HB_F.out.ext g10)
    replace HB_L := hid (HB_L.out.ext g10)
    replace HB_S := hid (HB_S.out.ext g10)
    replace kl := kl.ext g10
    replace km := km.ext g10
    replace ka := ka.ext g10
    have HB_A := hid B_A
    clear B_A
    refine (CW.out _ (HP.out.ext HE.out) (HT.out.ext HE.out)).mono ?_
    rintro e w11 ⟨rfl, g11⟩
    have hz_w11 := g11.size
    replace HE := hid (HE.out.trans g11)
    replace HB_O := hid (HB_O.out.ext g11)
    replace HB_G := hid (HB_G.out.ext g11)
    replace HB_F := hid (HB_F.out.ext g11)
    replace HB_L := hid (HB_L.out.ext g11)
    replace HB_S := hid (HB_S.out.ext g11)
    replace HB_A := hid (HB_A.out.ext g11)
    replace kl := kl.ext g11
    replace km := km.ext g11
    replace ka := ka.ext g11
    obtain ⟨c_115, c_116, c_117, c_118, c_119, c_120, c_121, c_122, c_123⟩ := HB_O.out.c9
    obtain ⟨c_124, c_125⟩ := HB_G.out.c2
    obtain ⟨c_126, c_127⟩ := HB_F.out.c2
    obtain ⟨c_128, c_129, c_130⟩ := HB_L.out.c3
    obtain ⟨c_131, c_132, c_133⟩ := HB_S.out.c3
    obtain ⟨c_134, c_135, c_136⟩ := HB_A.out.c3
    go_wp2_with fail
    clear c_115 c_116 c_117 c_118 c_119 c_120 c_121 c_122 c_123 c_124 c_125 c_126 c_127 c_128 c_129 c_130 c_131 c_132 c_133 c_134 c_135 c_136
    unfold TruePost
    refine bodyPost_ret (v := .bool true) (by simp [results, Tryz.results3, go_sem]) rfl ⟨rfl, HE.out⟩
end Go.Proofs.YtpdjenblkgaffaaGreatDoor
