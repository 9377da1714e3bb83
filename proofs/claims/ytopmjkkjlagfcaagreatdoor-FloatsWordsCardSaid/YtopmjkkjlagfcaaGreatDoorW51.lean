/- the law FloatsWords, over contracts: of words that are no NaN. -/
import Derived.Test.YtopmjkkjlagfcaaGreatDoorW50
namespace Go.Proofs.YtopmjkkjlagfcaaGreatDoor
open Go.RowKit Vn
set_option maxRecDepth 100000 in
set_option maxHeartbeats 4000000 in
theorem words_main (E P M : Int) (i0 i1 j0 j1 : Nat) (c0 c1 : Int) (kd : Int) (S : ByteArray) (ng : Bool) (w : World) (CD : Hid (∀ w, Tabs w → Calls Tryz.prog 37 #[.agg #[.int .i64 E, .int .i64 P], .agg #[.int .u64 (i0 : Nat), .int .u64 (i1 : Nat)]] w fun e w' => e = .returned (.tuple #[.agg #[.int .i64 kd, .bool ng, .string S], .int .i64 0]) ∧ Ext w w')) (CE : Hid (∀ w, WM w → Tabs w → Calls Tryz.prog 9 #[.agg #[.int .i64 E, .int .i64 P], .agg #[.int .i64 kd, .bool ng, .string S]] w fun e w' => e = .returned (.tuple #[.agg #[.int .u64 (i0 : Nat), .int .u64 (i1 : Nat)], .int .i64 0]) ∧ Ext w w')) (b0 b1 u0 u1 : Nat) (CU : Hid (∀ w, Calls Tryz.prog 21 #[.agg #[.int .i64 E, .int .i64 P], .agg #[.int .u64 (i0 : Nat), .int .u64 (i1 : Nat)], .bool true] w fun e w' => e = .returned (.tuple #[.agg #[.int .u64 (u0 : Nat), .int .u64 (u1 : Nat)], .int .i64 0]) ∧ Ext w w')) (CB : Hid (∀ w, Calls Tryz.prog 21 #[.agg #[.int .i64 E, .int .i64 P], .agg #[.int .u64 (u0 : Nat), .int .u64 (u1 : Nat)], .bool false] w fun e w' => e = .returned (.tuple #[.agg #[.int .u64 (b0 : Nat), .int .u64 (b1 : Nat)], .int .i64 0]) ∧ Ext w w')) (hkd : (kd = 1 ∧ (u0 ≠ i0 ∨ (u0 = i0 ∧ u1 ≠ i1))) ∨ (kd = 2 ∧ (i0 = b0 ∧ i1 = b1) ∧ (u0 ≠ i0 ∨ (u0 = i0 ∧ u1 ≠ i1))) ∨ (kd = 3 ∧ ng = true ∧ (i0 = b0 ∧ i1 = b1) ∧ (u0 ≠ i0 ∨ (u0 = i0 ∧ u1 ≠ i1))) ∨ (kd = 3 ∧ ng = false ∧ i0 = u0 ∧ i1 = u1)) (qa qb : Rat) (za zb : Int) (hza : za = 0 ∨ za = 2 ∨ za = 4 ∨ za = 6) (hzb : zb = 0 ∨ zb = 2 ∨ zb = 4 ∨ zb = 6) (CVA : Hid (∀ w, Calls Tryz.prog 18 #[.agg #[.int .i64 E, .int .i64 P], .agg #[.int .u64 (i0 : Nat), .int .u64 (i1 : Nat)]] w (NumErr qa za w))) (CVB : Hid (∀ w, Calls Tryz.prog 18 #[.agg #[.int .i64 E, .int .i64 P], .agg #[.int .u64 (j0 : Nat), .int .u64 (j1 : Nat)]] w (NumErr qb zb w))) (sa : SmQ 5000 qa) (sb : SmQ 5000 qb) (HL1 : Hid (za = 0 ∧ zb = 0 → 0 < cmpQ qa qb → Tail E P qb qa i0 i1)) (HL2 : Hid (za = 0 ∧ zb = 0 → ¬ 0 < cmpQ qa qb → Tail E P qa qb j0 j1))  (hw : WM w) (hT : Tabs w) :
  Calls Tryz.prog 8 #[.agg #[.int .i64 E, .int .i64 P, .int .i64 M, .int .u64 (i0 : Nat), .int .u64 (i1 : Nat), .int .u64 (j0 : Nat), .int .u64 (j1 : Nat), .int .u64 c0, .int .u64 c1]] w fun e w' => TruePost w e w' := by
 have hk4 : (kd == 4) = false := by rcases hkd with h | h | h | h <;> (rw [h.1]; rfl)
 have hk5 : (kd == 5) = false := by rcases hkd with h | h | h | h <;> (rw [h.1]; rfl)
 have HKD := hid hkd
 obtain ⟨cc, hcc0⟩ : ∃ c, c = cmpQ qa qb := ⟨_, rfl⟩
 have CCM : Hid (∀ u v w, NumV w u qa → NumV w v qb → Calls Tryz.prog 19 #[u, v] w fun e w' => e = .returned (.int .i64 cc) ∧ Ext w w') := hid fun u v w h k => by
  rw [hcc0]; exact Cmp_c u v qa qb 5000 w h k sa sb (by decide)
 rw [← hcc0] at HL1 HL2
 have CN : Hid (∀ w, Calls Tryz.prog 38 #[.agg #[.int .i64 E, .int .i64 P, .int .i64 M, .int .u64 (i0 : Nat), .int .u64 (i1 : Nat), .int .u64 (j0 : Nat), .int .u64 (j1 : Nat), .int .u64 c0, .int .u64 c1]] w (TwoNums qa za qb zb w)) := hid fun w => numbers_x E P M i0 i1 j0 j1 c0 c1 qa za qb zb w hza hzb CVA CVB
 clear hkd hcc0 sa sb hza hzb CVA CVB
 have CW : Hid (∀ w, WM w → Tabs w → Calls Tryz.prog 11 #[] w fun e w' => e = .returned (.bool true) ∧ Ext w w') := hid fun w h k => awake_c w h k
 have HP := hid hw
 have HT := hid hT
 clear hw hT
 obtain ⟨W0, hW0, g0, hz0, B_O⟩ := pro1 w #[.int .i64 E, .int .i64 P, .int .i64 M, .int .u64 (i0 : Nat), .int .u64 (i1 : Nat), .int .u64 (j0 : Nat), .int .u64 (j1 : Nat), .int .u64 c0, .int .u64 c1] 57
 have HE := hid g0
 have HB_O := hid B_O
 clear g0 B_O 
 go_enter Tryz.func8, Tryz.ntmps8
 go_upto_region 1 with (fail)
 rw [← hW0]
 clear hW0
 obtain ⟨c_1, c_2, c_3, c_4, c_5, c_6, c_7, c_8, c_9⟩ := HB_O.out.c9
 go_upto_region 2 with (fail)
 clear c_1 c_2 c_3 c_4 c_5 c_6 c_7 c_8 c_9
 obtain ⟨W1, hW1, g1, hy1, B_F⟩ := pro1 W0 #[.int .i64 E, .int .i64 P] 23
 rw [← hW1]
 clear hW1
 have hz_W1 := g1.size
 replace HE := hid (HE.out.trans g1)
 replace HB_O := hid (HB_O.out.ext g1)
 have HB_F := hid B_F
 clear B_F
 obtain ⟨c_10, c_11, c_12, c_13, c_14, c_15, c_16, c_17, c_18⟩ := HB_O.out.c9
 obtain ⟨c_19, c_20⟩ := HB_F.out.c2
 go_wp2_with fail
 clear c_10 c_11 c_12 c_13 c_14 c_15 c_16 c_17 c_18 c_19 c_20
 refine (CD.out _ (HT.out.ext HE.out)).mono ?_
 rintro e w2 ⟨rfl, g2⟩
 have hz_w2 := g2.size
 replace HE := hid (HE.out.trans g2)
 replace HB_O := hid (HB_O.out.ext g2)
 replace HB_F := hid (HB_F.out.ext g2)
 have gA := Ext.alloc w2 (.cells #[.int .i64 kd, .bool ng, .string S] 26)
 obtain ⟨c_21, c_22, c_23, c_24, c_25, c_26, c_27, c_28, c_29⟩ := (HB_O.out.ext gA).c9
 obtain ⟨c_30, c_31⟩ := (HB_F.out.ext gA).c2
 go_wp2_with fail
 clear gA c_21 c_22 c_23 c_24 c_25 c_26 c_27 c_28 c_29 c_30 c_31
 obtain ⟨W3, hW3, g3, hy3, B_V⟩ := pro1 w2 #[.int .i64 kd, .bool ng, .string S] 26
 rw [← hW3]
 clear hW3
 have hz_W3 := g3.size
 replace HE := hid (HE.out.trans g3)
 replace HB_O := hid (HB_O.out.ext g3)
 replace HB_F := hid (HB_F.out.ext g3)
 have HB_V := hid B_V
 clear B_V
 refine (CE.out _ (HP.out.ext HE.out) (HT.out.ext HE.out)).mono ?_
 rintro e w4 ⟨rfl, g4⟩
 have hz_w4 := g4.size
 replace HE := hid (HE.out.trans g4)
 replace HB_O := hid (HB_O.out.ext g4)
 replace HB_F := hid (HB_F.out.ext g4)
 replace HB_V := hid (HB_V.out.ext g4)
 have gA := Ext.alloc w4 (.cells #[.int .u64 (i0 : Nat), .int .u64 (i1 : Nat)] 29)
 obtain ⟨c_32, c_33, c_34, c_35, c_36, c_37, c_38, c_39, c_40⟩ := (HB_O.out.ext gA).c9
 obtain ⟨c_41, c_42⟩ := (HB_F.out.ext gA).c2
 obtain ⟨c_43, c_44, c_45⟩ := (HB_V.out.ext gA).c3
 go_wp2_with fail
 clear gA c_32 c_33 c_34 c_35 c_36 c_37 c_38 c_39 c_40 c_41 c_42 c_43 c_44 c_45
 obtain ⟨W5, hW5, g5, hy5, B_E⟩ := pro1 w4 #[.int .u64 (i0 : Nat), .int .u64 (i1 : Nat)] 29
 rw [← hW5]
 clear hW5
 have hz_W5 := g5.size
 replace HE := hid (HE.out.trans g5)
 replace HB_O := hid (HB_O.out.ext g5)
 replace HB_F := hid (HB_F.out.ext g5)
 replace HB_V := hid (HB_V.out.ext g5)
 have HB_E := hid B_E
 clear B_E
 refine (CU.out _).mono ?_
 rintro e w6 ⟨rfl, g6⟩
 have hz_w6 := g6.size
 replace HE := hid (HE.out.trans g6)
 replace HB_O := hid (HB_O.out.ext g6)
 replace HB_F := hid (HB_F.out.ext g6)
 replace HB_V := hid (HB_V.out.ext g6)
 replace HB_E := hid (HB_E.out.ext g6)
 have gA := Ext.alloc w6 (.cells #[.int .u64 (u0 : Nat), .int .u64 (u1 : Nat)] 29)
 obtain ⟨c_46, c_47, c_48, c_49, c_50, c_51, c_52, c_53, c_54⟩ := (HB_O.out.ext gA).c9
 obtain ⟨c_55, c_56⟩ := (HB_F.out.ext gA).c2
 obtain ⟨c_57, c_58, c_59⟩ := (HB_V.out.ext gA).c3
 obtain ⟨c_60, c_61⟩ := (HB_E.out.ext gA).c2
 go_wp2_with fail
 clear gA c_46 c_47 c_48 c_49 c_50 c_51 c_52 c_53 c_54 c_55 c_56 c_57 c_58 c_59 c_60 c_61
 obtain ⟨W7, hW7, g7, hy7, B_U⟩ := pro1 w6 #[.int .u64 (u0 : Nat), .int .u64 (u1 : Nat)] 29
 rw [← hW7]
 clear hW7
 have hz_W7 := g7.size
 replace HE := hid (HE.out.trans g7)
 replace HB_O := hid (HB_O.out.ext g7)
 replace HB_F := hid (HB_F.out.ext g7)
 replace HB_V := hid (HB_V.out.ext g7)
 replace HB_E := hid (HB_E.out.ext g7)
 have HB_U := hid B_U
 clear B_U
 refine (CB.out _).mono ?_
 rintro e w8 ⟨rfl, g8⟩
 have hz_w8 := g8.size
 replace HE := hid (HE.out.trans g8)
 replace HB_O := hid (HB_O.out.ext g8)
 replace HB_F := hid (HB_F.out.ext g8)
 replace HB_V := hid (HB_V.out.ext g8)
 replace HB_E := hid (HB_E.out.ext g8)
 replace HB_U := hid (HB_U.out.ext g8)
 have gA := Ext.alloc w8 (.cells #[.int .u64 (b0 : Nat), .int .u64 (b1 : Nat)] 29)
 obtain ⟨c_62, c_63, c_64, c_65, c_66, c_67, c_68, c_69, c_70⟩ := (HB_O.out.ext gA).c9
 obtain ⟨c_71, c_72⟩ := (HB_F.out.ext gA).c2
 obtain ⟨c_73, c_74, c_75⟩ := (HB_V.out.ext gA).c3
 obtain ⟨c_76, c_77⟩ := (HB_E.out.ext gA).c2
 obtain ⟨c_78, c_79⟩ := (HB_U.out.ext gA).c2
 go_upto_region 12 with (fail)
 clear gA c_62 c_63 c_64 c_65 c_66 c_67 c_68 c_69 c_70 c_71 c_72 c_73 c_74 c_75 c_76 c_77 c_78 c_79
 obtain ⟨W9, hW9, g9, hy9, B_B⟩ := pro1 w8 #[.int .u64 (b0 : Nat), .int .u64 (b1 : Nat)] 29
 rw [← hW9]
 clear hW9
 have hz_W9 := g9.size
 replace HE := hid (HE.out.trans g9)
 replace HB_O := hid (HB_O.out.ext g9)
 replace HB_F := hid (HB_F.out.ext g9)
 replace HB_V := hid (HB_V.out.ext g9)
 replace HB_E := hid (HB_E.out.ext g9)
 replace HB_U := hid (HB_U.out.ext g9)
 have HB_B := hid B_B
 clear B_B
 go_cut [86] (fun sv wx => sv = .bool false ∧ Hid (Ext W9 wx))
 case first =>
  rcases HKD.out with ⟨rfl, h⟩ | ⟨rfl, ⟨rfl, rfl⟩, h⟩ | ⟨rfl, h0, h1, h⟩ | ⟨rfl, h0, h⟩
  ·clear hk4 hk5 h
   obtain ⟨c_80, c_81, c_82, c_83, c_84, c_85, c_86, c_87, c_88⟩ := HB_O.out.c9
   obtain ⟨c_89, c_90⟩ := HB_F.out.c2
   obtain ⟨c_91, c_92, c_93⟩ := HB_V.out.c3
   obtain ⟨c_94, c_95⟩ := HB_E.out.c2
   obtain ⟨c_96, c_97⟩ := HB_U.out.c2
   obtain ⟨c_98, c_99⟩ := HB_B.out.c2
   go_wp2_with fail
   clear c_80 c_81 c_82 c_83 c_84 c_85 c_86 c_87 c_88 c_89 c_90 c_91 c_92 c_93 c_94 c_95 c_96 c_97 c_98 c_99
   go_meet
   exact ⟨rfl, hid (Below.refl _ W9)⟩
  ·clear hk4 hk5 h
   obtain ⟨c_80, c_81, c_82, c_83, c_84, c_85, c_86, c_87, c_88⟩ := HB_O.out.c9
   obtain ⟨c_89, c_90⟩ := HB_F.out.c2
   obtain ⟨c_91, c_92, c_93⟩ := HB_V.out.c3
   obtain ⟨c_94, c_95⟩ := HB_E.out.c2
   obtain ⟨c_96, c_97⟩ := HB_U.out.c2
   obtain ⟨c_98, c_99⟩ := HB_B.out.c2
   go_wp2_with fail
   clear c_80 c_81 c_82 c_83 c_84 c_85 c_86 c_87 c_88 c_89 c_90 c_91 c_92 c_93 c_94 c_95 c_96 c_97 c_98 c_99
   go_meet
   exact ⟨rfl, hid (Below.refl _ W9)⟩
  ·clear hk4 hk5 h0 h1 h
   obtain ⟨c_80, c_81, c_82, c_83, c_84, c_85, c_86, c_87, c_88⟩ := HB_O.out.c9
   obtain ⟨c_89, c_90⟩ := HB_F.out.c2
   obtain ⟨c_91, c_92, c_93⟩ := HB_V.out.c3
   obtain ⟨c_94, c_95⟩ := HB_E.out.c2
   obtain ⟨c_96, c_97⟩ := HB_U.out.c2
   obtain ⟨c_98, c_99⟩ := HB_B.out.c2
   go_wp2_with fail
   clear c_80 c_81 c_82 c_83 c_84 c_85 c_86 c_87 c_88 c_89 c_90 c_91 c_92 c_93 c_94 c_95 c_96 c_97 c_98 c_99
   go_meet
   exact ⟨rfl, hid (Below.refl _ W9)⟩
  ·clear hk4 hk5 h0 h
   obtain ⟨c_80, c_81, c_82, c_83, c_84, c_85, c_86, c_87, c_88⟩ := HB_O.out.c9
   obtain ⟨c_89, c_90⟩ := HB_F.out.c2
   obtain ⟨c_91, c_92, c_93⟩ := HB_V.out.c3
   obtain ⟨c_94, c_95⟩ := HB_E.out.c2
   obtain ⟨c_96, c_97⟩ := HB_U.out.c2
   obtain ⟨c_98, c_99⟩ := HB_B.out.c2
   go_wp2_with fail
   clear c_80 c_81 c_82 c_83 c_84 c_85 c_86 c_87 c_88 c_89 c_90 c_91 c_92 c_93 c_94 c_95 c_96 c_97 c_98 c_99
   go_meet
   exact ⟨rfl, hid (Below.refl _ W9)⟩
 case rest =>
  obtain ⟨rfl, gx12⟩ := hcut
  clear hk4 hk5
  obtain ⟨wd, rfl⟩ : ∃ x, x = wc := ⟨_, rfl⟩
  have hz_wd := gx12.out.size
  replace HE := hid (HE.out.trans gx12.out)
  replace HB_O := hid (HB_O.out.ext gx12.out)
  replace HB_F := hid (HB_F.out.ext gx12.out)
  replace HB_V := hid (HB_V.out.ext gx12.out)
  replace HB_E := hid (HB_E.out.ext gx12.out)
  replace HB_U := hid (HB_U.out.ext gx12.out)
  replace HB_B := hid (HB_B.out.ext gx12.out)
  go_upto_region 14 with (fail)
  go_cut [114] (fun sv wx => sv = .bool false ∧ Hid (Ext wd wx))
  case first =>
   have HKD2 : ((kd == 3) = false ∧ (u0 ≠ i0 ∨ (u0 = i0 ∧ u1 ≠ i1))) ∨ (kd = 3 ∧ ng = true ∧ (i0 = b0 ∧ i1 = b1) ∧ (u0 ≠ i0 ∨ (u0 = i0 ∧ u1 ≠ i1))) ∨ (kd = 3 ∧ ng = false ∧ i0 = u0 ∧ i1 = u1) := by
    rcases HKD.out with ⟨rfl, h⟩ | ⟨rfl, _, h⟩ | h | h
    ·exact .inl ⟨rfl, h⟩
    ·exact .inl ⟨rfl, h⟩
    ·exact .inr (.inl h)
    ·exact .inr (.inr h)
   clear HKD
   rcases HKD2 with ⟨hk3, h | h⟩ | ⟨rfl, rfl, ⟨rfl, rfl⟩, h | h⟩ | ⟨rfl, rfl, rfl, rfl⟩
   ·as_aux_lemma =>
     have hq : ¬ ((u0 : Nat) : Int) = (i0 : Int) := by omega
     clear h
     have HS : Hid (∀ w', Ext wd w' → w'.cell? ⟨w2.heap.size, 0, none⟩ = some (.int .i64 kd) ∧ w'.cell? ⟨w2.heap.size, 1, none⟩ = some (.bool ng) ∧ w'.cell? ⟨w2.heap.size, 2, none⟩ = some (.string S) ∧ w'.cell? ⟨w8.heap.size, 0, none⟩ = some (.int .u64 (b0 : Nat)) ∧ w'.cell? ⟨w8.heap.size, 1, none⟩ = some (.int .u64 (b1 : Nat)) ∧ w'.cell? ⟨w6.heap.size, 0, none⟩ = some (.int .u64 (u0 : Nat)) ∧ w'.cell? ⟨w6.heap.size, 1, none⟩ = some (.int .u64 (u1 : Nat)) ∧ w'.cell? ⟨w.heap.size, 0, none⟩ = some (.int .i64 E) ∧ w'.cell? ⟨w.heap.size, 1, none⟩ = some (.int .i64 P) ∧ w'.cell? ⟨w.heap.size, 2, none⟩ = some (.int .i64 M) ∧ w'.cell? ⟨w.heap.size, 3, none⟩ = some (.int .u64 (i0 : Nat)) ∧ w'.cell? ⟨w.heap.size, 4, none⟩ = some (.int .u64 (i1 : Nat)) ∧ w'.cell? ⟨w.heap.size, 5, none⟩ = some (.int .u64 (j0 : Nat)) ∧ w'.cell? ⟨w.heap.size, 6, none⟩ = some (.int .u64 (j1 : Nat)) ∧ w'.cell? ⟨w.heap.size, 7, none⟩ = some (.int .u64 c0) ∧ w'.cell? ⟨w.heap.size, 8, none⟩ = some (.int .u64 c1)) := hid fun w' h => ⟨(HB_V.out.ext h).cell 0, (HB_V.out.ext h).cell 1, (HB_V.out.ext h).cell 2, (HB_B.out.ext h).cell 0, (HB_B.out.ext h).cell 1, (HB_U.out.ext h).cell 0, (HB_U.out.ext h).cell 1, (HB_O.out.ext h).cell 0, (HB_O.out.ext h).cell 1, (HB_O.out.ext h).cell 2, (HB_O.out.ext h).cell 3, (HB_O.out.ext h).cell 4, (HB_O.out.ext h).cell 5, (HB_O.out.ext h).cell 6, (HB_O.out.ext h).cell 7, (HB_O.out.ext h).cell 8⟩
     have hb0 : Ext wd wd.drew := Below.drew (Below.refl _ wd)
     refine wp_region_held_drew (S := fun w' => w'.cell? ⟨w2.heap.size, 0, none⟩ = some (.int .i64 kd) ∧ w'.cell? ⟨w2.heap.size, 1, none⟩ = some (.bool ng) ∧ w'.cell? ⟨w2.heap.size, 2, none⟩ = some (.string S) ∧ w'.cell? ⟨w8.heap.size, 0, none⟩ = some (.int .u64 (b0 : Nat)) ∧ w'.cell? ⟨w8.heap.size, 1, none⟩ = some (.int .u64 (b1 : Nat)) ∧ w'.cell? ⟨w6.heap.size, 0, none⟩ = some (.int .u64 (u0 : Nat)) ∧ w'.cell? ⟨w6.heap.size, 1, none⟩ = some (.int .u64 (u1 : Nat)) ∧ w'.cell? ⟨w.heap.size, 0, none⟩ = some (.int .i64 E) ∧ w'.cell? ⟨w.heap.size, 1, none⟩ = some (.int .i64 P) ∧ w'.cell? ⟨w.heap.size, 2, none⟩ = some (.int .i64 M) ∧ w'.cell? ⟨w.heap.size, 3, none⟩ = some (.int .u64 (i0 : Nat)) ∧ w'.cell? ⟨w.heap.size, 4, none⟩ = some (.int .u64 (i1 : Nat)) ∧ w'.cell? ⟨w.heap.size, 5, none⟩ = some (.int .u64 (j0 : Nat)) ∧ w'.cell? ⟨w.heap.size, 6, none⟩ = some (.int .u64 (j1 : Nat)) ∧ w'.cell? ⟨w.heap.size, 7, none⟩ = some (.int .u64 c0) ∧ w'.cell? ⟨w.heap.size, 8, none⟩ = some (.int .u64 c1)) (by kernel_rfl) (HS.out _ hb0) (fun hHeld => ?_)
     refine wpAnyH_take (i := 0) (oi := { dst := some 87, op := Op.fieldAddr 26 (Operand.tmp 4) 0, type := 0, pos := "law.go:333", after := #[], guard := none }) (v := ?_) rfl (by kernel_rfl) (by kernel_rfl) (by kernel_rfl) (fun _ _ _ h => h) (Or.inl ⟨by rfl, ?_⟩) (by assumption) ?_
     rotate_left
     ·intro w' hSw
      (try dsimp only at hSw)
      go_simp <;> with_reducible rfl
     try simp only [Act.put, List.setIfInBounds_toArray, List.set_cons_zero, List.set_cons_succ]
     refine wpAnyH_take (i := 1) (oi := { dst := some 88, op := Op.load 3 (Operand.tmp 87), type := 3, pos := "law.go:333", after := #[{ on := 0, ground := Ground.data }], guard := none }) (v := ?_) rfl (by kernel_rfl) (by kernel_rfl) (by kernel_rfl) (fun _ _ _ h => h) (Or.inl ⟨by rfl, ?_⟩) (by assumption) ?_
     rotate_left
     ·intro w' hSw
      (try dsimp only at hSw)
      go_simp <;> with_reducible rfl
     try simp only [Act.put, List.setIfInBounds_toArray, List.set_cons_zero, List.set_cons_succ]
     refine wpAnyH_take (i := 2) (oi := { dst := some 89, op := Op.binOp BinOp.eql 3 (Operand.tmp 88) (Operand.const (Value.int IntKind.i64 3)) 3, type := 4, pos := "law.go:333", after := #[{ on := 1, ground := Ground.data }], guard := none }) (v := ?_) rfl (by kernel_rfl) (by kernel_rfl) (by kernel_rfl) (fun _ _ _ h => h) (Or.inl ⟨by rfl, ?_⟩) (by assumption) ?_
     rotate_left
     ·intro w' hSw
      (try dsimp only at hSw)
      go_simp <;> with_reducible rfl
     try simp only [Act.put, List.setIfInBounds_toArray, List.set_cons_zero, List.set_cons_succ]
     refine wpAnyH_take (i := 3) (oi := { dst := some 90, op := Op.move (Operand.tmp 89), type := 4, pos := "law.go:333", after := #[{ on := 2, ground := Ground.data }], guard := none }) (v := ?_) rfl (by kernel_rfl) (by kernel_rfl) (by kernel_rfl) (fun _ _ _ h => h) (Or.inl ⟨by rfl, ?_⟩) (by assumption) ?_
     rotate_left
     ·intro w' hSw
      (try dsimp only at hSw)
      go_simp <;> with_reducible rfl
     try simp only [Act.put, List.setIfInBounds_toArray, List.set_cons_zero, List.set_cons_succ]
     refine wpAnyH_take (i := 4) (oi := { dst := some 91, op := Op.fieldAddr 26 (Operand.tmp 4) 1, type := 0, pos := "law.go:333", after := #[{ on := 3, ground := Ground.guard }], guard := some (3, true) }) (v := undef) rfl (by kernel_rfl) (by kernel_rfl) (by kernel_rfl) (fun _ _ _ h => h) (Or.inr ⟨by rfl, rfl⟩) (by assumption) ?_
     try simp only [Act.put, List.setIfInBounds_toArray, List.set_cons_zero, List.set_cons_succ]
     refine wpAnyH_take (i := 5) (oi := { dst := some 92, op := Op.load 4 (Operand.tmp 91), type := 4, pos := "law.go:333", after := #[{ on := 4, ground := Ground.data }, { on := 3, ground := Ground.guard }], guard := some (3, true) }) (v := undef) rfl (by kernel_rfl) (by kernel_rfl) (by kernel_rfl) (fun _ _ _ h => h) (Or.inr ⟨by rfl, rfl⟩) (by assumption) ?_
     try simp only [Act.put, List.setIfInBounds_toArray, List.set_cons_zero, List.set_cons_succ]
     refine wpAnyH_take (i := 6) (oi := { dst := some 93, op := Op.pick (Operand.tmp 90) (Operand.tmp 92) (Operand.const (Value.bool false)), type := 4, pos := "law.go:333", after := #[{ on := 3, ground := Ground.data }, { on := 5, ground := Ground.data }], guard := none }) (v := ?_) rfl (by kernel_rfl) (by kernel_rfl) (by kernel_rfl) (fun _ _ _ h => h) (Or.inl ⟨by rfl, ?_⟩) (by assumption) ?_
     rotate_left
     ·intro w' hSw
      (try dsimp only at hSw)
      go_simp <;> with_reducible rfl
     try simp only [Act.put, List.setIfInBounds_toArray, List.set_cons_zero, List.set_cons_succ]
     refine wpAnyH_take (i := 7) (oi := { dst := some 94, op := Op.move (Operand.tmp 93), type := 4, pos := "law.go:333", after := #[{ on := 6, ground := Ground.data }, { on := 3, ground := Ground.chain }], guard := none }) (v := ?_) rfl (by kernel_rfl) (by kernel_rfl) (by kernel_rfl) (fun _ _ _ h => h) (Or.inl ⟨by rfl, ?_⟩) (by assumption) ?_
     rotate_left
     ·intro w' hSw
      (try dsimp only at hSw)
      go_simp <;> with_reducible rfl
     try simp only [Act.put, List.setIfInBounds_toArray, List.set_cons_zero, List.set_cons_succ]
     refine wpAnyH_take (i := 8) (oi := { dst := some 95, op := Op.load 29 (Operand.tmp 8), type := 29, pos := "law.go:333", after := #[{ on := 7, ground := Ground.guard }], guard := some (7, true) }) (v := undef) rfl (by kernel_rfl) (by kernel_rfl) (by kernel_rfl) (fun _ _ _ h => h) (Or.inr ⟨by rfl, rfl⟩) (by assumption) ?_
     try simp only [Act.put, List.setIfInBounds_toArray, List.set_cons_zero, List.set_cons_succ]
     refine wpAnyH_take (i := 9) (oi := { dst := some 96, op := Op.fieldAddr 57 (Operand.tmp 1) 2, type := 0, pos := "law.go:333", after := #[{ on := 7, ground := Ground.guard }], guard := some (7, true) }) (v := undef) rfl (by kernel_rfl) (by kernel_rfl) (by kernel_rfl) (fun _ _ _ h => h) (Or.inr ⟨by rfl, rfl⟩) (by assumption) ?_
     try simp only [Act.put, List.setIfInBounds_toArray, List.set_cons_zero, List.set_cons_succ]
     refine wpAnyH_take (i := 10) (oi := { dst := some 97, op := Op.load 29 (Operand.tmp 96), type := 29, pos := "law.go:333", after := #[{ on := 9, ground := Ground.data }, { on := 7, ground := Ground.guard }], guard := some (7, true) }) (v := undef) rfl (by kernel_rfl) (by kernel_rfl) (by kernel_rfl) (fun _ _ _ h => h) (Or.inr ⟨by rfl, rfl⟩) (by assumption) ?_
     try simp only [Act.put, List.setIfInBounds_toArray, List.set_cons_zero, List.set_cons_succ]
     refine wpAnyH_take (i := 11) (oi := { dst := some 98, op := Op.binOp BinOp.neq 29 (Operand.tmp 95) (Operand.tmp 97) 29, type := 4, pos := "law.go:333", after := #[{ on := 8, ground := Ground.data }, { on := 10, ground := Ground.data }, { on := 7, ground := Ground.guard }], guard := some (7, true) }) (v := undef) rfl (by kernel_rfl) (by kernel_rfl) (by kernel_rfl) (fun _ _ _ h => h) (Or.inr ⟨by rfl, rfl⟩) (by assumption) ?_
     try simp only [Act.put, List.setIfInBounds_toArray, List.set_cons_zero, List.set_cons_succ]
     refine wpAnyH_take (i := 12) (oi := { dst := some 99, op := Op.pick (Operand.tmp 94) (Operand.tmp 98) (Operand.const (Value.bool false)), type := 4, pos := "law.go:333", after := #[{ on := 7, ground := Ground.data }, { on := 11, ground := Ground.data }], guard := none }) (v := ?_) rfl (by kernel_rfl) (by kernel_rfl) (by kernel_rfl) (fun _ _ _ h => h) (Or.inl ⟨by rfl, ?_⟩) (by assumption) ?_
     rotate_left
     ·intro w' hSw
      (try dsimp only at hSw)
      go_simp <;> with_reducible rfl
     try simp only [Act.put, List.setIfInBounds_toArray, List.set_cons_zero, List.set_cons_succ]
     refine wpAnyH_take (i := 13) (oi := { dst := some 100, op := Op.move (Operand.tmp 99), type := 4, pos := "law.go:333", after := #[{ on := 12, ground := Ground.data }, { on := 7, ground := Ground.chain }], guard := none }) (v := ?_) rfl (by kernel_rfl) (by kernel_rfl) (by kernel_rfl) (fun _ _ _ h => h) (Or.inl ⟨by rfl, ?_⟩) (by assumption) ?_
     rotate_left
     ·intro w' hSw
      (try dsimp only at hSw)
      go_simp <;> with_reducible rfl
     try simp only [Act.put, List.setIfInBounds_toArray, List.set_cons_zero, List.set_cons_succ]
     refine wpAnyH_take (i := 14) (oi := { dst := some 101, op := Op.fieldAddr 26 (Operand.tmp 4) 0, type := 0, pos := "law.go:333", after := #[{ on := 13, ground := Ground.guard }], guard := some (13, false) }) (v := ?_) rfl (by kernel_rfl) (by kernel_rfl) (by kernel_rfl) (fun _ _ _ h => h) (Or.inl ⟨by rfl, ?_⟩) (by assumption) ?_
     rotate_left
     ·intro w' hSw
      (try dsimp only at hSw)
      go_simp <;> with_reducible rfl
     try simp only [Act.put, List.setIfInBounds_toArray, List.set_cons_zero, List.set_cons_succ]
     refine wpAnyH_take (i := 15) (oi := { dst := some 102, op := Op.load 3 (Operand.tmp 101), type := 3, pos := "law.go:333", after := #[{ on := 14, ground := Ground.data }, { on := 13, ground := Ground.guard }], guard := some (13, false) }) (v := ?_) rfl (by kernel_rfl) (by kernel_rfl) (by kernel_rfl) (fun _ _ _ h => h) (Or.inl ⟨by rfl, ?_⟩) (by assumption) ?_
     rotate_left
     ·intro w' hSw
      (try dsimp only at hSw)
      go_simp <;> with_reducible rfl
     try simp only [Act.put, List.setIfInBounds_toArray, List.set_cons_zero, List.set_cons_succ]
     refine wpAnyH_take (i := 16) (oi := { dst := some 103, op := Op.binOp BinOp.eql 3 (Operand.tmp 102) (Operand.const (Value.int IntKind.i64 3)) 3, type := 4, pos := "law.go:333", after := #[{ on := 15, ground := Ground.data }, { on := 13, ground := Ground.guard }], guard := some (13, false) }) (v := ?_) rfl (by kernel_rfl) (by kernel_rfl) (by kernel_rfl) (fun _ _ _ h => h) (Or.inl ⟨by rfl, ?_⟩) (by assumption) ?_
     rotate_left
     ·intro w' hSw
      (try dsimp only at hSw)
      go_simp <;> with_reducible rfl
     try simp only [Act.put, List.setIfInBounds_toArray, List.set_cons_zero, List.set_cons_succ]
     refine wpAnyH_take (i := 17) (oi := { dst := some 104, op := Op.move (Operand.tmp 103), type := 4, pos := "law.go:333", after := #[{ on := 16, ground := Ground.data }, { on := 13, ground := Ground.chain }, { on := 13, ground := Ground.guard }], guard := some (13, false) }) (v := ?_) rfl (by kernel_rfl) (by kernel_rfl) (by kernel_rfl) (fun _ _ _ h => h) (Or.inl ⟨by rfl, ?_⟩) (by assumption) ?_
     rotate_left
     ·intro w' hSw
      (try dsimp only at hSw)
      go_simp <;> with_reducible rfl
     try simp only [Act.put, List.setIfInBounds_toArray, List.set_cons_zero, List.set_cons_succ]
     refine wpAnyH_take (i := 18) (oi := { dst := some 105, op := Op.fieldAddr 26 (Operand.tmp 4) 1, type := 0, pos := "law.go:333", after := #[{ on := 17, ground := Ground.guard }], guard := some (17, true) }) (v := undef) rfl (by kernel_rfl) (by kernel_rfl) (by kernel_rfl) (fun _ _ _ h => h) (Or.inr ⟨by rfl, rfl⟩) (by assumption) ?_
     try simp only [Act.put, List.setIfInBounds_toArray, List.set_cons_zero, List.set_cons_succ]
     refine wpAnyH_take (i := 19) (oi := { dst := some 106, op := Op.load 4 (Operand.tmp 105), type := 4, pos := "law.go:333", after := #[{ on := 18, ground := Ground.data }, { on := 17, ground := Ground.guard }], guard := some (17, true) }) (v := undef) rfl (by kernel_rfl) (by kernel_rfl) (by kernel_rfl) (fun _ _ _ h => h) (Or.inr ⟨by rfl, rfl⟩) (by assumption) ?_
     try simp only [Act.put, List.setIfInBounds_toArray, List.set_cons_zero, List.set_cons_succ]
     refine wpAnyH_take (i := 20) (oi := { dst := some 107, op := Op.unOp UnOp.not 4 (Operand.tmp 106), type := 4, pos := "law.go:333", after := #[{ on := 19, ground := Ground.data }, { on := 17, ground := Ground.guard }], guard := some (17, true) }) (v := undef) rfl (by kernel_rfl) (by kernel_rfl) (by kernel_rfl) (fun _ _ _ h => h) (Or.inr ⟨by rfl, rfl⟩) (by assumption) ?_
     try simp only [Act.put, List.setIfInBounds_toArray, List.set_cons_zero, List.set_cons_succ]
     refine wpAnyH_take (i := 21) (oi := { dst := some 108, op := Op.pick (Operand.tmp 104) (Operand.tmp 107) (Operand.const (Value.bool false)), type := 4, pos := "law.go:333", after := #[{ on := 17, ground := Ground.data }, { on := 20, ground := Ground.data }, { on := 13, ground := Ground.guard }], guard := some (13, false) }) (v := ?_) rfl (by kernel_rfl) (by kernel_rfl) (by kernel_rfl) (fun _ _ _ h => h) (Or.inl ⟨by rfl, ?_⟩) (by assumption) ?_
     rotate_left
     ·intro w' hSw
      (try dsimp only at hSw)
      go_simp <;> with_reducible rfl
     try simp only [Act.put, List.setIfInBounds_toArray, List.set_cons_zero, List.set_cons_succ]
     refine wpAnyH_take (i := 22) (oi := { dst := some 109, op := Op.load 29 (Operand.tmp 7), type := 29, pos := "law.go:333", after := #[{ on := 13, ground := Ground.guard }], guard := some (13, false) }) (v := ?_) rfl (by kernel_rfl) (by kernel_rfl) (by kernel_rfl) (fun _ _ _ h => h) (Or.inl ⟨by rfl, ?_⟩) (by assumption) ?_
     rotate_left
     ·intro w' hSw
      (try dsimp only at hSw)
      go_simp <;> with_reducible rfl
     try simp only [Act.put, List.setIfInBounds_toArray, List.set_cons_zero, List.set_cons_succ]
     refine wpAnyH_take (i := 23) (oi := { dst := some 110, op := Op.fieldAddr 57 (Operand.tmp 1) 2, type := 0, pos := "law.go:333", after := #[{ on := 13, ground := Ground.guard }], guard := some (13, false) }) (v := ?_) rfl (by kernel_rfl) (by kernel_rfl) (by kernel_rfl) (fun _ _ _ h => h) (Or.inl ⟨by rfl, ?_⟩) (by assumption) ?_
     rotate_left
     ·intro w' hSw
      (try dsimp only at hSw)
      go_simp <;> with_reducible rfl
     try simp only [Act.put, List.setIfInBounds_toArray, List.set_cons_zero, List.set_cons_succ]
     refine wpAnyH_take (i := 24) (oi := { dst := some 111, op := Op.load 29 (Operand.tmp 110), type := 29, pos := "law.go:333", after := #[{ on := 23, ground := Ground.data }, { on := 13, ground := Ground.guard }], guard := some (13, false) }) (v := ?_) rfl (by kernel_rfl) (by kernel_rfl) (by kernel_rfl) (fun _ _ _ h => h) (Or.inl ⟨by rfl, ?_⟩) (by assumption) ?_
     rotate_left
     ·intro w' hSw
      (try dsimp only at hSw)
      go_simp <;> with_reducible rfl
     try simp only [Act.put, List.setIfInBounds_toArray, List.set_cons_zero, List.set_cons_succ]
     refine wpAnyH_take (i := 25) (oi := { dst := some 112, op := Op.binOp BinOp.eql 29 (Operand.tmp 109) (Operand.tmp 111) 29, type := 4, pos := "law.go:333", after := #[{ on := 22, ground := Ground.data }, { on := 24, ground := Ground.data }, { on := 13, ground := Ground.guard }], guard := some (13, false) }) (v := ?_) rfl (by kernel_rfl) (by kernel_rfl) (by kernel_rfl) (fun _ _ _ h => h) (Or.inl ⟨by rfl, ?_⟩) (by assumption) ?_
     rotate_left
     ·intro w' hSw
      (try dsimp only at hSw)
      go_simp <;> with_reducible rfl
     try simp only [Act.put, List.setIfInBounds_toArray, List.set_cons_zero, List.set_cons_succ]
     refine wpAnyH_take (i := 26) (oi := { dst := some 113, op := Op.binOp BinOp.neq 4 (Operand.tmp 108) (Operand.tmp 112) 4, type := 4, pos := "law.go:333", after := #[{ on := 21, ground := Ground.data }, { on := 25, ground := Ground.data }, { on := 13, ground := Ground.guard }], guard := some (13, false) }) (v := ?_) rfl (by kernel_rfl) (by kernel_rfl) (by kernel_rfl) (fun _ _ _ h => h) (Or.inl ⟨by rfl, ?_⟩) (by assumption) ?_
     rotate_left
     ·intro w' hSw
      (try dsimp only at hSw)
      go_simp <;> with_reducible rfl
     try simp only [Act.put, List.setIfInBounds_toArray, List.set_cons_zero, List.set_cons_succ]
     refine wpAnyH_take (i := 27) (oi := { dst := some 114, op := Op.pick (Operand.tmp 100) (Operand.const (Value.bool true)) (Operand.tmp 113), type := 4, pos := "law.go:333", after := #[{ on := 13, ground := Ground.data }, { on := 26, ground := Ground.data }], guard := none }) (v := ?_) rfl (by kernel_rfl) (by kernel_rfl) (by kernel_rfl) (fun _ _ _ h => h) (Or.inl ⟨by rfl, ?_⟩) (by assumption) ?_
     rotate_left
     ·intro w' hSw
      (try dsimp only at hSw)
      go_simp <;> with_reducible rfl
     try simp only [Act.put, List.setIfInBounds_toArray, List.set_cons_zero, List.set_cons_succ]
     refine wpAnyH_done (by kernel_rfl) ?_ _
     clear HS hHeld
     go_wp2_with fail
     go_meet
     exact ⟨rfl, hid hb0⟩
   ·as_aux_lemma =>
     have he : ((u0 : Nat) : Int) = (i0 : Int) := by omega
     have hq : ¬ ((u1 : Nat) : Int) = (i1 : Int) := by omega
     clear h
     have HS : Hid (∀ w', Ext wd w' → w'.cell? ⟨w2.heap.size, 0, none⟩ = some (.int .i64 kd) ∧ w'.cell? ⟨w2.heap.size, 1, none⟩ = some (.bool ng) ∧ w'.cell? ⟨w2.heap.size, 2, none⟩ = some (.string S) ∧ w'.cell? ⟨w8.heap.size, 0, none⟩ = some (.int .u64 (b0 : Nat)) ∧ w'.cell? ⟨w8.heap.size, 1, none⟩ = some (.int .u64 (b1 : Nat)) ∧ w'.cell? ⟨w6.heap.size, 0, none⟩ = some (.int .u64 (u0 : Nat)) ∧ w'.cell? ⟨w6.heap.size, 1, none⟩ = some (.int .u64 (u1 : Nat)) ∧ w'.cell? ⟨w.heap.size, 0, none⟩ = some (.int .i64 E) ∧ w'.cell? ⟨w.heap.size, 1, none⟩ = some (.int .i64 P) ∧ w'.cell? ⟨w.heap.size, 2, none⟩ = some (.int .i64 M) ∧ w'.cell? ⟨w.heap.size, 3, none⟩ = some (.int .u64 (i0 : Nat)) ∧ w'.cell? ⟨w.heap.size, 4, none⟩ = some (.int .u64 (i1 : Nat)) ∧ w'.cell? ⟨w.heap.size, 5, none⟩ = some (.int .u64 (j0 : Nat)) ∧ w'.cell? ⟨w.heap.size, 6, none⟩ = some (.int .u64 (j1 : Nat)) ∧ w'.cell? ⟨w.heap.size, 7, none⟩ = some (.int .u64 c0) ∧ w'.cell? ⟨w.heap.size, 8, none⟩ = some (.int .u64 c1)) := hid fun w' h => ⟨(HB_V.out.ext h).cell 0, (HB_V.out.ext h).cell 1, (HB_V.out.ext h).cell 2, (HB_B.out.ext h).cell 0, (HB_B.out.ext h).cell 1, (HB_U.out.ext h).cell 0, (HB_U.out.ext h).cell 1, (HB_O.out.ext h).cell 0, (HB_O.out.ext h).cell 1, (HB_O.out.ext h).cell 2, (HB_O.out.ext h).cell 3, (HB_O.out.ext h).cell 4, (HB_O.out.ext h).cell 5, (HB_O.out.ext h).cell 6, (HB_O.out.ext h).cell 7, (HB_O.out.ext h).cell 8⟩
     have hb0 : Ext wd wd.drew := Below.drew (Below.refl _ wd)
     refine wp_region_held_drew (S := fun w' => w'.cell? ⟨w2.heap.size, 0, none⟩ = some (.int .i64 kd) ∧ w'.cell? ⟨w2.heap.size, 1, none⟩ = some (.bool ng) ∧ w'.cell? ⟨w2.heap.size, 2, none⟩ = some (.string S) ∧ w'.cell? ⟨w8.heap.size, 0, none⟩ = some (.int .u64 (b0 : Nat)) ∧ w'.cell? ⟨w8.heap.size, 1, none⟩ = some (.int .u64 (b1 : Nat)) ∧ w'.cell? ⟨w6.heap.size, 0, none⟩ = some (.int .u64 (u0 : Nat)) ∧ w'.cell? ⟨w6.heap.size, 1, none⟩ = some (.int .u64 (u1 : Nat)) ∧ w'.cell? ⟨w.heap.size, 0, none⟩ = some (.int .i64 E) ∧ w'.cell? ⟨w.heap.size, 1, none⟩ = some (.int .i64 P) ∧ w'.cell? ⟨w.heap.size, 2, none⟩ = some (.int .i64 M) ∧ w'.cell? ⟨w.heap.size, 3, none⟩ = some (.int .u64 (i0 : Nat)) ∧ w'.cell? ⟨w.heap.size, 4, none⟩ = some (.int .u64 (i1 : Nat)) ∧ w'.cell? ⟨w.heap.size, 5, none⟩ = some (.int .u64 (j0 : Nat)) ∧ w'.cell? ⟨w.heap.size, 6, none⟩ = some (.int .u64 (j1 : Nat)) ∧ w'.cell? ⟨w.heap.size, 7, none⟩ = some (.int .u64 c0) ∧ w'.cell? ⟨w.heap.size, 8, none⟩ = some (.int .u64 c1)) (by kernel_rfl) (HS.out _ hb0) (fun hHeld => ?_)
     refine wpAnyH_take (i := 0) (oi := { dst := some 87, op := Op.fieldAddr 26 (Operand.tmp 4) 0, type := 0, pos := "law.go:333", after := #[], guard := none }) (v := ?_) rfl (by kernel_rfl) (by kernel_rfl) (by kernel_rfl) (fun _ _ _ h => h) (Or.inl ⟨by rfl, ?_⟩) (by assumption) ?_
     rotate_left
     ·intro w' hSw
      (try dsimp only at hSw)
      go_simp <;> with_reducible rfl
     try simp only [Act.put, List.setIfInBounds_toArray, List.set_cons_zero, List.set_cons_succ]
     refine wpAnyH_take (i := 1) (oi := { dst := some 88, op := Op.load 3 (Operand.tmp 87), type := 3, pos := "law.go:333", after := #[{ on := 0, ground := Ground.data }], guard := none }) (v := ?_) rfl (by kernel_rfl) (by kernel_rfl) (by kernel_rfl) (fun _ _ _ h => h) (Or.inl ⟨by rfl, ?_⟩) (by assumption) ?_
     rotate_left
     ·intro w' hSw
      (try dsimp only at hSw)
      go_simp <;> with_reducible rfl
     try simp only [Act.put, List.setIfInBounds_toArray, List.set_cons_zero, List.set_cons_succ]
     refine wpAnyH_take (i := 2) (oi := { dst := some 89, op := Op.binOp BinOp.eql 3 (Operand.tmp 88) (Operand.const (Value.int IntKind.i64 3)) 3, type := 4, pos := "law.go:333", after := #[{ on := 1, ground := Ground.data }], guard := none }) (v := ?_) rfl (by kernel_rfl) (by kernel_rfl) (by kernel_rfl) (fun _ _ _ h => h) (Or.inl ⟨by rfl, ?_⟩) (by assumption) ?_
     rotate_left
     ·intro w' hSw
      (try dsimp only at hSw)
      go_simp <;> with_reducible rfl
     try simp only [Act.put, List.setIfInBounds_toArray, List.set_cons_zero, List.set_cons_succ]
     refine wpAnyH_take (i := 3) (oi := { dst := some 90, op := Op.move (Operand.tmp 89), type := 4, pos := "law.go:333", after := #[{ on := 2, ground := Ground.data }], guard := none }) (v := ?_) rfl (by kernel_rfl) (by kernel_rfl) (by kernel_rfl) (fun _ _ _ h => h) (Or.inl ⟨by rfl, ?_⟩) (by assumption) ?_
     rotate_left
     ·intro w' hSw
      (try dsimp only at hSw)
      go_simp <;> with_reducible rfl
     try simp only [Act.put, List.setIfInBounds_toArray, List.set_cons_zero, List.set_cons_succ]
     refine wpAnyH_take (i := 4) (oi := { dst := some 91, op := Op.fieldAddr 26 (Operand.tmp 4) 1, type := 0, pos := "law.go:333", after := #[{ on := 3, ground := Ground.guard }], guard := some (3, true) }) (v := undef) rfl (by kernel_rfl) (by kernel_rfl) (by kernel_rfl) (fun _ _ _ h => h) (Or.inr ⟨by rfl, rfl⟩) (by assumption) ?_
     try simp only [Act.put, List.setIfInBounds_toArray, List.set_cons_zero, List.set_cons_succ]
     refine wpAnyH_take (i := 5) (oi := { dst := some 92, op := Op.load 4 (Operand.tmp 91), type := 4, pos := "law.go:333", after := #[{ on := 4, ground := Ground.data }, { on := 3, ground := Ground.guard }], guard := some (3, true) }) (v := undef) rfl (by kernel_rfl) (by kernel_rfl) (by kernel_rfl) (fun _ _ _ h => h) (Or.inr ⟨by rfl, rfl⟩) (by assumption) ?_
     try simp only [Act.put, List.setIfInBounds_toArray, List.set_cons_zero, List.set_cons_succ]
     refine wpAnyH_take (i := 6) (oi := { dst := some 93, op := Op.pick (Operand.tmp 90) (Operand.tmp 92) (Operand.const (Value.bool false)), type := 4, pos := "law.go:333", after := #[{ on := 3, ground := Ground.data }, { on := 5, ground := Ground.data }], guard := none }) (v := ?_) rfl (by kernel_rfl) (by kernel_rfl) (by kernel_rfl) (fun _ _ _ h => h) (Or.inl ⟨by rfl, ?_⟩) (by assumption) ?_
     rotate_left
     ·intro w' hSw
      (try dsimp only at hSw)
      go_simp <;> with_reducible rfl
     try simp only [Act.put, List.setIfInBounds_toArray, List.set_cons_zero, List.set_cons_succ]
     refine wpAnyH_take (i := 7) (oi := { dst := some 94, op := Op.move (Operand.tmp 93), type := 4, pos := "law.go:333", after := #[{ on := 6, ground := Ground.data }, { on := 3, ground := Ground.chain }], guard := none }) (v := ?_) rfl (by kernel_rfl) (by kernel_rfl) (by kernel_rfl) (fun _ _ _ h => h) (Or.inl ⟨by rfl, ?_⟩) (by assumption) ?_
     rotate_left
     ·intro w' hSw
      (try dsimp only at hSw)
      go_simp <;> with_reducible rfl
     try simp only [Act.put, List.setIfInBounds_toArray, List.set_cons_zero, List.set_cons_succ]
     refine wpAnyH_take (i := 8) (oi := { dst := some 95, op := Op.load 29 (Operand.tmp 8), type := 29, pos := "law.go:333", after := #[{ on := 7, ground := Ground.guard }], guard := some (7, true) }) (v := undef) rfl (by kernel_rfl) (by kernel_rfl) (by kernel_rfl) (fun _ _ _ h => h) (Or.inr ⟨by rfl, rfl⟩) (by assumption) ?_
     try simp only [Act.put, List.setIfInBounds_toArray, List.set_cons_zero, List.set_cons_succ]
     refine wpAnyH_take (i := 9) (oi := { dst := some 96, op := Op.fieldAddr 57 (Operand.tmp 1) 2, type := 0, pos := "law.go:333", after := #[{ on := 7, ground := Ground.guard }], guard := some (7, true) }) (v := undef) rfl (by kernel_rfl) (by kernel_rfl) (by kernel_rfl) (fun _ _ _ h => h) (Or.inr ⟨by rfl, rfl⟩) (by assumption) ?_
     try simp only [Act.put, List.setIfInBounds_toArray, List.set_cons_zero, List.set_cons_succ]
     refine wpAnyH_take (i := 10) (oi := { dst := some 97, op := Op.load 29 (Operand.tmp 96), type := 29, pos := "law.go:333", after := #[{ on := 9, ground := Ground.data }, { on := 7, ground := Ground.guard }], guard := some (7, true) }) (v := undef) rfl (by kernel_rfl) (by kernel_rfl) (by kernel_rfl) (fun _ _ _ h => h) (Or.inr ⟨by rfl, rfl⟩) (by assumption) ?_
     try simp only [Act.put, List.setIfInBounds_toArray, List.set_cons_zero, List.set_cons_succ]
     refine wpAnyH_take (i := 11) (oi := { dst := some 98, op := Op.binOp BinOp.neq 29 (Operand.tmp 95) (Operand.tmp 97) 29, type := 4, pos := "law.go:333", after := #[{ on := 8, ground := Ground.data }, { on := 10, ground := Ground.data }, { on := 7, ground := Ground.guard }], guard := some (7, true) }) (v := undef) rfl (by kernel_rfl) (by kernel_rfl) (by kernel_rfl) (fun _ _ _ h => h) (Or.inr ⟨by rfl, rfl⟩) (by assumption) ?_
     try simp only [Act.put, List.setIfInBounds_toArray, List.set_cons_zero, List.set_cons_succ]
     refine wpAnyH_take (i := 12) (oi := { dst := some 99, op := Op.pick (Operand.tmp 94) (Operand.tmp 98) (Operand.const (Value.bool false)), type := 4, pos := "law.go:333", after := #[{ on := 7, ground := Ground.data }, { on := 11, ground := Ground.data }], guard := none }) (v := ?_) rfl (by kernel_rfl) (by kernel_rfl) (by kernel_rfl) (fun _ _ _ h => h) (Or.inl ⟨by rfl, ?_⟩) (by assumption) ?_
     rotate_left
     ·intro w' hSw
      (try dsimp only at hSw)
      go_simp <;> with_reducible rfl
     try simp only [Act.put, List.setIfInBounds_toArray, List.set_cons_zero, List.set_cons_succ]
     refine wpAnyH_take (i := 13) (oi := { dst := some 100, op := Op.move (Operand.tmp 99), type := 4, pos := "law.go:333", after := #[{ on := 12, ground := Ground.data }, { on := 7, ground := Ground.chain }], guard := none }) (v := ?_) rfl (by kernel_rfl) (by kernel_rfl) (by kernel_rfl) (fun _ _ _ h => h) (Or.inl ⟨by rfl, ?_⟩) (by assumption) ?_
     rotate_left
     ·intro w' hSw
      (try dsimp only at hSw)
      go_simp <;> with_reducible rfl
     try simp only [Act.put, List.setIfInBounds_toArray, List.set_cons_zero, List.set_cons_succ]
     refine wpAnyH_take (i := 14) (oi := { dst := some 101, op := Op.fieldAddr 26 (Operand.tmp 4) 0, type := 0, pos := "law.go:333", after := #[{ on := 13, ground := Ground.guard }], guard := some (13, false) }) (v := ?_) rfl (by kernel_rfl) (by kernel_rfl) (by kernel_rfl) (fun _ _ _ h => h) (Or.inl ⟨by rfl, ?_⟩) (by assumption) ?_
     rotate_left
     ·intro w' hSw
      (try dsimp only at hSw)
      go_simp <;> with_reducible rfl
     try simp only [Act.put, List.setIfInBounds_toArray, List.set_cons_zero, List.set_cons_succ]
     refine wpAnyH_take (i := 15) (oi := { dst := some 102, op := Op.load 3 (Operand.tmp 101), type := 3, pos := "law.go:333", after := #[{ on := 14, ground := Ground.data }, { on := 13, ground := Ground.guard }], guard := some (13, false) }) (v := ?_) rfl (by kernel_rfl) (by kernel_rfl) (by kernel_rfl) (fun _ _ _ h => h) (Or.inl ⟨by rfl, ?_⟩) (by assumption) ?_
     rotate_left
     ·intro w' hSw
      (try dsimp only at hSw)
      go_simp <;> with_reducible rfl
     try simp only [Act.put, List.setIfInBounds_toArray, List.set_cons_zero, List.set_cons_succ]
     refine wpAnyH_take (i := 16) (oi := { dst := some 103, op := Op.binOp BinOp.eql 3 (Operand.tmp 102) (Operand.const (Value.int IntKind.i64 3)) 3, type := 4, pos := "law.go:333", after := #[{ on := 15, ground := Ground.data }, { on := 13, ground := Ground.guard }], guard := some (13, false) }) (v := ?_) rfl (by kernel_rfl) (by kernel_rfl) (by kernel_rfl) (fun _ _ _ h => h) (Or.inl ⟨by rfl, ?_⟩) (by assumption) ?_
     rotate_left
     ·intro w' hSw
      (try dsimp only at hSw)
      go_simp <;> with_reducible rfl
     try simp only [Act.put, List.setIfInBounds_toArray, List.set_cons_zero, List.set_cons_succ]
     refine wpAnyH_take (i := 17) (oi := { dst := some 104, op := Op.move (Operand.tmp 103), type := 4, pos := "law.go:333", after := #[{ on := 16, ground := Ground.data }, { on := 13, ground := Ground.chain }, { on := 13, ground := Ground.guard }], guard := some (13, false) }) (v := ?_) rfl (by kernel_rfl) (by kernel_rfl) (by kernel_rfl) (fun _ _ _ h => h) (Or.inl ⟨by rfl, ?_⟩) (by assumption) ?_
     rotate_left
     ·intro w' hSw
      (try dsimp only at hSw)
      go_simp <;> with_reducible rfl
     try simp only [Act.put, List.setIfInBounds_toArray, List.set_cons_zero, List.set_cons_succ]
     refine wpAnyH_take (i := 18) (oi := { dst := some 105, op := Op.fieldAddr 26 (Operand.tmp 4) 1, type := 0, pos := "law.go:333", after := #[{ on := 17, ground := Ground.guard }], guard := some (17, true) }) (v := undef) rfl (by kernel_rfl) (by kernel_rfl) (by kernel_rfl) (fun _ _ _ h => h) (Or.inr ⟨by rfl, rfl⟩) (by assumption) ?_
     try simp only [Act.put, List.setIfInBounds_toArray, List.set_cons_zero, List.set_cons_succ]
     refine wpAnyH_take (i := 19) (oi := { dst := some 106, op := Op.load 4 (Operand.tmp 105), type := 4, pos := "law.go:333", after := #[{ on := 18, ground := Ground.data }, { on := 17, ground := Ground.guard }], guard := some (17, true) }) (v := undef) rfl (by kernel_rfl) (by kernel_rfl) (by kernel_rfl) (fun _ _ _ h => h) (Or.inr ⟨by rfl, rfl⟩) (by assumption) ?_
     try simp only [Act.put, List.setIfInBounds_toArray, List.set_cons_zero, List.set_cons_succ]
     refine wpAnyH_take (i := 20) (oi := { dst := some 107, op := Op.unOp UnOp.not 4 (Operand.tmp 106), type := 4, pos := "law.go:333", after := #[{ on := 19, ground := Ground.data }, { on := 17, ground := Ground.guard }], guard := some (17, true) }) (v := undef) rfl (by kernel_rfl) (by kernel_rfl) (by kernel_rfl) (fun _ _ _ h => h) (Or.inr ⟨by rfl, rfl⟩) (by assumption) ?_
     try simp only [Act.put, List.setIfInBounds_toArray, List.set_cons_zero, List.set_cons_succ]
     refine wpAnyH_take (i := 21) (oi := { dst := some 108, op := Op.pick (Operand.tmp 104) (Operand.tmp 107) (Operand.const (Value.bool false)), type := 4, pos := "law.go:333", after := #[{ on := 17, ground := Ground.data }, { on := 20, ground := Ground.data }, { on := 13, ground := Ground.guard }], guard := some (13, false) }) (v := ?_) rfl (by kernel_rfl) (by kernel_rfl) (by kernel_rfl) (fun _ _ _ h => h) (Or.inl ⟨by rfl, ?_⟩) (by assumption) ?_
     rotate_left
     ·intro w' hSw
      (try dsimp only at hSw)
      go_simp <;> with_reducible rfl
     try simp only [Act.put, List.setIfInBounds_toArray, List.set_cons_zero, List.set_cons_succ]
     refine wpAnyH_take (i := 22) (oi := { dst := some 109, op := Op.load 29 (Operand.tmp 7), type := 29, pos := "law.go:333", after := #[{ on := 13, ground := Ground.guard }], guard := some (13, false) }) (v := ?_) rfl (by kernel_rfl) (by kernel_rfl) (by kernel_rfl) (fun _ _ _ h => h) (Or.inl ⟨by rfl, ?_⟩) (by assumption) ?_
     rotate_left
     ·intro w' hSw
      (try dsimp only at hSw)
      go_simp <;> with_reducible rfl
     try simp only [Act.put, List.setIfInBounds_toArray, List.set_cons_zero, List.set_cons_succ]
     refine wpAnyH_take (i := 23) (oi := { dst := some 110, op := Op.fieldAddr 57 (Operand.tmp 1) 2, type := 0, pos := "law.go:333", after := #[{ on := 13, ground := Ground.guard }], guard := some (13, false) }) (v := ?_) rfl (by kernel_rfl) (by kernel_rfl) (by kernel_rfl) (fun _ _ _ h => h) (Or.inl ⟨by rfl, ?_⟩) (by assumption) ?_
     rotate_left
     ·intro w' hSw
      (try dsimp only at hSw)
      go_simp <;> with_reducible rfl
     try simp only [Act.put, List.setIfInBounds_toArray, List.set_cons_zero, List.set_cons_succ]
     refine wpAnyH_take (i := 24) (oi := { dst := some 111, op := Op.load 29 (Operand.tmp 110), type := 29, pos := "law.go:333", after := #[{ on := 23, ground := Ground.data }, { on := 13, ground := Ground.guard }], guard := some (13, false) }) (v := ?_) rfl (by kernel_rfl) (by kernel_rfl) (by kernel_rfl) (fun _ _ _ h => h) (Or.inl ⟨by rfl, ?_⟩) (by assumption) ?_
     rotate_left
     ·intro w' hSw
      (try dsimp only at hSw)
      go_simp <;> with_reducible rfl
     try simp only [Act.put, List.setIfInBounds_toArray, List.set_cons_zero, List.set_cons_succ]
     refine wpAnyH_take (i := 25) (oi := { dst := some 112, op := Op.binOp BinOp.eql 29 (Operand.tmp 109) (Operand.tmp 111) 29, type := 4, pos := "law.go:333", after := #[{ on := 22, ground := Ground.data }, { on := 24, ground := Ground.data }, { on := 13, ground := Ground.guard }], guard := some (13, false) }) (v := ?_) rfl (by kernel_rfl) (by kernel_rfl) (by kernel_rfl) (fun _ _ _ h => h) (Or.inl ⟨by rfl, ?_⟩) (by assumption) ?_
     rotate_left
     ·intro w' hSw
      (try dsimp only at hSw)
      go_simp <;> with_reducible rfl
     try simp only [Act.put, List.setIfInBounds_toArray, List.set_cons_zero, List.set_cons_succ]
     refine wpAnyH_take (i := 26) (oi := { dst := some 113, op := Op.binOp BinOp.neq 4 (Operand.tmp 108) (Operand.tmp 112) 4, type := 4, pos := "law.go:333", after := #[{ on := 21, ground := Ground.data }, { on := 25, ground := Ground.data }, { on := 13, ground := Ground.guard }], guard := some (13, false) }) (v := ?_) rfl (by kernel_rfl) (by kernel_rfl) (by kernel_rfl) (fun _ _ _ h => h) (Or.inl ⟨by rfl, ?_⟩) (by assumption) ?_
     rotate_left
     ·intro w' hSw
      (try dsimp only at hSw)
      go_simp <;> with_reducible rfl
     try simp only [Act.put, List.setIfInBounds_toArray, List.set_cons_zero, List.set_cons_succ]
     refine wpAnyH_take (i := 27) (oi := { dst := some 114, op := Op.pick (Operand.tmp 100) (Operand.const (Value.bool true)) (Operand.tmp 113), type := 4, pos := "law.go:333", after := #[{ on := 13, ground := Ground.data }, { on := 26, ground := Ground.data }], guard := none }) (v := ?_) rfl (by kernel_rfl) (by kernel_rfl) (by kernel_rfl) (fun _ _ _ h => h) (Or.inl ⟨by rfl, ?_⟩) (by assumption) ?_
     rotate_left
     ·intro w' hSw
      (try dsimp only at hSw)
      go_simp <;> with_reducible rfl
     try simp only [Act.put, List.setIfInBounds_toArray, List.set_cons_zero, List.set_cons_succ]
     refine wpAnyH_done (by kernel_rfl) ?_ _
     clear HS hHeld
     go_wp2_with fail
     go_meet
     exact ⟨rfl, hid hb0⟩
   ·as_aux_lemma =>
     have hq : ¬ ((u0 : Nat) : Int) = (i0 : Int) := by omega
     clear h
     have HS : Hid (∀ w', Ext wd w' → w'.cell? ⟨w2.heap.size, 0, none⟩ = some (.int .i64 3) ∧ w'.cell? ⟨w2.heap.size, 1, none⟩ = some (.bool true) ∧ w'.cell? ⟨w2.heap.size, 2, none⟩ = some (.string S) ∧ w'.cell? ⟨w8.heap.size, 0, none⟩ = some (.int .u64 (i0 : Nat)) ∧ w'.cell? ⟨w8.heap.size, 1, none⟩ = some (.int .u64 (i1 : Nat)) ∧ w'.cell? ⟨w6.heap.size, 0, none⟩ = some (.int .u64 (u0 : Nat)) ∧ w'.cell? ⟨w6.heap.size, 1, none⟩ = some (.int .u64 (u1 : Nat)) ∧ w'.cell? ⟨w.heap.size, 0, none⟩ = some (.int .i64 E) ∧ w'.cell? ⟨w.heap.size, 1, none⟩ = some (.int .i64 P) ∧ w'.cell? ⟨w.heap.size, 2, none⟩ = some (.int .i64 M) ∧ w'.cell? ⟨w.heap.size, 3, none⟩ = some (.int .u64 (i0 : Nat)) ∧ w'.cell? ⟨w.heap.size, 4, none⟩ = some (.int .u64 (i1 : Nat)) ∧ w'.cell? ⟨w.heap.size, 5, none⟩ = some (.int .u64 (j0 : Nat)) ∧ w'.cell? ⟨w.heap.size, 6, none⟩ = some (.int .u64 (j1 : Nat)) ∧ w'.cell? ⟨w.heap.size, 7, none⟩ = some (.int .u64 c0) ∧ w'.cell? ⟨w.heap.size, 8, none⟩ = some (.int .u64 c1)) := hid fun w' h => ⟨(HB_V.out.ext h).cell 0, (HB_V.out.ext h).cell 1, (HB_V.out.ext h).cell 2, (HB_B.out.ext h).cell 0, (HB_B.out.ext h).cell 1, (HB_U.out.ext h).cell 0, (HB_U.out.ext h).cell 1, (HB_O.out.ext h).cell 0, (HB_O.out.ext h).cell 1, (HB_O.out.ext h).cell 2, (HB_O.out.ext h).cell 3, (HB_O.out.ext h).cell 4, (HB_O.out.ext h).cell 5, (HB_O.out.ext h).cell 6, (HB_O.out.ext h).cell 7, (HB_O.out.ext h).cell 8⟩
     have hb0 : Ext wd wd.drew := Below.drew (Below.refl _ wd)
     refine wp_region_held_drew (S := fun w' => w'.cell? ⟨w2.heap.size, 0, none⟩ = some (.int .i64 3) ∧ w'.cell? ⟨w2.heap.size, 1, none⟩ = some (.bool true) ∧ w'.cell? ⟨w2.heap.size, 2, none⟩ = some (.string S) ∧ w'.cell? ⟨w8.heap.size, 0, none⟩ = some (.int .u64 (i0 : Nat)) ∧ w'.cell? ⟨w8.heap.size, 1, none⟩ = some (.int .u64 (i1 : Nat)) ∧ w'.cell? ⟨w6.heap.size, 0, none⟩ = some (.int .u64 (u0 : Nat)) ∧ w'.cell? ⟨w6.heap.size, 1, none⟩ = some (.int .u64 (u1 : Nat)) ∧ w'.cell? ⟨w.heap.size, 0, none⟩ = some (.int .i64 E) ∧ w'.cell? ⟨w.heap.size, 1, none⟩ = some (.int .i64 P) ∧ w'.cell? ⟨w.heap.size, 2, none⟩ = some (.int .i64 M) ∧ w'.cell? ⟨w.heap.size, 3, none⟩ = some (.int .u64 (i0 : Nat)) ∧ w'.cell? ⟨w.heap.size, 4, none⟩ = some (.int .u64 (i1 : Nat)) ∧ w'.cell? ⟨w.heap.size, 5, none⟩ = some (.int .u64 (j0 : Nat)) ∧ w'.cell? ⟨w.heap.size, 6, none⟩ = some (.int .u64 (j1 : Nat)) ∧ w'.cell? ⟨w.heap.size, 7, none⟩ = some (.int .u64 c0) ∧ w'.cell? ⟨w.heap.size, 8, none⟩ = some (.int .u64 c1)) (by kernel_rfl) (HS.out _ hb0) (fun hHeld => ?_)
     refine wpAnyH_take (i := 0) (oi := { dst := some 87, op := Op.fieldAddr 26 (Operand.tmp 4) 0, type := 0, pos := "law.go:333", after := #[], guard := none }) (v := ?_) rfl (by kernel_rfl) (by kernel_rfl) (by kernel_rfl) (fun _ _ _ h => h) (Or.inl ⟨by rfl, ?_⟩) (by assumption) ?_
     rotate_left
     ·intro w' hSw
      (try dsimp only at hSw)
      go_simp <;> with_reducible rfl
     try simp only [Act.put, List.setIfInBounds_toArray, List.set_cons_zero, List.set_cons_succ]
     refine wpAnyH_take (i := 1) (oi := { dst := some 88, op := Op.load 3 (Operand.tmp 87), type := 3, pos := "law.go:333", after := #[{ on := 0, ground := Ground.data }], guard := none }) (v := ?_) rfl (by kernel_rfl) (by kernel_rfl) (by kernel_rfl) (fun _ _ _ h => h) (Or.inl ⟨by rfl, ?_⟩) (by assumption) ?_
     rotate_left
     ·intro w' hSw
      (try dsimp only at hSw)
      go_simp <;> with_reducible rfl
     try simp only [Act.put, List.setIfInBounds_toArray, List.set_cons_zero, List.set_cons_succ]
     refine wpAnyH_take (i := 2) (oi := { dst := some 89, op := Op.binOp BinOp.eql 3 (Operand.tmp 88) (Operand.const (Value.int IntKind.i64 3)) 3, type := 4, pos := "law.go:333", after := #[{ on := 1, ground := Ground.data }], guard := none }) (v := ?_) rfl (by kernel_rfl) (by kernel_rfl) (by kernel_rfl) (fun _ _ _ h => h) (Or.inl ⟨by rfl, ?_⟩) (by assumption) ?_
     rotate_left
     ·intro w' hSw
      (try dsimp only at hSw)
      go_simp <;> with_reducible rfl
     try simp only [Act.put, List.setIfInBounds_toArray, List.set_cons_zero, List.set_cons_succ]
     refine wpAnyH_take (i := 3) (oi := { dst := some 90, op := Op.move (Operand.tmp 89), type := 4, pos := "law.go:333", after := #[{ on := 2, ground := Ground.data }], guard := none }) (v := ?_) rfl (by kernel_rfl) (by kernel_rfl) (by kernel_rfl) (fun _ _ _ h => h) (Or.inl ⟨by rfl, ?_⟩) (by assumption) ?_
     rotate_left
     ·intro w' hSw
      (try dsimp only at hSw)
      go_simp <;> with_reducible rfl
     try simp only [Act.put, List.setIfInBounds_toArray, List.set_cons_zero, List.set_cons_succ]
     refine wpAnyH_take (i := 4) (oi := { dst := some 91, op := Op.fieldAddr 26 (Operand.tmp 4) 1, type := 0, pos := "law.go:333", after := #[{ on := 3, ground := Ground.guard }], guard := some (3, true) }) (v := ?_) rfl (by kernel_rfl) (by kernel_rfl) (by kernel_rfl) (fun _ _ _ h => h) (Or.inl ⟨by rfl, ?_⟩) (by assumption) ?_
     rotate_left
     ·intro w' hSw
      (try dsimp only at hSw)
      go_simp <;> with_reducible rfl
     try simp only [Act.put, List.setIfInBounds_toArray, List.set_cons_zero, List.set_cons_succ]
     refine wpAnyH_take (i := 5) (oi := { dst := some 92, op := Op.load 4 (Operand.tmp 91), type := 4, pos := "law.go:333", after := #[{ on := 4, ground := Ground.data }, { on := 3, ground := Ground.guard }], guard := some (3, true) }) (v := ?_) rfl (by kernel_rfl) (by kernel_rfl) (by kernel_rfl) (fun _ _ _ h => h) (Or.inl ⟨by rfl, ?_⟩) (by assumption) ?_
     rotate_left
     ·intro w' hSw
      (try dsimp only at hSw)
      go_simp <;> with_reducible rfl
     try simp only [Act.put, List.setIfInBounds_toArray, List.set_cons_zero, List.set_cons_succ]
     refine wpAnyH_take (i := 6) (oi := { dst := some 93, op := Op.pick (Operand.tmp 90) (Operand.tmp 92) (Operand.const (Value.bool false)), type := 4, pos := "law.go:333", after := #[{ on := 3, ground := Ground.data }, { on := 5, ground := Ground.data }], guard := none }) (v := ?_) rfl (by kernel_rfl) (by kernel_rfl) (by kernel_rfl) (fun _ _ _ h => h) (Or.inl ⟨by rfl, ?_⟩) (by assumption) ?_
     rotate_left
     ·intro w' hSw
      (try dsimp only at hSw)
      go_simp <;> with_reducible rfl
     try simp only [Act.put, List.setIfInBounds_toArray, List.set_cons_zero, List.set_cons_succ]
     refine wpAnyH_take (i := 7) (oi := { dst := some 94, op := Op.move (Operand.tmp 93), type := 4, pos := "law.go:333", after := #[{ on := 6, ground := Ground.data }, { on := 3, ground := Ground.chain }], guard := none }) (v := ?_) rfl (by kernel_rfl) (by kernel_rfl) (by kernel_rfl) (fun _ _ _ h => h) (Or.inl ⟨by rfl, ?_⟩) (by assumption) ?_
     rotate_left
     ·intro w' hSw
      (try dsimp only at hSw)
      go_simp <;> with_reducible rfl
     try simp only [Act.put, List.setIfInBounds_toArray, List.set_cons_zero, List.set_cons_succ]
     refine wpAnyH_take (i := 8) (oi := { dst := some 95, op := Op.load 29 (Operand.tmp 8), type := 29, pos := "law.go:333", after := #[{ on := 7, ground := Ground.guard }], guard := some (7, true) }) (v := ?_) rfl (by kernel_rfl) (by kernel_rfl) (by kernel_rfl) (fun _ _ _ h => h) (Or.inl ⟨by rfl, ?_⟩) (by assumption) ?_
     rotate_left
     ·intro w' hSw
      (try dsimp only at hSw)
      go_simp <;> with_reducible rfl
     try simp only [Act.put, List.setIfInBounds_toArray, List.set_cons_zero, List.set_cons_succ]
     refine wpAnyH_take (i := 9) (oi := { dst := some 96, op := Op.fieldAddr 57 (Operand.tmp 1) 2, type := 0, pos := "law.go:333", after := #[{ on := 7, ground := Ground.guard }], guard := some (7, true) }) (v := ?_) rfl (by kernel_rfl) (by kernel_rfl) (by kernel_rfl) (fun _ _ _ h => h) (Or.inl ⟨by rfl, ?_⟩) (by assumption) ?_
     rotate_left
     ·intro w' hSw
      (try dsimp only at hSw)
      go_simp <;> with_reducible rfl
     try simp only [Act.put, List.setIfInBounds_toArray, List.set_cons_zero, List.set_cons_succ]
     refine wpAnyH_take (i := 10) (oi := { dst := some 97, op := Op.load 29 (Operand.tmp 96), type := 29, pos := "law.go:333", after := #[{ on := 9, ground := Ground.data }, { on := 7, ground := Ground.guard }], guard := some (7, true) }) (v := ?_) rfl (by kernel_rfl) (by kernel_rfl) (by kernel_rfl) (fun _ _ _ h => h) (Or.inl ⟨by rfl, ?_⟩) (by assumption) ?_
     rotate_left
     ·intro w' hSw
      (try dsimp only at hSw)
      go_simp <;> with_reducible rfl
     try simp only [Act.put, List.setIfInBounds_toArray, List.set_cons_zero, List.set_cons_succ]
     refine wpAnyH_take (i := 11) (oi := { dst := some 98, op := Op.binOp BinOp.neq 29 (Operand.tmp 95) (Operand.tmp 97) 29, type := 4, pos := "law.go:333", after := #[{ on := 8, ground := Ground.data }, { on := 10, ground := Ground.data }, { on := 7, ground := Ground.guard }], guard := some (7, true) }) (v := ?_) rfl (by kernel_rfl) (by kernel_rfl) (by kernel_rfl) (fun _ _ _ h => h) (Or.inl ⟨by rfl, ?_⟩) (by assumption) ?_
     rotate_left
     ·intro w' hSw
      (try dsimp only at hSw)
      go_simp <;> with_reducible rfl
     try simp only [Act.put, List.setIfInBounds_toArray, List.set_cons_zero, List.set_cons_succ]
     refine wpAnyH_take (i := 12) (oi := { dst := some 99, op := Op.pick (Operand.tmp 94) (Operand.tmp 98) (Operand.const (Value.bool false)), type := 4, pos := "law.go:333", after := #[{ on := 7, ground := Ground.data }, { on := 11, ground := Ground.data }], guard := none }) (v := ?_) rfl (by kernel_rfl) (by kernel_rfl) (by kernel_rfl) (fun _ _ _ h => h) (Or.inl ⟨by rfl, ?_⟩) (by assumption) ?_
     rotate_left
     ·intro w' hSw
      (try dsimp only at hSw)
      go_simp <;> with_reducible rfl
     try simp only [Act.put, List.setIfInBounds_toArray, List.set_cons_zero, List.set_cons_succ]
     refine wpAnyH_take (i := 13) (oi := { dst := some 100, op := Op.move (Operand.tmp 99), type := 4, pos := "law.go:333", after := #[{ on := 12, ground := Ground.data }, { on := 7, ground := Ground.chain }], guard := none }) (v := ?_) rfl (by kernel_rfl) (by kernel_rfl) (by kernel_rfl) (fun _ _ _ h => h) (Or.inl ⟨by rfl, ?_⟩) (by assumption) ?_
     rotate_left
     ·intro w' hSw
      (try dsimp only at hSw)
      go_simp <;> with_reducible rfl
     try simp only [Act.put, List.setIfInBounds_toArray, List.set_cons_zero, List.set_cons_succ]
     refine wpAnyH_take (i := 14) (oi := { dst := some 101, op := Op.fieldAddr 26 (Operand.tmp 4) 0, type := 0, pos := "law.go:333", after := #[{ on := 13, ground := Ground.guard }], guard := some (13, false) }) (v := ?_) rfl (by kernel_rfl) (by kernel_rfl) (by kernel_rfl) (fun _ _ _ h => h) (Or.inl ⟨by rfl, ?_⟩) (by assumption) ?_
     rotate_left
     ·intro w' hSw
      (try dsimp only at hSw)
      go_simp <;> with_reducible rfl
     try simp only [Act.put, List.setIfInBounds_toArray, List.set_cons_zero, List.set_cons_succ]
     refine wpAnyH_take (i := 15) (oi := { dst := some 102, op := Op.load 3 (Operand.tmp 101), type := 3, pos := "law.go:333", after := #[{ on := 14, ground := Ground.data }, { on := 13, ground := Ground.guard }], guard := some (13, false) }) (v := ?_) rfl (by kernel_rfl) (by kernel_rfl) (by kernel_rfl) (fun _ _ _ h => h) (Or.inl ⟨by rfl, ?_⟩) (by assumption) ?_
     rotate_left
     ·intro w' hSw
      (try dsimp only at hSw)
      go_simp <;> with_reducible rfl
     try simp only [Act.put, List.setIfInBounds_toArray, List.set_cons_zero, List.set_cons_succ]
     refine wpAnyH_take (i := 16) (oi := { dst := some 103, op := Op.binOp BinOp.eql 3 (Operand.tmp 102) (Operand.const (Value.int IntKind.i64 3)) 3, type := 4, pos := "law.go:333", after := #[{ on := 15, ground := Ground.data }, { on := 13, ground := Ground.guard }], guard := some (13, false) }) (v := ?_) rfl (by kernel_rfl) (by kernel_rfl) (by kernel_rfl) (fun _ _ _ h => h) (Or.inl ⟨by rfl, ?_⟩) (by assumption) ?_
     rotate_left
     ·intro w' hSw
      (try dsimp only at hSw)
      go_simp <;> with_reducible rfl
     try simp only [Act.put, List.setIfInBounds_toArray, List.set_cons_zero, List.set_cons_succ]
     refine wpAnyH_take (i := 17) (oi := { dst := some 104, op := Op.move (Operand.tmp 103), type := 4, pos := "law.go:333", after := #[{ on := 16, ground := Ground.data }, { on := 13, ground := Ground.chain }, { on := 13, ground := Ground.guard }], guard := some (13, false) }) (v := ?_) rfl (by kernel_rfl) (by kernel_rfl) (by kernel_rfl) (fun _ _ _ h => h) (Or.inl ⟨by rfl, ?_⟩) (by assumption) ?_
     rotate_left
     ·intro w' hSw
      (try dsimp only at hSw)
      go_simp <;> with_reducible rfl
     try simp only [Act.put, List.setIfInBounds_toArray, List.set_cons_zero, List.set_cons_succ]
     refine wpAnyH_take (i := 18) (oi := { dst := some 105, op := Op.fieldAddr 26 (Operand.tmp 4) 1, type := 0, pos := "law.go:333", after := #[{ on := 17, ground := Ground.guard }], guard := some (17, true) }) (v := ?_) rfl (by kernel_rfl) (by kernel_rfl) (by kernel_rfl) (fun _ _ _ h => h) (Or.inl ⟨by rfl, ?_⟩) (by assumption) ?_
     rotate_left
     ·intro w' hSw
      (try dsimp only at hSw)
      go_simp <;> with_reducible rfl
     try simp only [Act.put, List.setIfInBounds_toArray, List.set_cons_zero, List.set_cons_succ]
     refine wpAnyH_take (i := 19) (oi := { dst := some 106, op := Op.load 4 (Operand.tmp 105), type := 4, pos := "law.go:333", after := #[{ on := 18, ground := Ground.data }, { on := 17, ground := Ground.guard }], guard := some (17, true) }) (v := ?_) rfl (by kernel_rfl) (by kernel_rfl) (by kernel_rfl) (fun _ _ _ h => h) (Or.inl ⟨by rfl, ?_⟩) (by assumption) ?_
     rotate_left
     ·intro w' hSw
      (try dsimp only at hSw)
      go_simp <;> with_reducible rfl
     try simp only [Act.put, List.setIfInBounds_toArray, List.set_cons_zero, List.set_cons_succ]
     refine wpAnyH_take (i := 20) (oi := { dst := some 107, op := Op.unOp UnOp.not 4 (Operand.tmp 106), type := 4, pos := "law.go:333", after := #[{ on := 19, ground := Ground.data }, { on := 17, ground := Ground.guard }], guard := some (17, true) }) (v := ?_) rfl (by kernel_rfl) (by kernel_rfl) (by kernel_rfl) (fun _ _ _ h => h) (Or.inl ⟨by rfl, ?_⟩) (by assumption) ?_
     rotate_left
     ·intro w' hSw
      (try dsimp only at hSw)
      go_simp <;> with_reducible rfl
     try simp only [Act.put, List.setIfInBounds_toArray, List.set_cons_zero, List.set_cons_succ]
     refine wpAnyH_take (i := 21) (oi := { dst := some 108, op := Op.pick (Operand.tmp 104) (Operand.tmp 107) (Operand.const (Value.bool false)), type := 4, pos := "law.go:333", after := #[{ on := 17, ground := Ground.data }, { on := 20, ground := Ground.data }, { on := 13, ground := Ground.guard }], guard := some (13, false) }) (v := ?_) rfl (by kernel_rfl) (by kernel_rfl) (by kernel_rfl) (fun _ _ _ h => h) (Or.inl ⟨by rfl, ?_⟩) (by assumption) ?_
     rotate_left
     ·intro w' hSw
      (try dsimp only at hSw)
      go_simp <;> with_reducible rfl
     try simp only [Act.put, List.setIfInBounds_toArray, List.set_cons_zero, List.set_cons_succ]
     refine wpAnyH_take (i := 22) (oi := { dst := some 109, op := Op.load 29 (Operand.tmp 7), type := 29, pos := "law.go:333", after := #[{ on := 13, ground := Ground.guard }], guard := some (13, false) }) (v := ?_) rfl (by kernel_rfl) (by kernel_rfl) (by kernel_rfl) (fun _ _ _ h => h) (Or.inl ⟨by rfl, ?_⟩) (by assumption) ?_
     rotate_left
     ·intro w' hSw
      (try dsimp only at hSw)
      go_simp <;> with_reducible rfl
     try simp only [Act.put, List.setIfInBounds_toArray, List.set_cons_zero, List.set_cons_succ]
     refine wpAnyH_take (i := 23) (oi := { dst := some 110, op := Op.fieldAddr 57 (Operand.tmp 1) 2, type := 0, pos := "law.go:333", after := #[{ on := 13, ground := Ground.guard }], guard := some (13, false) }) (v := ?_) rfl (by kernel_rfl) (by kernel_rfl) (by kernel_rfl) (fun _ _ _ h => h) (Or.inl ⟨by rfl, ?_⟩) (by assumption) ?_
     rotate_left
     ·intro w' hSw
      (try dsimp only at hSw)
      go_simp <;> with_reducible rfl
     try simp only [Act.put, List.setIfInBounds_toArray, List.set_cons_zero, List.set_cons_succ]
     refine wpAnyH_take (i := 24) (oi := { dst := some 111, op := Op.load 29 (Operand.tmp 110), type := 29, pos := "law.go:333", after := #[{ on := 23, ground := Ground.data }, { on := 13, ground := Ground.guard }], guard := some (13, false) }) (v := ?_) rfl (by kernel_rfl) (by kernel_rfl) (by kernel_rfl) (fun _ _ _ h => h) (Or.inl ⟨by rfl, ?_⟩) (by assumption) ?_
     rotate_left
     ·intro w' hSw
      (try dsimp only at hSw)
      go_simp <;> with_reducible rfl
     try simp only [Act.put, List.setIfInBounds_toArray, List.set_cons_zero, List.set_cons_succ]
     refine wpAnyH_take (i := 25) (oi := { dst := some 112, op := Op.binOp BinOp.eql 29 (Operand.tmp 109) (Operand.tmp 111) 29, type := 4, pos := "law.go:333", after := #[{ on := 22, ground := Ground.data }, { on := 24, ground := Ground.data }, { on := 13, ground := Ground.guard }], guard := some (13, false) }) (v := ?_) rfl (by kernel_rfl) (by kernel_rfl) (by kernel_rfl) (fun _ _ _ h => h) (Or.inl ⟨by rfl, ?_⟩) (by assumption) ?_
     rotate_left
     ·intro w' hSw
      (try dsimp only at hSw)
      go_simp <;> with_reducible rfl
     try simp only [Act.put, List.setIfInBounds_toArray, List.set_cons_zero, List.set_cons_succ]
     refine wpAnyH_take (i := 26) (oi := { dst := some 113, op := Op.binOp BinOp.neq 4 (Operand.tmp 108) (Operand.tmp 112) 4, type := 4, pos := "law.go:333", after := #[{ on := 21, ground := Ground.data }, { on := 25, ground := Ground.data }, { on := 13, ground := Ground.guard }], guard := some (13, false) }) (v := ?_) rfl (by kernel_rfl) (by kernel_rfl) (by kernel_rfl) (fun _ _ _ h => h) (Or.inl ⟨by rfl, ?_⟩) (by assumption) ?_
     rotate_left
     ·intro w' hSw
      (try dsimp only at hSw)
      go_simp <;> with_reducible rfl
     try simp only [Act.put, List.setIfInBounds_toArray, List.set_cons_zero, List.set_cons_succ]
     refine wpAnyH_take (i := 27) (oi := { dst := some 114, op := Op.pick (Operand.tmp 100) (Operand.const (Value.bool true)) (Operand.tmp 113), type := 4, pos := "law.go:333", after := #[{ on := 13, ground := Ground.data }, { on := 26, ground := Ground.data }], guard := none }) (v := ?_) rfl (by kernel_rfl) (by kernel_rfl) (by kernel_rfl) (fun _ _ _ h => h) (Or.inl ⟨by rfl, ?_⟩) (by assumption) ?_
     rotate_left
     ·intro w' hSw
      (try dsimp only at hSw)
      go_simp <;> with_reducible rfl
     try simp only [Act.put, List.setIfInBounds_toArray, List.set_cons_zero, List.set_cons_succ]
     refine wpAnyH_done (by kernel_rfl) ?_ _
     clear HS hHeld
     go_wp2_with fail
     go_meet
     exact ⟨rfl, hid hb0⟩
   ·as_aux_lemma =>
     have he : ((u0 : Nat) : Int) = (i0 : Int) := by omega
     have hq : ¬ ((u1 : Nat) : Int) = (i1 : Int) := by omega
     clear h
     have HS : Hid (∀ w', Ext wd w' → w'.cell? ⟨w2.heap.size, 0, none⟩ = some (.int .i64 3) ∧ w'.cell? ⟨w2.heap.size, 1, none⟩ = some (.bool true) ∧ w'.cell? ⟨w2.heap.size, 2, none⟩ = some (.string S) ∧ w'.cell? ⟨w8.heap.size, 0, none⟩ = some (.int .u64 (i0 : Nat)) ∧ w'.cell? ⟨w8.heap.size, 1, none⟩ = some (.int .u64 (i1 : Nat)) ∧ w'.cell? ⟨w6.heap.size, 0, none⟩ = some (.int .u64 (u0 : Nat)) ∧ w'.cell? ⟨w6.heap.size, 1, none⟩ = some (.int .u64 (u1 : Nat)) ∧ w'.cell? ⟨w.heap.size, 0, none⟩ = some (.int .i64 E) ∧ w'.cell? ⟨w.heap.size, 1, none⟩ = some (.int .i64 P) ∧ w'.cell? ⟨w.heap.size, 2, none⟩ = some (.int .i64 M) ∧ w'.cell? ⟨w.heap.size, 3, none⟩ = some (.int .u64 (i0 : Nat)) ∧ w'.cell? ⟨w.heap.size, 4, none⟩ = some (.int .u64 (i1 : Nat)) ∧ w'.cell? ⟨w.heap.size, 5, none⟩ = some (.int .u64 (j0 : Nat)) ∧ w'.cell? ⟨w.heap.size, 6, none⟩ = some (.int .u64 (j1 : Nat)) ∧ w'.cell? ⟨w.heap.size, 7, none⟩ = some (.int .u64 c0) ∧ w'.cell? ⟨w.heap.size, 8, none⟩ = some (.int .u64 c1)) := hid fun w' h => ⟨(HB_V.out.ext h).cell 0, (HB_V.out.ext h).cell 1, (HB_V.out.ext h).cell 2, (HB_B.out.ext h).cell 0, (HB_B.out.ext h).cell 1, (HB_U.out.ext h).cell 0, (HB_U.out.ext h).cell 1, (HB_O.out.ext h).cell 0, (HB_O.out.ext h).cell 1, (HB_O.out.ext h).cell 2, (HB_O.out.ext h).cell 3, (HB_O.out.ext h).cell 4, (HB_O.out.ext h).cell 5, (HB_O.out.ext h).cell 6, (HB_O.out.ext h).cell 7, (HB_O.out.ext h).cell 8⟩
     have hb0 : Ext wd wd.drew := Below.drew (Below.refl _ wd)
     refine wp_region_held_drew (S := fun w' => w'.cell? ⟨w2.heap.size, 0, none⟩ = some (.int .i64 3) ∧ w'.cell? ⟨w2.heap.size, 1, none⟩ = some (.bool true) ∧ w'.cell? ⟨w2.heap.size, 2, none⟩ = some (.string S) ∧ w'.cell? ⟨w8.heap.size, 0, none⟩ = some (.int .u64 (i0 : Nat)) ∧ w'.cell? ⟨w8.heap.size, 1, none⟩ = some (.int .u64 (i1 : Nat)) ∧ w'.cell? ⟨w6.heap.size, 0, none⟩ = some (.int .u64 (u0 : Nat)) ∧ w'.cell? ⟨w6.heap.size, 1, none⟩ = some (.int .u64 (u1 : Nat)) ∧ w'.cell? ⟨w.heap.size, 0, none⟩ = some (.int .i64 E) ∧ w'.cell? ⟨w.heap.size, 1, none⟩ = some (.int .i64 P) ∧ w'.cell? ⟨w.heap.size, 2, none⟩ = some (.int .i64 M) ∧ w'.cell? ⟨w.heap.size, 3, none⟩ = some (.int .u64 (i0 : Nat)) ∧ w'.cell? ⟨w.heap.size, 4, none⟩ = some (.int .u64 (i1 : Nat)) ∧ w'.cell? ⟨w.heap.size, 5, none⟩ = some (.int .u64 (j0 : Nat)) ∧ w'.cell? ⟨w.heap.size, 6, none⟩ = some (.int .u64 (j1 : Nat)) ∧ w'.cell? ⟨w.heap.size, 7, none⟩ = some (.int .u64 c0) ∧ w'.cell? ⟨w.heap.size, 8, none⟩ = some (.int .u64 c1)) (by kernel_rfl) (HS.out _ hb0) (fun hHeld => ?_)
     refine wpAnyH_take (i := 0) (oi := { dst := some 87, op := Op.fieldAddr 26 (Operand.tmp 4) 0, type := 0, pos := "law.go:333", after := #[], guard := none }) (v := ?_) rfl (by kernel_rfl) (by kernel_rfl) (by kernel_rfl) (fun _ _ _ h => h) (Or.inl ⟨by rfl, ?_⟩) (by assumption) ?_
     rotate_left
     ·intro w' hSw
      (try dsimp only at hSw)
      go_simp <;> with_reducible rfl
     try simp only [Act.put, List.setIfInBounds_toArray, List.set_cons_zero, List.set_cons_succ]
     refine wpAnyH_take (i := 1) (oi := { dst := some 88, op := Op.load 3 (Operand.tmp 87), type := 3, pos := "law.go:333", after := #[{ on := 0, ground := Ground.data }], guard := none }) (v := ?_) rfl (by kernel_rfl) (by kernel_rfl) (by kernel_rfl) (fun _ _ _ h => h) (Or.inl ⟨by rfl, ?_⟩) (by assumption) ?_
     rotate_left
     ·intro w' hSw
      (try dsimp only at hSw)
      go_simp <;> with_reducible rfl
     try simp only [Act.put, List.setIfInBounds_toArray, List.set_cons_zero, List.set_cons_succ]
     refine wpAnyH_take (i := 2) (oi := { dst := some 89, op := Op.binOp BinOp.eql 3 (Operand.tmp 88) (Operand.const (Value.int IntKind.i64 3)) 3, type := 4, pos := "law.go:333", after := #[{ on := 1, ground := Ground.data }], guard := none }) (v := ?_) rfl (by kernel_rfl) (by kernel_rfl) (by kernel_rfl) (fun _ _ _ h => h) (Or.inl ⟨by rfl, ?_⟩) (by assumption) ?_
     rotate_left
     ·intro w' hSw
      (try dsimp only at hSw)
      go_simp <;> with_reducible rfl
     try simp only [Act.put, List.setIfInBounds_toArray, List.set_cons_zero, List.set_cons_succ]
     refine wpAnyH_take (i := 3) (oi := { dst := some 90, op := Op.move (Operand.tmp 89), type := 4, pos := "law.go:333", after := #[{ on := 2, ground := Ground.data }], guard := none }) (v := ?_) rfl (by kernel_rfl) (by kernel_rfl) (by kernel_rfl) (fun _ _ _ h => h) (Or.inl ⟨by rfl, ?_⟩) (by assumption) ?_
     rotate_left
     ·intro w' hSw
      (try dsimp only at hSw)
      go_simp <;> with_reducible rfl
     try simp only [Act.put, List.setIfInBounds_toArray, List.set_cons_zero, List.set_cons_succ]
     refine wpAnyH_take (i := 4) (oi := { dst := some 91, op := Op.fieldAddr 26 (Operand.tmp 4) 1, type := 0, pos := "law.go:333", after := #[{ on := 3, ground := Ground.guard }], guard := some (3, true) }) (v := ?_) rfl (by kernel_rfl) (by kernel_rfl) (by kernel_rfl) (fun _ _ _ h => h) (Or.inl ⟨by rfl, ?_⟩) (by assumption) ?_
     rotate_left
     ·intro w' hSw
      (try dsimp only at hSw)
      go_simp <;> with_reducible rfl
     try simp only [Act.put, List.setIfInBounds_toArray, List.set_cons_zero, List.set_cons_succ]
     refine wpAnyH_take (i := 5) (oi := { dst := some 92, op := Op.load 4 (Operand.tmp 91), type := 4, pos := "law.go:333", after := #[{ on := 4, ground := Ground.data }, { on := 3, ground := Ground.guard }], guard := some (3, true) }) (v := ?_) rfl (by kernel_rfl) (by kernel_rfl) (by kernel_rfl) (fun _ _ _ h => h) (Or.inl ⟨by rfl, ?_⟩) (by assumption) ?_
     rotate_left
     ·intro w' hSw
      (try dsimp only at hSw)
      go_simp <;> with_reducible rfl
     try simp only [Act.put, List.setIfInBounds_toArray, List.set_cons_zero, List.set_cons_succ]
     refine wpAnyH_take (i := 6) (oi := { dst := some 93, op := Op.pick (Operand.tmp 90) (Operand.tmp 92) (Operand.const (Value.bool false)), type := 4, pos := "law.go:333", after := #[{ on := 3, ground := Ground.data }, { on := 5, ground := Ground.data }], guard := none }) (v := ?_) rfl (by kernel_rfl) (by kernel_rfl) (by kernel_rfl) (fun _ _ _ h => h) (Or.inl ⟨by rfl, ?_⟩) (by assumption) ?_
     rotate_left
     ·intro w' hSw
      (try dsimp only at hSw)
      go_simp <;> with_reducible rfl
     try simp only [Act.put, List.setIfInBounds_toArray, List.set_cons_zero, List.set_cons_succ]
     refine wpAnyH_take (i := 7) (oi := { dst := some 94, op := Op.move (Operand.tmp 93), type := 4, pos := "law.go:333", after := #[{ on := 6, ground := Ground.data }, { on := 3, ground := Ground.chain }], guard := none }) (v := ?_) rfl (by kernel_rfl) (by kernel_rfl) (by kernel_rfl) (fun _ _ _ h => h) (Or.inl ⟨by rfl, ?_⟩) (by assumption) ?_
     rotate_left
     ·intro w' hSw
      (try dsimp only at hSw)
      go_simp <;> with_reducible rfl
     try simp only [Act.put, List.setIfInBounds_toArray, List.set_cons_zero, List.set_cons_succ]
     refine wpAnyH_take (i := 8) (oi := { dst := some 95, op := Op.load 29 (Operand.tmp 8), type := 29, pos := "law.go:333", after := #[{ on := 7, ground := Ground.guard }], guard := some (7, true) }) (v := ?_) rfl (by kernel_rfl) (by kernel_rfl) (by kernel_rfl) (fun _ _ _ h => h) (Or.inl ⟨by rfl, ?_⟩) (by assumption) ?_
     rotate_left
     ·intro w' hSw
      (try dsimp only at hSw)
      go_simp <;> with_reducible rfl
     try simp only [Act.put, List.setIfInBounds_toArray, List.set_cons_zero, List.set_cons_succ]
     refine wpAnyH_take (i := 9) (oi := { dst := some 96, op := Op.fieldAddr 57 (Operand.tmp 1) 2, type := 0, pos := "law.go:333", after := #[{ on := 7, ground := Ground.guard }], guard := some (7, true) }) (v := ?_) rfl (by kernel_rfl) (by kernel_rfl) (by kernel_rfl) (fun _ _ _ h => h) (Or.inl ⟨by rfl, ?_⟩) (by assumption) ?_
     rotate_left
     ·intro w' hSw
      (try dsimp only at hSw)
      go_simp <;> with_reducible rfl
     try simp only [Act.put, List.setIfInBounds_toArray, List.set_cons_zero, List.set_cons_succ]
     refine wpAnyH_take (i := 10) (oi := { dst := some 97, op := Op.load 29 (Operand.tmp 96), type := 29, pos := "law.go:333", after := #[{ on := 9, ground := Ground.data }, { on := 7, ground := Ground.guard }], guard := some (7, true) }) (v := ?_) rfl (by kernel_rfl) (by kernel_rfl) (by kernel_rfl) (fun _ _ _ h => h) (Or.inl ⟨by rfl, ?_⟩) (by assumption) ?_
     rotate_left
     ·intro w' hSw
      (try dsimp only at hSw)
      go_simp <;> with_reducible rfl
     try simp only [Act.put, List.setIfInBounds_toArray, List.set_cons_zero, List.set_cons_succ]
     refine wpAnyH_take (i := 11) (oi := { dst := some 98, op := Op.binOp BinOp.neq 29 (Operand.tmp 95) (Operand.tmp 97) 29, type := 4, pos := "law.go:333", after := #[{ on := 8, ground := Ground.data }, { on := 10, ground := Ground.data }, { on := 7, ground := Ground.guard }], guard := some (7, true) }) (v := ?_) rfl (by kernel_rfl) (by kernel_rfl) (by kernel_rfl) (fun _ _ _ h => h) (Or.inl ⟨by rfl, ?_⟩) (by assumption) ?_
     rotate_left
     ·intro w' hSw
      (try dsimp only at hSw)
      go_simp <;> with_reducible rfl
     try simp only [Act.put, List.setIfInBounds_toArray, List.set_cons_zero, List.set_cons_succ]
     refine wpAnyH_take (i := 12) (oi := { dst := some 99, op := Op.pick (Operand.tmp 94) (Operand.tmp 98) (Operand.const (Value.bool false)), type := 4, pos := "law.go:333", after := #[{ on := 7, ground := Ground.data }, { on := 11, ground := Ground.data }], guard := none }) (v := ?_) rfl (by kernel_rfl) (by kernel_rfl) (by kernel_rfl) (fun _ _ _ h => h) (Or.inl ⟨by rfl, ?_⟩) (by assumption) ?_
     rotate_left
     ·intro w' hSw
      (try dsimp only at hSw)
      go_simp <;> with_reducible rfl
     try simp only [Act.put, List.setIfInBounds_toArray, List.set_cons_zero, List.set_cons_succ]
     refine wpAnyH_take (i := 13) (oi := { dst := some 100, op := Op.move (Operand.tmp 99), type := 4, pos := "law.go:333", after := #[{ on := 12, ground := Ground.data }, { on := 7, ground := Ground.chain }], guard := none }) (v := ?_) rfl (by kernel_rfl) (by kernel_rfl) (by kernel_rfl) (fun _ _ _ h => h) (Or.inl ⟨by rfl, ?_⟩) (by assumption) ?_
     rotate_left
     ·intro w' hSw
      (try dsimp only at hSw)
      go_simp <;> with_reducible rfl
     try simp only [Act.put, List.setIfInBounds_toArray, List.set_cons_zero, List.set_cons_succ]
     refine wpAnyH_take (i := 14) (oi := { dst := some 101, op := Op.fieldAddr 26 (Operand.tmp 4) 0, type := 0, pos := "law.go:333", after := #[{ on := 13, ground := Ground.guard }], guard := some (13, false) }) (v := ?_) rfl (by kernel_rfl) (by kernel_rfl) (by kernel_rfl) (fun _ _ _ h => h) (Or.inl ⟨by rfl, ?_⟩) (by assumption) ?_
     rotate_left
     ·intro w' hSw
      (try dsimp only at hSw)
      go_simp <;> with_reducible rfl
     try simp only [Act.put, List.setIfInBounds_toArray, List.set_cons_zero, List.set_cons_succ]
     refine wpAnyH_take (i := 15) (oi := { dst := some 102, op := Op.load 3 (Operand.tmp 101), type := 3, pos := "law.go:333", after := #[{ on := 14, ground := Ground.data }, { on := 13, ground := Ground.guard }], guard := some (13, false) }) (v := ?_) rfl (by kernel_rfl) (by kernel_rfl) (by kernel_rfl) (fun _ _ _ h => h) (Or.inl ⟨by rfl, ?_⟩) (by assumption) ?_
     rotate_left
     ·intro w' hSw
      (try dsimp only at hSw)
      go_simp <;> with_reducible rfl
     try simp only [Act.put, List.setIfInBounds_toArray, List.set_cons_zero, List.set_cons_succ]
     refine wpAnyH_take (i := 16) (oi := { dst := some 103, op := Op.binOp BinOp.eql 3 (Operand.tmp 102) (Operand.const (Value.int IntKind.i64 3)) 3, type := 4, pos := "law.go:333", after := #[{ on := 15, ground := Ground.data }, { on := 13, ground := Ground.guard }], guard := some (13, false) }) (v := ?_) rfl (by kernel_rfl) (by kernel_rfl) (by kernel_rfl) (fun _ _ _ h => h) (Or.inl ⟨by rfl, ?_⟩) (by assumption) ?_
     rotate_left
     ·intro w' hSw
      (try dsimp only at hSw)
      go_simp <;> with_reducible rfl
     try simp only [Act.put, List.setIfInBounds_toArray, List.set_cons_zero, List.set_cons_succ]
     refine wpAnyH_take (i := 17) (oi := { dst := some 104, op := Op.move (Operand.tmp 103), type := 4, pos := "law.go:333", after := #[{ on := 16, ground := Ground.data }, { on := 13, ground := Ground.chain }, { on := 13, ground := Ground.guard }], guard := some (13, false) }) (v := ?_) rfl (by kernel_rfl) (by kernel_rfl) (by kernel_rfl) (fun _ _ _ h => h) (Or.inl ⟨by rfl, ?_⟩) (by assumption) ?_
     rotate_left
     ·intro w' hSw
      (try dsimp only at hSw)
      go_simp <;> with_reducible rfl
     try simp only [Act.put, List.setIfInBounds_toArray, List.set_cons_zero, List.set_cons_succ]
     refine wpAnyH_take (i := 18) (oi := { dst := some 105, op := Op.fieldAddr 26 (Operand.tmp 4) 1, type := 0, pos := "law.go:333", after := #[{ on := 17, ground := Ground.guard }], guard := some (17, true) }) (v := ?_) rfl (by kernel_rfl) (by kernel_rfl) (by kernel_rfl) (fun _ _ _ h => h) (Or.inl ⟨by rfl, ?_⟩) (by assumption) ?_
     rotate_left
     ·intro w' hSw
      (try dsimp only at hSw)
      go_simp <;> with_reducible rfl
     try simp only [Act.put, List.setIfInBounds_toArray, List.set_cons_zero, List.set_cons_succ]
     refine wpAnyH_take (i := 19) (oi := { dst := some 106, op := Op.load 4 (Operand.tmp 105), type := 4, pos := "law.go:333", after := #[{ on := 18, ground := Ground.data }, { on := 17, ground := Ground.guard }], guard := some (17, true) }) (v := ?_) rfl (by kernel_rfl) (by kernel_rfl) (by kernel_rfl) (fun _ _ _ h => h) (Or.inl ⟨by rfl, ?_⟩) (by assumption) ?_
     rotate_left
     ·intro w' hSw
      (try dsimp only at hSw)
      go_simp <;> with_reducible rfl
     try simp only [Act.put, List.setIfInBounds_toArray, List.set_cons_zero, List.set_cons_succ]
     refine wpAnyH_take (i := 20) (oi := { dst := some 107, op := Op.unOp UnOp.not 4 (Operand.tmp 106), type := 4, pos := "law.go:333", after := #[{ on := 19, ground := Ground.data }, { on := 17, ground := Ground.guard }], guard := some (17, true) }) (v := ?_) rfl (by kernel_rfl) (by kernel_rfl) (by kernel_rfl) (fun _ _ _ h => h) (Or.inl ⟨by rfl, ?_⟩) (by assumption) ?_
     rotate_left
     ·intro w' hSw
      (try dsimp only at hSw)
      go_simp <;> with_reducible rfl
     try simp only [Act.put, List.setIfInBounds_toArray, List.set_cons_zero, List.set_cons_succ]
     refine wpAnyH_take (i := 21) (oi := { dst := some 108, op := Op.pick (Operand.tmp 104) (Operand.tmp 107) (Operand.const (Value.bool false)), type := 4, pos := "law.go:333", after := #[{ on := 17, ground := Ground.data }, { on := 20, ground := Ground.data }, { on := 13, ground := Ground.guard }], guard := some (13, false) }) (v := ?_) rfl (by kernel_rfl) (by kernel_rfl) (by kernel_rfl) (fun _ _ _ h => h) (Or.inl ⟨by rfl, ?_⟩) (by assumption) ?_
     rotate_left
     ·intro w' hSw
      (try dsimp only at hSw)
      go_simp <;> with_reducible rfl
     try simp only [Act.put, List.setIfInBounds_toArray, List.set_cons_zero, List.set_cons_succ]
     refine wpAnyH_take (i := 22) (oi := { dst := some 109, op := Op.load 29 (Operand.tmp 7), type := 29, pos := "law.go:333", after := #[{ on := 13, ground := Ground.guard }], guard := some (13, false) }) (v := ?_) rfl (by kernel_rfl) (by kernel_rfl) (by kernel_rfl) (fun _ _ _ h => h) (Or.inl ⟨by rfl, ?_⟩) (by assumption) ?_
     rotate_left
     ·intro w' hSw
      (try dsimp only at hSw)
      go_simp <;> with_reducible rfl
     try simp only [Act.put, List.setIfInBounds_toArray, List.set_cons_zero, List.set_cons_succ]
     refine wpAnyH_take (i := 23) (oi := { dst := some 110, op := Op.fieldAddr 57 (Operand.tmp 1) 2, type := 0, pos := "law.go:333", after := #[{ on := 13, ground := Ground.guard }], guard := some (13, false) }) (v := ?_) rfl (by kernel_rfl) (by kernel_rfl) (by kernel_rfl) (fun _ _ _ h => h) (Or.inl ⟨by rfl, ?_⟩) (by assumption) ?_
     rotate_left
     ·intro w' hSw
      (try dsimp only at hSw)
      go_simp <;> with_reducible rfl
     try simp only [Act.put, List.setIfInBounds_toArray, List.set_cons_zero, List.set_cons_succ]
     refine wpAnyH_take (i := 24) (oi := { dst := some 111, op := Op.load 29 (Operand.tmp 110), type := 29, pos := "law.go:333", after := #[{ on := 23, ground := Ground.data }, { on := 13, ground := Ground.guard }], guard := some (13, false) }) (v := ?_) rfl (by kernel_rfl) (by kernel_rfl) (by kernel_rfl) (fun _ _ _ h => h) (Or.inl ⟨by rfl, ?_⟩) (by assumption) ?_
     rotate_left
     ·intro w' hSw
      (try dsimp only at hSw)
      go_simp <;> with_reducible rfl
     try simp only [Act.put, List.setIfInBounds_toArray, List.set_cons_zero, List.set_cons_succ]
     refine wpAnyH_take (i := 25) (oi := { dst := some 112, op := Op.binOp BinOp.eql 29 (Operand.tmp 109) (Operand.tmp 111) 29, type := 4, pos := "law.go:333", after := #[{ on := 22, ground := Ground.data }, { on := 24, ground := Ground.data }, { on := 13, ground := Ground.guard }], guard := some (13, false) }) (v := ?_) rfl (by kernel_rfl) (by kernel_rfl) (by kernel_rfl) (fun _ _ _ h => h) (Or.inl ⟨by rfl, ?_⟩) (by assumption) ?_
     rotate_left
     ·intro w' hSw
      (try dsimp only at hSw)
      go_simp <;> with_reducible rfl
     try simp only [Act.put, List.setIfInBounds_toArray, List.set_cons_zero, List.set_cons_succ]
     refine wpAnyH_take (i := 26) (oi := { dst := some 113, op := Op.binOp BinOp.neq 4 (Operand.tmp 108) (Operand.tmp 112) 4, type := 4, pos := "law.go:333", after := #[{ on := 21, ground := Ground.data }, { on := 25, ground := Ground.data }, { on := 13, ground := Ground.guard }], guard := some (13, false) }) (v := ?_) rfl (by kernel_rfl) (by kernel_rfl) (by kernel_rfl) (fun _ _ _ h => h) (Or.inl ⟨by rfl, ?_⟩) (by assumption) ?_
     rotate_left
     ·intro w' hSw
      (try dsimp only at hSw)
      go_simp <;> with_reducible rfl
     try simp only [Act.put, List.setIfInBounds_toArray, List.set_cons_zero, List.set_cons_succ]
     refine wpAnyH_take (i := 27) (oi := { dst := some 114, op := Op.pick (Operand.tmp 100) (Operand.const (Value.bool true)) (Operand.tmp 113), type := 4, pos := "law.go:333", after := #[{ on := 13, ground := Ground.data }, { on := 26, ground := Ground.data }], guard := none }) (v := ?_) rfl (by kernel_rfl) (by kernel_rfl) (by kernel_rfl) (fun _ _ _ h => h) (Or.inl ⟨by rfl, ?_⟩) (by assumption) ?_
     rotate_left
     ·intro w' hSw
      (try dsimp only at hSw)
      go_simp <;> with_reducible rfl
     try simp only [Act.put, List.setIfInBounds_toArray, List.set_cons_zero, List.set_cons_succ]
     refine wpAnyH_done (by kernel_rfl) ?_ _
     clear HS hHeld
     go_wp2_with fail
     go_meet
     exact ⟨rfl, hid hb0⟩
   ·as_aux_lemma =>
     have HS : Hid (∀ w', Ext wd w' → w'.cell? ⟨w2.heap.size, 0, none⟩ = some (.int .i64 3) ∧ w'.cell? ⟨w2.heap.size, 1, none⟩ = some (.bool false) ∧ w'.cell? ⟨w2.heap.size, 2, none⟩ = some (.string S) ∧ w'.cell? ⟨w8.heap.size, 0, none⟩ = some (.int .u64 (b0 : Nat)) ∧ w'.cell? ⟨w8.heap.size, 1, none⟩ = some (.int .u64 (b1 : Nat)) ∧ w'.cell? ⟨w6.heap.size, 0, none⟩ = some (.int .u64 (i0 : Nat)) ∧ w'.cell? ⟨w6.heap.size, 1, none⟩ = some (.int .u64 (i1 : Nat)) ∧ w'.cell? ⟨w.heap.size, 0, none⟩ = some (.int .i64 E) ∧ w'.cell? ⟨w.heap.size, 1, none⟩ = some (.int .i64 P) ∧ w'.cell? ⟨w.heap.size, 2, none⟩ = some (.int .i64 M) ∧ w'.cell? ⟨w.heap.size, 3, none⟩ = some (.int .u64 (i0 : Nat)) ∧ w'.cell? ⟨w.heap.size, 4, none⟩ = some (.int .u64 (i1 : Nat)) ∧ w'.cell? ⟨w.heap.size, 5, none⟩ = some (.int .u64 (j0 : Nat)) ∧ w'.cell? ⟨w.heap.size, 6, none⟩ = some (.int .u64 (j1 : Nat)) ∧ w'.cell? ⟨w.heap.size, 7, none⟩ = some (.int .u64 c0) ∧ w'.cell? ⟨w.heap.size, 8, none⟩ = some (.int .u64 c1)) := hid fun w' h => ⟨(HB_V.out.ext h).cell 0, (HB_V.out.ext h).cell 1, (HB_V.out.ext h).cell 2, (HB_B.out.ext h).cell 0, (HB_B.out.ext h).cell 1, (HB_U.out.ext h).cell 0, (HB_U.out.ext h).cell 1, (HB_O.out.ext h).cell 0, (HB_O.out.ext h).cell 1, (HB_O.out.ext h).cell 2, (HB_O.out.ext h).cell 3, (HB_O.out.ext h).cell 4, (HB_O.out.ext h).cell 5, (HB_O.out.ext h).cell 6, (HB_O.out.ext h).cell 7, (HB_O.out.ext h).cell 8⟩
     have hb0 : Ext wd wd.drew := Below.drew (Below.refl _ wd)
     refine wp_region_held_drew (S := fun w' => w'.cell? ⟨w2.heap.size, 0, none⟩ = some (.int .i64 3) ∧ w'.cell? ⟨w2.heap.size, 1, none⟩ = some (.bool false) ∧ w'.cell? ⟨w2.heap.size, 2, none⟩ = some (.string S) ∧ w'.cell? ⟨w8.heap.size, 0, none⟩ = some (.int .u64 (b0 : Nat)) ∧ w'.cell? ⟨w8.heap.size, 1, none⟩ = some (.int .u64 (b1 : Nat)) ∧ w'.cell? ⟨w6.heap.size, 0, none⟩ = some (.int .u64 (i0 : Nat)) ∧ w'.cell? ⟨w6.heap.size, 1, none⟩ = some (.int .u64 (i1 : Nat)) ∧ w'.cell? ⟨w.heap.size, 0, none⟩ = some (.int .i64 E) ∧ w'.cell? ⟨w.heap.size, 1, none⟩ = some (.int .i64 P) ∧ w'.cell? ⟨w.heap.size, 2, none⟩ = some (.int .i64 M) ∧ w'.cell? ⟨w.heap.size, 3, none⟩ = some (.int .u64 (i0 : Nat)) ∧ w'.cell? ⟨w.heap.size, 4, none⟩ = some (.int .u64 (i1 : Nat)) ∧ w'.cell? ⟨w.heap.size, 5, none⟩ = some (.int .u64 (j0 : Nat)) ∧ w'.cell? ⟨w.heap.size, 6, none⟩ = some (.int .u64 (j1 : Nat)) ∧ w'.cell? ⟨w.heap.size, 7, none⟩ = some (.int .u64 c0) ∧ w'.cell? ⟨w.heap.size, 8, none⟩ = some (.int .u64 c1)) (by kernel_rfl) (HS.out _ hb0) (fun hHeld => ?_)
     refine wpAnyH_take (i := 0) (oi := { dst := some 87, op := Op.fieldAddr 26 (Operand.tmp 4) 0, type := 0, pos := "law.go:333", after := #[], guard := none }) (v := ?_) rfl (by kernel_rfl) (by kernel_rfl) (by kernel_rfl) (fun _ _ _ h => h) (Or.inl ⟨by rfl, ?_⟩) (by assumption) ?_
     rotate_left
     ·intro w' hSw
      (try dsimp only at hSw)
      go_simp <;> with_reducible rfl
     try simp only [Act.put, List.setIfInBounds_toArray, List.set_cons_zero, List.set_cons_succ]
     refine wpAnyH_take (i := 1) (oi := { dst := some 88, op := Op.load 3 (Operand.tmp 87), type := 3, pos := "law.go:333", after := #[{ on := 0, ground := Ground.data }], guard := none }) (v := ?_) rfl (by kernel_rfl) (by kernel_rfl) (by kernel_rfl) (fun _ _ _ h => h) (Or.inl ⟨by rfl, ?_⟩) (by assumption) ?_
     rotate_left
     ·intro w' hSw
      (try dsimp only at hSw)
      go_simp <;> with_reducible rfl
     try simp only [Act.put, List.setIfInBounds_toArray, List.set_cons_zero, List.set_cons_succ]
     refine wpAnyH_take (i := 2) (oi := { dst := some 89, op := Op.binOp BinOp.eql 3 (Operand.tmp 88) (Operand.const (Value.int IntKind.i64 3)) 3, type := 4, pos := "law.go:333", after := #[{ on := 1, ground := Ground.data }], guard := none }) (v := ?_) rfl (by kernel_rfl) (by kernel_rfl) (by kernel_rfl) (fun _ _ _ h => h) (Or.inl ⟨by rfl, ?_⟩) (by assumption) ?_
     rotate_left
     ·intro w' hSw
      (try dsimp only at hSw)
      go_simp <;> with_reducible rfl
     try simp only [Act.put, List.setIfInBounds_toArray, List.set_cons_zero, List.set_cons_succ]
     refine wpAnyH_take (i := 3) (oi := { dst := some 90, op := Op.move (Operand.tmp 89), type := 4, pos := "law.go:333", after := #[{ on := 2, ground := Ground.data }], guard := none }) (v := ?_) rfl (by kernel_rfl) (by kernel_rfl) (by kernel_rfl) (fun _ _ _ h => h) (Or.inl ⟨by rfl, ?_⟩) (by assumption) ?_
     rotate_left
     ·intro w' hSw
      (try dsimp only at hSw)
      go_simp <;> with_reducible rfl
     try simp only [Act.put, List.setIfInBounds_toArray, List.set_cons_zero, List.set_cons_succ]
     refine wpAnyH_take (i := 4) (oi := { dst := some 91, op := Op.fieldAddr 26 (Operand.tmp 4) 1, type := 0, pos := "law.go:333", after := #[{ on := 3, ground := Ground.guard }], guard := some (3, true) }) (v := ?_) rfl (by kernel_rfl) (by kernel_rfl) (by kernel_rfl) (fun _ _ _ h => h) (Or.inl ⟨by rfl, ?_⟩) (by assumption) ?_
     rotate_left
     ·intro w' hSw
      (try dsimp only at hSw)
      go_simp <;> with_reducible rfl
     try simp only [Act.put, List.setIfInBounds_toArray, List.set_cons_zero, List.set_cons_succ]
     refine wpAnyH_take (i := 5) (oi := { dst := some 92, op := Op.load 4 (Operand.tmp 91), type := 4, pos := "law.go:333", after := #[{ on := 4, ground := Ground.data }, { on := 3, ground := Ground.guard }], guard := some (3, true) }) (v := ?_) rfl (by kernel_rfl) (by kernel_rfl) (by kernel_rfl) (fun _ _ _ h => h) (Or.inl ⟨by rfl, ?_⟩) (by assumption) ?_
     rotate_left
     ·intro w' hSw
      (try dsimp only at hSw)
      go_simp <;> with_reducible rfl
     try simp only [Act.put, List.setIfInBounds_toArray, List.set_cons_zero, List.set_cons_succ]
     refine wpAnyH_take (i := 6) (oi := { dst := some 93, op := Op.pick (Operand.tmp 90) (Operand.tmp 92) (Operand.const (Value.bool false)), type := 4, pos := "law.go:333", after := #[{ on := 3, ground := Ground.data }, { on := 5, ground := Ground.data }], guard := none }) (v := ?_) rfl (by kernel_rfl) (by kernel_rfl) (by kernel_rfl) (fun _ _ _ h => h) (Or.inl ⟨by rfl, ?_⟩) (by assumption) ?_
     rotate_left
     ·intro w' hSw
      (try dsimp only at hSw)
      go_simp <;> with_reducible rfl
     try simp only [Act.put, List.setIfInBounds_toArray, List.set_cons_zero, List.set_cons_succ]
     refine wpAnyH_take (i := 7) (oi := { dst := some 94, op := Op.move (Operand.tmp 93), type := 4, pos := "law.go:333", after := #[{ on := 6, ground := Ground.data }, { on := 3, ground := Ground.chain }], guard := none }) (v := ?_) rfl (by kernel_rfl) (by kernel_rfl) (by kernel_rfl) (fun _ _ _ h => h) (Or.inl ⟨by rfl, ?_⟩) (by assumption) ?_
     rotate_left
     ·intro w' hSw
      (try dsimp only at hSw)
      go_simp <;> with_reducible rfl
     try simp only [Act.put, List.setIfInBounds_toArray, List.set_cons_zero, List.set_cons_succ]
     refine wpAnyH_take (i := 8) (oi := { dst := some 95, op := Op.load 29 (Operand.tmp 8), type := 29, pos := "law.go:333", after := #[{ on := 7, ground := Ground.guard }], guard := some (7, true) }) (v := undef) rfl (by kernel_rfl) (by kernel_rfl) (by kernel_rfl) (fun _ _ _ h => h) (Or.inr ⟨by rfl, rfl⟩) (by assumption) ?_
     try simp only [Act.put, List.setIfInBounds_toArray, List.set_cons_zero, List.set_cons_succ]
     refine wpAnyH_take (i := 9) (oi := { dst := some 96, op := Op.fieldAddr 57 (Operand.tmp 1) 2, type := 0, pos := "law.go:333", after := #[{ on := 7, ground := Ground.guard }], guard := some (7, true) }) (v := undef) rfl (by kernel_rfl) (by kernel_rfl) (by kernel_rfl) (fun _ _ _ h => h) (Or.inr ⟨by rfl, rfl⟩) (by assumption) ?_
     try simp only [Act.put, List.setIfInBounds_toArray, List.set_cons_zero, List.set_cons_succ]
     refine wpAnyH_take (i := 10) (oi := { dst := some 97, op := Op.load 29 (Operand.tmp 96), type := 29, pos := "law.go:333", after := #[{ on := 9, ground := Ground.data }, { on := 7, ground := Ground.guard }], guard := some (7, true) }) (v := undef) rfl (by kernel_rfl) (by kernel_rfl) (by kernel_rfl) (fun _ _ _ h => h) (Or.inr ⟨by rfl, rfl⟩) (by assumption) ?_
     try simp only [Act.put, List.setIfInBounds_toArray, List.set_cons_zero, List.set_cons_succ]
     refine wpAnyH_take (i := 11) (oi := { dst := some 98, op := Op.binOp BinOp.neq 29 (Operand.tmp 95) (Operand.tmp 97) 29, type := 4, pos := "law.go:333", after := #[{ on := 8, ground := Ground.data }, { on := 10, ground := Ground.data }, { on := 7, ground := Ground.guard }], guard := some (7, true) }) (v := undef) rfl (by kernel_rfl) (by kernel_rfl) (by kernel_rfl) (fun _ _ _ h => h) (Or.inr ⟨by rfl, rfl⟩) (by assumption) ?_
     try simp only [Act.put, List.setIfInBounds_toArray, List.set_cons_zero, List.set_cons_succ]
     refine wpAnyH_take (i := 12) (oi := { dst := some 99, op := Op.pick (Operand.tmp 94) (Operand.tmp 98) (Operand.const (Value.bool false)), type := 4, pos := "law.go:333", after := #[{ on := 7, ground := Ground.data }, { on := 11, ground := Ground.data }], guard := none }) (v := ?_) rfl (by kernel_rfl) (by kernel_rfl) (by kernel_rfl) (fun _ _ _ h => h) (Or.inl ⟨by rfl, ?_⟩) (by assumption) ?_
     rotate_left
     ·intro w' hSw
      (try dsimp only at hSw)
      go_simp <;> with_reducible rfl
     try simp only [Act.put, List.setIfInBounds_toArray, List.set_cons_zero, List.set_cons_succ]
     refine wpAnyH_take (i := 13) (oi := { dst := some 100, op := Op.move (Operand.tmp 99), type := 4, pos := "law.go:333", after := #[{ on := 12, ground := Ground.data }, { on := 7, ground := Ground.chain }], guard := none }) (v := ?_) rfl (by kernel_rfl) (by kernel_rfl) (by kernel_rfl) (fun _ _ _ h => h) (Or.inl ⟨by rfl, ?_⟩) (by assumption) ?_
     rotate_left
     ·intro w' hSw
      (try dsimp only at hSw)
      go_simp <;> with_reducible rfl
     try simp only [Act.put, List.setIfInBounds_toArray, List.set_cons_zero, List.set_cons_succ]
     refine wpAnyH_take (i := 14) (oi := { dst := some 101, op := Op.fieldAddr 26 (Operand.tmp 4) 0, type := 0, pos := "law.go:333", after := #[{ on := 13, ground := Ground.guard }], guard := some (13, false) }) (v := ?_) rfl (by kernel_rfl) (by kernel_rfl) (by kernel_rfl) (fun _ _ _ h => h) (Or.inl ⟨by rfl, ?_⟩) (by assumption) ?_
     rotate_left
     ·intro w' hSw
      (try dsimp only at hSw)
      go_simp <;> with_reducible rfl
     try simp only [Act.put, List.setIfInBounds_toArray, List.set_cons_zero, List.set_cons_succ]
     refine wpAnyH_take (i := 15) (oi := { dst := some 102, op := Op.load 3 (Operand.tmp 101), type := 3, pos := "law.go:333", after := #[{ on := 14, ground := Ground.data }, { on := 13, ground := Ground.guard }], guard := some (13, false) }) (v := ?_) rfl (by kernel_rfl) (by kernel_rfl) (by kernel_rfl) (fun _ _ _ h => h) (Or.inl ⟨by rfl, ?_⟩) (by assumption) ?_
     rotate_left
     ·intro w' hSw
      (try dsimp only at hSw)
      go_simp <;> with_reducible rfl
     try simp only [Act.put, List.setIfInBounds_toArray, List.set_cons_zero, List.set_cons_succ]
     refine wpAnyH_take (i := 16) (oi := { dst := some 103, op := Op.binOp BinOp.eql 3 (Operand.tmp 102) (Operand.const (Value.int IntKind.i64 3)) 3, type := 4, pos := "law.go:333", after := #[{ on := 15, ground := Ground.data }, { on := 13, ground := Ground.guard }], guard := some (13, false) }) (v := ?_) rfl (by kernel_rfl) (by kernel_rfl) (by kernel_rfl) (fun _ _ _ h => h) (Or.inl ⟨by rfl, ?_⟩) (by assumption) ?_
     rotate_left
     ·intro w' hSw
      (try dsimp only at hSw)
      go_simp <;> with_reducible rfl
     try simp only [Act.put, List.setIfInBounds_toArray, List.set_cons_zero, List.set_cons_succ]
     refine wpAnyH_take (i := 17) (oi := { dst := some 104, op := Op.move (Operand.tmp 103), type := 4, pos := "law.go:333", after := #[{ on := 16, ground := Ground.data }, { on := 13, ground := Ground.chain }, { on := 13, ground := Ground.guard }], guard := some (13, false) }) (v := ?_) rfl (by kernel_rfl) (by kernel_rfl) (by kernel_rfl) (fun _ _ _ h => h) (Or.inl ⟨by rfl, ?_⟩) (by assumption) ?_
     rotate_left
     ·intro w' hSw
      (try dsimp only at hSw)
      go_simp <;> with_reducible rfl
     try simp only [Act.put, List.setIfInBounds_toArray, List.set_cons_zero, List.set_cons_succ]
     refine wpAnyH_take (i := 18) (oi := { dst := some 105, op := Op.fieldAddr 26 (Operand.tmp 4) 1, type := 0, pos := "law.go:333", after := #[{ on := 17, ground := Ground.guard }], guard := some (17, true) }) (v := ?_) rfl (by kernel_rfl) (by kernel_rfl) (by kernel_rfl) (fun _ _ _ h => h) (Or.inl ⟨by rfl, ?_⟩) (by assumption) ?_
     rotate_left
     ·intro w' hSw
      (try dsimp only at hSw)
      go_simp <;> with_reducible rfl
     try simp only [Act.put, List.setIfInBounds_toArray, List.set_cons_zero, List.set_cons_succ]
     refine wpAnyH_take (i := 19) (oi := { dst := some 106, op := Op.load 4 (Operand.tmp 105), type := 4, pos := "law.go:333", after := #[{ on := 18, ground := Ground.data }, { on := 17, ground := Ground.guard }], guard := some (17, true) }) (v := ?_) rfl (by kernel_rfl) (by kernel_rfl) (by kernel_rfl) (fun _ _ _ h => h) (Or.inl ⟨by rfl, ?_⟩) (by assumption) ?_
     rotate_left
     ·intro w' hSw
      (try dsimp only at hSw)
      go_simp <;> with_reducible rfl
     try simp only [Act.put, List.setIfInBounds_toArray, List.set_cons_zero, List.set_cons_succ]
     refine wpAnyH_take (i := 20) (oi := { dst := some 107, op := Op.unOp UnOp.not 4 (Operand.tmp 106), type := 4, pos := "law.go:333", after := #[{ on := 19, ground := Ground.data }, { on := 17, ground := Ground.guard }], guard := some (17, true) }) (v := ?_) rfl (by kernel_rfl) (by kernel_rfl) (by kernel_rfl) (fun _ _ _ h => h) (Or.inl ⟨by rfl, ?_⟩) (by assumption) ?_
     rotate_left
     ·intro w' hSw
      (try dsimp only at hSw)
      go_simp <;> with_reducible rfl
     try simp only [Act.put, List.setIfInBounds_toArray, List.set_cons_zero, List.set_cons_succ]
     refine wpAnyH_take (i := 21) (oi := { dst := some 108, op := Op.pick (Operand.tmp 104) (Operand.tmp 107) (Operand.const (Value.bool false)), type := 4, pos := "law.go:333", after := #[{ on := 17, ground := Ground.data }, { on := 20, ground := Ground.data }, { on := 13, ground := Ground.guard }], guard := some (13, false) }) (v := ?_) rfl (by kernel_rfl) (by kernel_rfl) (by kernel_rfl) (fun _ _ _ h => h) (Or.inl ⟨by rfl, ?_⟩) (by assumption) ?_
     rotate_left
     ·intro w' hSw
      (try dsimp only at hSw)
      go_simp <;> with_reducible rfl
     try simp only [Act.put, List.setIfInBounds_toArray, List.set_cons_zero, List.set_cons_succ]
     refine wpAnyH_take (i := 22) (oi := { dst := some 109, op := Op.load 29 (Operand.tmp 7), type := 29, pos := "law.go:333", after := #[{ on := 13, ground := Ground.guard }], guard := some (13, false) }) (v := ?_) rfl (by kernel_rfl) (by kernel_rfl) (by kernel_rfl) (fun _ _ _ h => h) (Or.inl ⟨by rfl, ?_⟩) (by assumption) ?_
     rotate_left
     ·intro w' hSw
      (try dsimp only at hSw)
      go_simp <;> with_reducible rfl
     try simp only [Act.put, List.setIfInBounds_toArray, List.set_cons_zero, List.set_cons_succ]
     refine wpAnyH_take (i := 23) (oi := { dst := some 110, op := Op.fieldAddr 57 (Operand.tmp 1) 2, type := 0, pos := "law.go:333", after := #[{ on := 13, ground := Ground.guard }], guard := some (13, false) }) (v := ?_) rfl (by kernel_rfl) (by kernel_rfl) (by kernel_rfl) (fun _ _ _ h => h) (Or.inl ⟨by rfl, ?_⟩) (by assumption) ?_
     rotate_left
     ·intro w' hSw
      (try dsimp only at hSw)
      go_simp <;> with_reducible rfl
     try simp only [Act.put, List.setIfInBounds_toArray, List.set_cons_zero, List.set_cons_succ]
     refine wpAnyH_take (i := 24) (oi := { dst := some 111, op := Op.load 29 (Operand.tmp 110), type := 29, pos := "law.go:333", after := #[{ on := 23, ground := Ground.data }, { on := 13, ground := Ground.guard }], guard := some (13, false) }) (v := ?_) rfl (by kernel_rfl) (by kernel_rfl) (by kernel_rfl) (fun _ _ _ h => h) (Or.inl ⟨by rfl, ?_⟩) (by assumption) ?_
     rotate_left
     ·intro w' hSw
      (try dsimp only at hSw)
      go_simp <;> with_reducible rfl
     try simp only [Act.put, List.setIfInBounds_toArray, List.set_cons_zero, List.set_cons_succ]
     refine wpAnyH_take (i := 25) (oi := { dst := some 112, op := Op.binOp BinOp.eql 29 (Operand.tmp 109) (Operand.tmp 111) 29, type := 4, pos := "law.go:333", after := #[{ on := 22, ground := Ground.data }, { on := 24, ground := Ground.data }, { on := 13, ground := Ground.guard }], guard := some (13, false) }) (v := ?_) rfl (by kernel_rfl) (by kernel_rfl) (by kernel_rfl) (fun _ _ _ h => h) (Or.inl ⟨by rfl, ?_⟩) (by assumption) ?_
     rotate_left
     ·intro w' hSw
      (try dsimp only at hSw)
      go_simp <;> with_reducible rfl
     try simp only [Act.put, List.setIfInBounds_toArray, List.set_cons_zero, List.set_cons_succ]
     refine wpAnyH_take (i := 26) (oi := { dst := some 113, op := Op.binOp BinOp.neq 4 (Operand.tmp 108) (Operand.tmp 112) 4, type := 4, pos := "law.go:333", after := #[{ on := 21, ground := Ground.data }, { on := 25, ground := Ground.data }, { on := 13, ground := Ground.guard }], guard := some (13, false) }) (v := ?_) rfl (by kernel_rfl) (by kernel_rfl) (by kernel_rfl) (fun _ _ _ h => h) (Or.inl ⟨by rfl, ?_⟩) (by assumption) ?_
     rotate_left
     ·intro w' hSw
      (try dsimp only at hSw)
      go_simp <;> with_reducible rfl
     try simp only [Act.put, List.setIfInBounds_toArray, List.set_cons_zero, List.set_cons_succ]
     refine wpAnyH_take (i := 27) (oi := { dst := some 114, op := Op.pick (Operand.tmp 100) (Operand.const (Value.bool true)) (Operand.tmp 113), type := 4, pos := "law.go:333", after := #[{ on := 13, ground := Ground.data }, { on := 26, ground := Ground.data }], guard := none }) (v := ?_) rfl (by kernel_rfl) (by kernel_rfl) (by kernel_rfl) (fun _ _ _ h => h) (Or.inl ⟨by rfl, ?_⟩) (by assumption) ?_
     rotate_left
     ·intro w' hSw
      (try dsimp only at hSw)
      go_simp <;> with_reducible rfl
     try simp only [Act.put, List.setIfInBounds_toArray, List.set_cons_zero, List.set_cons_succ]
     refine wpAnyH_done (by kernel_rfl) ?_ _
     clear HS hHeld
     go_wp2_with fail
     go_meet
     exact ⟨rfl, hid hb0⟩
  case rest =>
   obtain ⟨rfl, gx14⟩ := hcut
   clear HKD
   obtain ⟨we, rfl⟩ : ∃ x, x = wc := ⟨_, rfl⟩
   have hz_we := gx14.out.size
   replace HE := hid (HE.out.trans gx14.out)
   replace HB_O := hid (HB_O.out.ext gx14.out)
   replace HB_F := hid (HB_F.out.ext gx14.out)
   replace HB_V := hid (HB_V.out.ext gx14.out)
   replace HB_E := hid (HB_E.out.ext gx14.out)
   replace HB_U := hid (HB_U.out.ext gx14.out)
   replace HB_B := hid (HB_B.out.ext gx14.out)
   obtain ⟨c_80, c_81, c_82, c_83, c_84, c_85, c_86, c_87, c_88⟩ := HB_O.out.c9
   obtain ⟨c_89, c_90⟩ := HB_F.out.c2
   obtain ⟨c_91, c_92, c_93⟩ := HB_V.out.c3
   obtain ⟨c_94, c_95⟩ := HB_E.out.c2
   obtain ⟨c_96, c_97⟩ := HB_U.out.c2
   obtain ⟨c_98, c_99⟩ := HB_B.out.c2
   go_wp2_with fail
   clear c_80 c_81 c_82 c_83 c_84 c_85 c_86 c_87 c_88 c_89 c_90 c_91 c_92 c_93 c_94 c_95 c_96 c_97 c_98 c_99
   refine (CN.out _).mono ?_
   rintro e w10 ⟨u, v, rfl, ku, kv, g10⟩
   have hz_w10 := g10.size
   replace HE := hid (HE.out.trans g10)
   replace HB_O := hid (HB_O.out.ext g10)
   replace HB_F := hid (HB_F.out.ext g10)
   replace HB_V := hid (HB_V.out.ext g10)
   replace HB_E := hid (HB_E.out.ext g10)
   replace HB_U := hid (HB_U.out.ext g10)
   replace HB_B := hid (HB_B.out.ext g10)
   obtain ⟨ngu, au, nu, cu, au', nu', cu', rfl⟩ := ku.shape
   obtain ⟨ngv, av, nv, cv, av', nv', cv', rfl⟩ := kv.shape
   by_cases hz : za = 0 ∧ zb = 0
   ·replace HL1 := hid (HL1.out hz)
    replace HL2 := hid (HL2.out hz)
    obtain ⟨rfl, rfl⟩ := hz
    rw [show (decide ((0 : Int) = 0) && decide ((0 : Int) = 0)) = true from rfl]
    have gA := Ext.trans (Ext.alloc w10 (.cells #[.bool ngu, .slice au nu cu, .slice au' nu' cu'] 40)) (Ext.alloc _ (.cells #[.bool ngv, .slice av nv cv, .slice av' nv' cv'] 40))
    obtain ⟨c_100, c_101, c_102, c_103, c_104, c_105, c_106, c_107, c_108⟩ := (HB_O.out.ext gA).c9
    obtain ⟨c_109, c_110⟩ := (HB_F.out.ext gA).c2
    obtain ⟨c_111, c_112, c_113⟩ := (HB_V.out.ext gA).c3
    obtain ⟨c_114, c_115⟩ := (HB_E.out.ext gA).c2
    obtain ⟨c_116, c_117⟩ := (HB_U.out.ext gA).c2
    obtain ⟨c_118, c_119⟩ := (HB_B.out.ext gA).c2
    go_upto_region 19 with (fail)
    clear gA c_100 c_101 c_102 c_103 c_104 c_105 c_106 c_107 c_108 c_109 c_110 c_111 c_112 c_113 c_114 c_115 c_116 c_117 c_118 c_119
    obtain ⟨W11, hW11, g11, hy11, B_X, B_Y⟩ := pro2s w10 #[.bool ngu, .slice au nu cu, .slice au' nu' cu'] #[.bool ngv, .slice av nv cv, .slice av' nv' cv'] 40 40
    rw [← hW11]
    clear hW11
    have hz_W11 := g11.size
    replace HE := hid (HE.out.trans g11)
    replace HB_O := hid (HB_O.out.ext g11)
    replace HB_F := hid (HB_F.out.ext g11)
    replace HB_V := hid (HB_V.out.ext g11)
    replace HB_E := hid (HB_E.out.ext g11)
    replace HB_U := hid (HB_U.out.ext g11)
    replace HB_B := hid (HB_B.out.ext g11)
    replace ku := ku.ext g11
    replace kv := kv.ext g11
    have HB_X := hid B_X
    have HB_Y := hid B_Y
    clear B_X B_Y
    go_cut [13, 14, 15] (fun s1 s2 s3 wx => ∃ g1 g2 g3 : Nat, s1 = .pointer (some ⟨g1, 0, none⟩) ∧ s2 = .pointer (some ⟨g2, 0, none⟩) ∧ s3 = .pointer (some ⟨g3, 0, none⟩) ∧ Hid (Ext W11 wx) ∧ W11.heap.size ≤ g1 ∧ W11.heap.size ≤ g2 ∧ W11.heap.size ≤ g3 ∧ g1 ≠ g2 ∧ g1 ≠ g3 ∧ g2 ≠ g3 ∧ Hid (Box wx g1 #[.bool ngu, .slice au nu cu, .slice au' nu' cu'] 40) ∧ Hid (Box wx g2 #[.bool ngv, .slice av nv cv, .slice av' nv' cv'] 40) ∧ Hid (Box wx g3 #[.int .u64 (j0 : Nat), .int .u64 (j1 : Nat)] 29))
    case first =>
     have hb0 : Ext W11 W11.drew := Below.drew (Below.refl _ W11)
     have HS : Hid (∀ w', Ext W11 w' → w'.cell? ⟨w10.heap.size, 0, none⟩ = some (.bool ngu) ∧ w'.cell? ⟨w10.heap.size, 1, none⟩ = some (.slice au nu cu) ∧ w'.cell? ⟨w10.heap.size, 2, none⟩ = some (.slice au' nu' cu') ∧ w'.cell? ⟨w10.heap.size + 1, 0, none⟩ = some (.bool ngv) ∧ w'.cell? ⟨w10.heap.size + 1, 1, none⟩ = some (.slice av nv cv) ∧ w'.cell? ⟨w10.heap.size + 1, 2, none⟩ = some (.slice av' nv' cv') ∧ w'.cell? ⟨w.heap.size, 0, none⟩ = some (.int .i64 E) ∧ w'.cell? ⟨w.heap.size, 1, none⟩ = some (.int .i64 P) ∧ w'.cell? ⟨w.heap.size, 2, none⟩ = some (.int .i64 M) ∧ w'.cell? ⟨w.heap.size, 3, none⟩ = some (.int .u64 (i0 : Nat)) ∧ w'.cell? ⟨w.heap.size, 4, none⟩ = some (.int .u64 (i1 : Nat)) ∧ w'.cell? ⟨w.heap.size, 5, none⟩ = some (.int .u64 (j0 : Nat)) ∧ w'.cell? ⟨w.heap.size, 6, none⟩ = some (.int .u64 (j1 : Nat)) ∧ w'.cell? ⟨w.heap.size, 7, none⟩ = some (.int .u64 c0) ∧ w'.cell? ⟨w.heap.size, 8, none⟩ = some (.int .u64 c1)) := hid fun w' h => ⟨(HB_X.out.ext h).cell 0, (HB_X.out.ext h).cell 1, (HB_X.out.ext h).cell 2, (HB_Y.out.ext h).cell 0, (HB_Y.out.ext h).cell 1, (HB_Y.out.ext h).cell 2, (HB_O.out.ext h).cell 0, (HB_O.out.ext h).cell 1, (HB_O.out.ext h).cell 2, (HB_O.out.ext h).cell 3, (HB_O.out.ext h).cell 4, (HB_O.out.ext h).cell 5, (HB_O.out.ext h).cell 6, (HB_O.out.ext h).cell 7, (HB_O.out.ext h).cell 8⟩
     go_region_held3 (fun w' => w'.cell? ⟨w10.heap.size, 0, none⟩ = some (.bool ngu) ∧ w'.cell? ⟨w10.heap.size, 1, none⟩ = some (.slice au nu cu) ∧ w'.cell? ⟨w10.heap.size, 2, none⟩ = some (.slice au' nu' cu') ∧ w'.cell? ⟨w10.heap.size + 1, 0, none⟩ = some (.bool ngv) ∧ w'.cell? ⟨w10.heap.size + 1, 1, none⟩ = some (.slice av nv cv) ∧ w'.cell? ⟨w10.heap.size + 1, 2, none⟩ = some (.slice av' nv' cv') ∧ w'.cell? ⟨w.heap.size, 0, none⟩ = some (.int .i64 E) ∧ w'.cell? ⟨w.heap.size, 1, none⟩ = some (.int .i64 P) ∧ w'.cell? ⟨w.heap.size, 2, none⟩ = some (.int .i64 M) ∧ w'.cell? ⟨w.heap.size, 3, none⟩ = some (.int .u64 (i0 : Nat)) ∧ w'.cell? ⟨w.heap.size, 4, none⟩ = some (.int .u64 (i1 : Nat)) ∧ w'.cell? ⟨w.heap.size, 5, none⟩ = some (.int .u64 (j0 : Nat)) ∧ w'.cell? ⟨w.heap.size, 6, none⟩ = some (.int .u64 (j1 : Nat)) ∧ w'.cell? ⟨w.heap.size, 7, none⟩ = some (.int .u64 c0) ∧ w'.cell? ⟨w.heap.size, 8, none⟩ = some (.int .u64 c1))
       (((with_reducible refine HS.out _ ?_); repeat' (first | (with_reducible assumption) | (with_reducible apply Ext.ontoA) | (with_reducible apply Ext.ontoS) | (with_reducible apply Ext.ontoD) | (with_reducible exact Below.refl _ _) | omega | (simp only [World.size_drew, World.size_alloc]; omega))))
       (fail)
     all_goals
      go_wp2_with fail
      go_meet
      refine ⟨_, _, _, rfl, rfl, rfl, hid ?_, ?_, ?_, ?_, ?_, ?_, ?_, hid ?_, hid ?_, hid ?_⟩
      ·repeat' (first | (with_reducible exact Below.refl _ _) | (with_reducible apply Ext.ontoD) | (with_reducible apply Ext.ontoA))
      ·omega
      ·omega
      ·omega
      ·omega
      ·omega
      ·omega
      ·repeat' (first | ((with_reducible refine Box.atNew ?_); (simp; done)) | (with_reducible apply Box.ontoD) | (with_reducible apply Box.ontoA))
      ·repeat' (first | ((with_reducible refine Box.atNew ?_); (simp; done)) | (with_reducible apply Box.ontoD) | (with_reducible apply Box.ontoA))
      ·repeat' (first | ((with_reducible refine Box.atNew ?_); (simp; done)) | (with_reducible apply Box.ontoD) | (with_reducible apply Box.ontoA))
    case rest =>
     obtain ⟨gL, gH, gT, rfl, rfl, rfl, gx19, hgL, hgH, hgT, n12, n13, n23, BL, BH, BT⟩ := hcut
     have hlL := cell_lt BL.out
     have hlH := cell_lt BH.out
     have hlT := cell_lt BT.out
     have HB_L := BL
     have HB_H := BH
     have HB_T := BT
     clear BL BH BT
     have hz_wc := gx19.out.size
     replace HE := hid (HE.out.trans gx19.out)
     replace HB_O := hid (HB_O.out.ext gx19.out)
     replace HB_F := hid (HB_F.out.ext gx19.out)
     replace HB_V := hid (HB_V.out.ext gx19.out)
     replace HB_E := hid (HB_E.out.ext gx19.out)
     replace HB_U := hid (HB_U.out.ext gx19.out)
     replace HB_B := hid (HB_B.out.ext gx19.out)
     replace HB_X := hid (HB_X.out.ext gx19.out)
     replace HB_Y := hid (HB_Y.out.ext gx19.out)
     replace ku := ku.ext gx19.out
     replace kv := kv.ext gx19.out
     obtain ⟨c_120, c_121, c_122, c_123, c_124, c_125, c_126, c_127, c_128⟩ := HB_O.out.c9
     obtain ⟨c_129, c_130⟩ := HB_F.out.c2
     obtain ⟨c_131, c_132, c_133⟩ := HB_V.out.c3
     obtain ⟨c_134, c_135⟩ := HB_E.out.c2
     obtain ⟨c_136, c_137⟩ := HB_U.out.c2
     obtain ⟨c_138, c_139⟩ := HB_B.out.c2
     obtain ⟨c_140, c_141, c_142⟩ := HB_X.out.c3
     obtain ⟨c_143, c_144, c_145⟩ := HB_Y.out.c3
     obtain ⟨c_146, c_147, c_148⟩ := HB_L.out.c3
     obtain ⟨c_149, c_150, c_151⟩ := HB_H.out.c3
     obtain ⟨c_152, c_153⟩ := HB_T.out.c2
     go_wp2_with fail
     clear c_120 c_121 c_122 c_123 c_124 c_125 c_126 c_127 c_128 c_129 c_130 c_131 c_132 c_133 c_134 c_135 c_136 c_137 c_138 c_139 c_140 c_141 c_142 c_143 c_144 c_145 c_146 c_147 c_148 c_149 c_150 c_151 c_152 c_153
     refine (CCM.out _ _ _ ku kv).mono ?_
     rintro e w12 ⟨rfl, g12⟩
     have hz_w12 := g12.size
     replace HE := hid (HE.out.trans g12)
     replace HB_O := hid (HB_O.out.ext g12)
     replace HB_F := hid (HB_F.out.ext g12)
     replace HB_V := hid (HB_V.out.ext g12)
     replace HB_E := hid (HB_E.out.ext g12)
     replace HB_U := hid (HB_U.out.ext g12)
     replace HB_B := hid (HB_B.out.ext g12)
     replace HB_X := hid (HB_X.out.ext g12)
     replace HB_Y := hid (HB_Y.out.ext g12)
     replace HB_L := hid (HB_L.out.ext g12)
     replace HB_H := hid (HB_H.out.ext g12)
     replace HB_T := hid (HB_T.out.ext g12)
     replace ku := ku.ext g12
     replace kv := kv.ext g12
     by_cases hcc : 0 < cc
     ·have hdc : decide (0 < cc) = true := decide_eq_true hcc
      have HTL := HL1.out (by omega)
      clear hcc
      have HS : Hid (∀ w', Ext w12 w' → w'.cell? ⟨w10.heap.size, 0, none⟩ = some (.bool ngu) ∧ w'.cell? ⟨w10.heap.size, 1, none⟩ = some (.slice au nu cu) ∧ w'.cell? ⟨w10.heap.size, 2, none⟩ = some (.slice au' nu' cu') ∧ w'.cell? ⟨w10.heap.size + 1, 0, none⟩ = some (.bool ngv) ∧ w'.cell? ⟨w10.heap.size + 1, 1, none⟩ = some (.slice av nv cv) ∧ w'.cell? ⟨w10.heap.size + 1, 2, none⟩ = some (.slice av' nv' cv') ∧ w'.cell? ⟨w.heap.size, 0, none⟩ = some (.int .i64 E) ∧ w'.cell? ⟨w.heap.size, 1, none⟩ = some (.int .i64 P) ∧ w'.cell? ⟨w.heap.size, 2, none⟩ = some (.int .i64 M) ∧ w'.cell? ⟨w.heap.size, 3, none⟩ = some (.int .u64 (i0 : Nat)) ∧ w'.cell? ⟨w.heap.size, 4, none⟩ = some (.int .u64 (i1 : Nat)) ∧ w'.cell? ⟨w.heap.size, 5, none⟩ = some (.int .u64 (j0 : Nat)) ∧ w'.cell? ⟨w.heap.size, 6, none⟩ = some (.int .u64 (j1 : Nat)) ∧ w'.cell? ⟨w.heap.size, 7, none⟩ = some (.int .u64 c0) ∧ w'.cell? ⟨w.heap.size, 8, none⟩ = some (.int .u64 c1)) := hid fun w' h => ⟨(HB_X.out.ext h).cell 0, (HB_X.out.ext h).cell 1, (HB_X.out.ext h).cell 2, (HB_Y.out.ext h).cell 0, (HB_Y.out.ext h).cell 1, (HB_Y.out.ext h).cell 2, (HB_O.out.ext h).cell 0, (HB_O.out.ext h).cell 1, (HB_O.out.ext h).cell 2, (HB_O.out.ext h).cell 3, (HB_O.out.ext h).cell 4, (HB_O.out.ext h).cell 5, (HB_O.out.ext h).cell 6, (HB_O.out.ext h).cell 7, (HB_O.out.ext h).cell 8⟩
      have hb0 : Ext w12 w12.drew := Below.drew (Below.refl _ w12)
      go_upto_region 21 with (fail)
      obtain ⟨c_154, c_155, c_156⟩ := HB_X.out.c3
      obtain ⟨c_157, c_158, c_159⟩ := HB_Y.out.c3
      obtain ⟨c_160, c_161, c_162, c_163, c_164, c_165, c_166, c_167, c_168⟩ := HB_O.out.c9
      obtain ⟨c_169, c_170, c_171⟩ := HB_L.out.c3
      obtain ⟨c_172, c_173, c_174⟩ := HB_H.out.c3
      obtain ⟨c_175, c_176⟩ := HB_T.out.c2
      obtain ⟨f_177, f_178, f_179⟩ := HB_L.out.f3
      obtain ⟨f_180, f_181, f_182⟩ := HB_H.out.f3
      obtain ⟨f_183, f_184⟩ := HB_T.out.f2
      go_region
      clear hb0 HS c_154 c_155 c_156 c_157 c_158 c_159 c_160 c_161 c_162 c_163 c_164 c_165 c_166 c_167 c_168 c_169 c_170 c_171 c_172 c_173 c_174 c_175 c_176 f_177 f_178 f_179 f_180 f_181 f_182 f_183 f_184
      obtain ⟨W13, hW13, g13, q13, B13, hy13, ho13⟩ := sto3 HE.out (by omega) HB_L.out (by decide) (.bool ngv) (.slice av nv cv) (.slice av' nv' cv')
      rw [← hW13]
      clear hW13
      replace HE := hid g13
      replace HB_O := hid (ho13 _ _ _ (by omega) HB_O.out)
      replace HB_F := hid (ho13 _ _ _ (by omega) HB_F.out)
      replace HB_V := hid (ho13 _ _ _ (by omega) HB_V.out)
      replace HB_E := hid (ho13 _ _ _ (by omega) HB_E.out)
      replace HB_U := hid (ho13 _ _ _ (by omega) HB_U.out)
      replace HB_B := hid (ho13 _ _ _ (by omega) HB_B.out)
      replace HB_X := hid (ho13 _ _ _ (by omega) HB_X.out)
      replace HB_Y := hid (ho13 _ _ _ (by omega) HB_Y.out)
      replace HB_H := hid (ho13 _ _ _ (by omega) HB_H.out)
      replace HB_T := hid (ho13 _ _ _ (by omega) HB_T.out)
      replace HB_L := hid B13
      replace ku := ku.keep q13
      replace kv := kv.keep q13
      obtain ⟨W14, hW14, g14, q14, B14, hy14, ho14⟩ := sto3 HE.out (by omega) HB_H.out (by decide) (.bool ngu) (.slice au nu cu) (.slice au' nu' cu')
      rw [← hW14]
      clear hW14
      replace HE := hid g14
      replace HB_O := hid (ho14 _ _ _ (by omega) HB_O.out)
      replace HB_F := hid (ho14 _ _ _ (by omega) HB_F.out)
      replace HB_V := hid (ho14 _ _ _ (by omega) HB_V.out)
      replace HB_E := hid (ho14 _ _ _ (by omega) HB_E.out)
      replace HB_U := hid (ho14 _ _ _ (by omega) HB_U.out)
      replace HB_B := hid (ho14 _ _ _ (by omega) HB_B.out)
      replace HB_X := hid (ho14 _ _ _ (by omega) HB_X.out)
      replace HB_Y := hid (ho14 _ _ _ (by omega) HB_Y.out)
      replace HB_L := hid (ho14 _ _ _ (by omega) HB_L.out)
      replace HB_T := hid (ho14 _ _ _ (by omega) HB_T.out)
      replace HB_H := hid B14
      replace ku := ku.keep q14
      replace kv := kv.keep q14
      obtain ⟨W15, hW15, g15, q15, B15, hy15, ho15⟩ := sto2 HE.out (by omega) HB_T.out (by decide) (.int .u64 (i0 : Nat)) (.int .u64 (i1 : Nat))
      rw [← hW15]
      clear hW15
      replace HE := hid g15
      replace HB_O := hid (ho15 _ _ _ (by omega) HB_O.out)
      replace HB_F := hid (ho15 _ _ _ (by omega) HB_F.out)
      replace HB_V := hid (ho15 _ _ _ (by omega) HB_V.out)
      replace HB_E := hid (ho15 _ _ _ (by omega) HB_E.out)
      replace HB_U := hid (ho15 _ _ _ (by omega) HB_U.out)
      replace HB_B := hid (ho15 _ _ _ (by omega) HB_B.out)
      replace HB_X := hid (ho15 _ _ _ (by omega) HB_X.out)
      replace HB_Y := hid (ho15 _ _ _ (by omega) HB_Y.out)
      replace HB_L := hid (ho15 _ _ _ (by omega) HB_L.out)
      replace HB_H := hid (ho15 _ _ _ (by omega) HB_H.out)
      replace HB_T := hid B15
      replace ku := ku.keep q15
      replace kv := kv.keep q15
      obtain ⟨Wd, hWd, gd⟩ : ∃ x, x = W15.drew ∧ Ext W15 x := ⟨_, rfl, Below.drew (Below.refl _ _)⟩
      rw [← hWd]
      clear hWd
      have hz_Wd := gd.size
      replace HE := hid (HE.out.trans gd)
      replace HB_O := hid (HB_O.out.ext gd)
      replace HB_F := hid (HB_F.out.ext gd)
      replace HB_V := hid (HB_V.out.ext gd)
      replace HB_E := hid (HB_E.out.ext gd)
      replace HB_U := hid (HB_U.out.ext gd)
      replace HB_B := hid (HB_B.out.ext gd)
      replace HB_X := hid (HB_X.out.ext gd)
      replace HB_Y := hid (HB_Y.out.ext gd)
      replace HB_L := hid (HB_L.out.ext gd)
      replace HB_H := hid (HB_H.out.ext gd)
      replace HB_T := hid (HB_T.out.ext gd)
      replace ku := ku.ext gd
      replace kv := kv.ext gd
      obtain ⟨c_185, c_186, c_187, c_188, c_189, c_190, c_191, c_192, c_193⟩ := HB_O.out.c9
      obtain ⟨c_194, c_195⟩ := HB_F.out.c2
      obtain ⟨c_196, c_197, c_198⟩ := HB_V.out.c3
      obtain ⟨c_199, c_200⟩ := HB_E.out.c2
      obtain ⟨c_201, c_202⟩ := HB_U.out.c2
      obtain ⟨c_203, c_204⟩ := HB_B.out.c2
      obtain ⟨c_205, c_206, c_207⟩ := HB_X.out.c3
      obtain ⟨c_208, c_209, c_210⟩ := HB_Y.out.c3
      obtain ⟨c_211, c_212, c_213⟩ := HB_L.out.c3
      obtain ⟨c_214, c_215, c_216⟩ := HB_H.out.c3
      obtain ⟨c_217, c_218⟩ := HB_T.out.c2
      go_wp2_with fail
      clear c_185 c_186 c_187 c_188 c_189 c_190 c_191 c_192 c_193 c_194 c_195 c_196 c_197 c_198 c_199 c_200 c_201 c_202 c_203 c_204 c_205 c_206 c_207 c_208 c_209 c_210 c_211 c_212 c_213 c_214 c_215 c_216 c_217 c_218
      obtain ⟨nn, ee, CC, hcase⟩ := HTL
      have CC := hid CC
      have HCASE := hid hcase
      clear hcase
      refine (CC.out _ _ _ kv ku (HT.out.ext HE.out)).mono ?_
      rintro e w16 ⟨rfl, g16⟩
      have hz_w16 := g16.size
      replace HE := hid (HE.out.trans g16)
      replace HB_O := hid (HB_O.out.ext g16)
      replace HB_F := hid (HB_F.out.ext g16)
      replace HB_V := hid (HB_V.out.ext g16)
      replace HB_E := hid (HB_E.out.ext g16)
      replace HB_U := hid (HB_U.out.ext g16)
      replace HB_B := hid (HB_B.out.ext g16)
      replace HB_X := hid (HB_X.out.ext g16)
      replace HB_Y := hid (HB_Y.out.ext g16)
      replace HB_L := hid (HB_L.out.ext g16)
      replace HB_H := hid (HB_H.out.ext g16)
      replace HB_T := hid (HB_T.out.ext g16)
      replace ku := ku.ext g16
      replace kv := kv.ext g16
      rcases HCASE.out with rfl | ⟨rfl, hn0, hn2, q0, q1, CNT, hq0, hq1⟩
      ·obtain ⟨c_219, c_220, c_221, c_222, c_223, c_224, c_225, c_226, c_227⟩ := HB_O.out.c9
       obtain ⟨c_228, c_229⟩ := HB_F.out.c2
       obtain ⟨c_230, c_231, c_232⟩ := HB_V.out.c3
       obtain ⟨c_233, c_234⟩ := HB_E.out.c2
       obtain ⟨c_235, c_236⟩ := HB_U.out.c2
       obtain ⟨c_237, c_238⟩ := HB_B.out.c2
       obtain ⟨c_239, c_240, c_241⟩ := HB_X.out.c3
       obtain ⟨c_242, c_243, c_244⟩ := HB_Y.out.c3
       obtain ⟨c_245, c_246, c_247⟩ := HB_L.out.c3
       obtain ⟨c_248, c_249, c_250⟩ := HB_H.out.c3
       obtain ⟨c_251, c_252⟩ := HB_T.out.c2
       go_wp2_with fail
       clear c_219 c_220 c_221 c_222 c_223 c_224 c_225 c_226 c_227 c_228 c_229 c_230 c_231 c_232 c_233 c_234 c_235 c_236 c_237 c_238 c_239 c_240 c_241 c_242 c_243 c_244 c_245 c_246 c_247 c_248 c_249 c_250 c_251 c_252
       refine (CW.out _ (HP.out.ext HE.out) (HT.out.ext HE.out)).mono ?_
       rintro e w17 ⟨rfl, g17⟩
       have hz_w17 := g17.size
       replace HE := hid (HE.out.trans g17)
       replace HB_O := hid (HB_O.out.ext g17)
       replace HB_F := hid (HB_F.out.ext g17)
       replace HB_V := hid (HB_V.out.ext g17)
       replace HB_E := hid (HB_E.out.ext g17)
       replace HB_U := hid (HB_U.out.ext g17)
       replace HB_B := hid (HB_B.out.ext g17)
       replace HB_X := hid (HB_X.out.ext g17)
       replace HB_Y := hid (HB_Y.out.ext g17)
       replace HB_L := hid (HB_L.out.ext g17)
       replace HB_H := hid (HB_H.out.ext g17)
       replace HB_T := hid (HB_T.out.ext g17)
       replace ku := ku.ext g17
       replace kv := kv.ext g17
       obtain ⟨c_253, c_254, c_255, c_256, c_257, c_258, c_259, c_260, c_261⟩ := HB_O.out.c9
       obtain ⟨c_262, c_263⟩ := HB_F.out.c2
       obtain ⟨c_264, c_265, c_266⟩ := HB_V.out.c3
       obtain ⟨c_267, c_268⟩ := HB_E.out.c2
       obtain ⟨c_269, c_270⟩ := HB_U.out.c2
       obtain ⟨c_271, c_272⟩ := HB_B.out.c2
       obtain ⟨c_273, c_274, c_275⟩ := HB_X.out.c3
       obtain ⟨c_276, c_277, c_278⟩ := HB_Y.out.c3
       obtain ⟨c_279, c_280, c_281⟩ := HB_L.out.c3
       obtain ⟨c_282, c_283, c_284⟩ := HB_H.out.c3
       obtain ⟨c_285, c_286⟩ := HB_T.out.c2
       go_wp2_with fail
       clear c_253 c_254 c_255 c_256 c_257 c_258 c_259 c_260 c_261 c_262 c_263 c_264 c_265 c_266 c_267 c_268 c_269 c_270 c_271 c_272 c_273 c_274 c_275 c_276 c_277 c_278 c_279 c_280 c_281 c_282 c_283 c_284 c_285 c_286
       unfold TruePost
       refine bodyPost_ret (v := .bool true) (by simp [results, Tryz.results8, go_sem]) rfl ⟨rfl, HE.out⟩
      ·have CNT := hid CNT
       have HQ0 := hid hq0
       have HQ1 := hid hq1
       have hwn : wrap64 (nn - 1) = nn - 1 := w64r _ (by omega)
       have hwn2 : IntKind.i64.wrap (nn - 1) = nn - 1 := IntWalk.i64_in _ (by omega)
       have hnd : decide (0 < nn) = true := decide_eq_true hn0
       clear hq0 hq1 HCASE
       obtain ⟨c_219, c_220, c_221, c_222, c_223, c_224, c_225, c_226, c_227⟩ := HB_O.out.c9
       obtain ⟨c_228, c_229⟩ := HB_F.out.c2
       obtain ⟨c_230, c_231, c_232⟩ := HB_V.out.c3
       obtain ⟨c_233, c_234⟩ := HB_E.out.c2
       obtain ⟨c_235, c_236⟩ := HB_U.out.c2
       obtain ⟨c_237, c_238⟩ := HB_B.out.c2
       obtain ⟨c_239, c_240, c_241⟩ := HB_X.out.c3
       obtain ⟨c_242, c_243, c_244⟩ := HB_Y.out.c3
       obtain ⟨c_245, c_246, c_247⟩ := HB_L.out.c3
       obtain ⟨c_248, c_249, c_250⟩ := HB_H.out.c3
       obtain ⟨c_251, c_252⟩ := HB_T.out.c2
       go_wp2_with fail
       clear c_219 c_220 c_221 c_222 c_223 c_224 c_225 c_226 c_227 c_228 c_229 c_230 c_231 c_232 c_233 c_234 c_235 c_236 c_237 c_238 c_239 c_240 c_241 c_242 c_243 c_244 c_245 c_246 c_247 c_248 c_249 c_250 c_251 c_252
       refine (CNT.out _ _ kv (HT.out.ext HE.out)).mono ?_
       rintro e w17 ⟨rfl, g17⟩
       have hz_w17 := g17.size
       replace HE := hid (HE.out.trans g17)
       replace HB_O := hid (HB_O.out.ext g17)
       replace HB_F := hid (HB_F.out.ext g17)
       replace HB_V := hid (HB_V.out.ext g17)
       replace HB_E := hid (HB_E.out.ext g17)
       replace HB_U := hid (HB_U.out.ext g17)
       replace HB_B := hid (HB_B.out.ext g17)
       replace HB_X := hid (HB_X.out.ext g17)
       replace HB_Y := hid (HB_Y.out.ext g17)
       replace HB_L := hid (HB_L.out.ext g17)
       replace HB_H := hid (HB_H.out.ext g17)
       replace HB_T := hid (HB_T.out.ext g17)
       replace ku := ku.ext g17
       replace kv := kv.ext g17
       have gA := Ext.alloc w17 (.cells #[.int .u64 (q0 : Nat), .int .u64 (q1 : Nat)] 29)
       obtain ⟨c_253, c_254, c_255, c_256, c_257, c_258, c_259, c_260, c_261⟩ := (HB_O.out.ext gA).c9
       obtain ⟨c_262, c_263⟩ := (HB_F.out.ext gA).c2
       obtain ⟨c_264, c_265, c_266⟩ := (HB_V.out.ext gA).c3
       obtain ⟨c_267, c_268⟩ := (HB_E.out.ext gA).c2
       obtain ⟨c_269, c_270⟩ := (HB_U.out.ext gA).c2
       obtain ⟨c_271, c_272⟩ := (HB_B.out.ext gA).c2
       obtain ⟨c_273, c_274, c_275⟩ := (HB_X.out.ext gA).c3
       obtain ⟨c_276, c_277, c_278⟩ := (HB_Y.out.ext gA).c3
       obtain ⟨c_279, c_280, c_281⟩ := (HB_L.out.ext gA).c3
       obtain ⟨c_282, c_283, c_284⟩ := (HB_H.out.ext gA).c3
       obtain ⟨c_285, c_286⟩ := (HB_T.out.ext gA).c2
       go_wp2_with fail
       clear gA c_253 c_254 c_255 c_256 c_257 c_258 c_259 c_260 c_261 c_262 c_263 c_264 c_265 c_266 c_267 c_268 c_269 c_270 c_271 c_272 c_273 c_274 c_275 c_276 c_277 c_278 c_279 c_280 c_281 c_282 c_283 c_284 c_285 c_286
       obtain ⟨W18, hW18, g18, hy18, B_K⟩ := pro1 w17 #[.int .u64 (q0 : Nat), .int .u64 (q1 : Nat)] 29
       rw [← hW18]
       clear hW18
       have hz_W18 := g18.size
       replace HE := hid (HE.out.trans g18)
       replace HB_O := hid (HB_O.out.ext g18)
       replace HB_F := hid (HB_F.out.ext g18)
       replace HB_V := hid (HB_V.out.ext g18)
       replace HB_E := hid (HB_E.out.ext g18)
       replace HB_U := hid (HB_U.out.ext g18)
       replace HB_B := hid (HB_B.out.ext g18)
       replace HB_X := hid (HB_X.out.ext g18)
       replace HB_Y := hid (HB_Y.out.ext g18)
       replace HB_L := hid (HB_L.out.ext g18)
       replace HB_H := hid (HB_H.out.ext g18)
       replace HB_T := hid (HB_T.out.ext g18)
       replace ku := ku.ext g18
       replace kv := kv.ext g18
       have HB_K := hid B_K
       clear B_K
       obtain ⟨sg, hsg⟩ : ∃ s, s = (qa).num.sign := ⟨_, rfl⟩
       have HSG := hid hsg
       have CSG : Hid (∀ v w, NumV w v (qa) → Calls Tryz.prog 27 #[v] w fun e w' => e = .returned (.int .i64 sg) ∧ Ext w w') := hid fun v w h => by rw [hsg]; exact sign_c v _ w h
       clear hsg
       refine (CSG.out _ _ ku).mono ?_
       rintro e w19 ⟨rfl, g19⟩
       have hz_w19 := g19.size
       replace HE := hid (HE.out.trans g19)
       replace HB_O := hid (HB_O.out.ext g19)
       replace HB_F := hid (HB_F.out.ext g19)
       replace HB_V := hid (HB_V.out.ext g19)
       replace HB_E := hid (HB_E.out.ext g19)
       replace HB_U := hid (HB_U.out.ext g19)
       replace HB_B := hid (HB_B.out.ext g19)
       replace HB_X := hid (HB_X.out.ext g19)
       replace HB_Y := hid (HB_Y.out.ext g19)
       replace HB_L := hid (HB_L.out.ext g19)
       replace HB_H := hid (HB_H.out.ext g19)
       replace HB_T := hid (HB_T.out.ext g19)
       replace HB_K := hid (HB_K.out.ext g19)
       replace ku := ku.ext g19
       replace kv := kv.ext g19
       by_cases hs : sg = 0
       ·subst hs
        obtain ⟨rfl, rfl⟩ := HQ0.out (Rat.num_eq_zero.1 (Int.sign_eq_zero_iff_zero.1 HSG.out.symm))
        have HB_K2 := HB_K
        clear HB_K
        have HB_K : Hid (Box w19 (w17.heap.size) #[.int .u64 0, .int .u64 0] 29) := HB_K2
        clear HB_K2
        obtain ⟨c_287, c_288⟩ := HB_T.out.c2
        obtain ⟨f_289, f_290⟩ := HB_T.out.f2
        go_upto_region 28 with (fail)
        clear c_287 c_288 f_289 f_290
        obtain ⟨W20, hW20, g20, q20, B20, hy20, ho20⟩ := sto2 HE.out (by omega) HB_T.out (by decide) (.int .u64 0) (.int .u64 0)
        rw [← hW20]
        clear hW20
        replace HE := hid g20
        replace HB_O := hid (ho20 _ _ _ (by omega) HB_O.out)
        replace HB_F := hid (ho20 _ _ _ (by omega) HB_F.out)
        replace HB_V := hid (ho20 _ _ _ (by omega) HB_V.out)
        replace HB_E := hid (ho20 _ _ _ (by omega) HB_E.out)
        replace HB_U := hid (ho20 _ _ _ (by omega) HB_U.out)
        replace HB_B := hid (ho20 _ _ _ (by omega) HB_B.out)
        replace HB_X := hid (ho20 _ _ _ (by omega) HB_X.out)
        replace HB_Y := hid (ho20 _ _ _ (by omega) HB_Y.out)
        replace HB_L := hid (ho20 _ _ _ (by omega) HB_L.out)
        replace HB_H := hid (ho20 _ _ _ (by omega) HB_H.out)
        replace HB_K := hid (ho20 _ _ _ (by omega) HB_K.out)
        replace HB_T := hid B20
        replace ku := ku.keep q20
        replace kv := kv.keep q20
        obtain ⟨c_291, c_292, c_293, c_294, c_295, c_296, c_297, c_298, c_299⟩ := HB_O.out.c9
        obtain ⟨c_300, c_301⟩ := HB_F.out.c2
        obtain ⟨c_302, c_303, c_304⟩ := HB_V.out.c3
        obtain ⟨c_305, c_306⟩ := HB_E.out.c2
        obtain ⟨c_307, c_308⟩ := HB_U.out.c2
        obtain ⟨c_309, c_310⟩ := HB_B.out.c2
        obtain ⟨c_311, c_312, c_313⟩ := HB_X.out.c3
        obtain ⟨c_314, c_315, c_316⟩ := HB_Y.out.c3
        obtain ⟨c_317, c_318, c_319⟩ := HB_L.out.c3
        obtain ⟨c_320, c_321, c_322⟩ := HB_H.out.c3
        obtain ⟨c_323, c_324⟩ := HB_T.out.c2
        obtain ⟨c_325, c_326⟩ := HB_K.out.c2
        go_wp2_with fail
        clear c_291 c_292 c_293 c_294 c_295 c_296 c_297 c_298 c_299 c_300 c_301 c_302 c_303 c_304 c_305 c_306 c_307 c_308 c_309 c_310 c_311 c_312 c_313 c_314 c_315 c_316 c_317 c_318 c_319 c_320 c_321 c_322 c_323 c_324 c_325 c_326
        refine (CW.out _ (HP.out.ext HE.out) (HT.out.ext HE.out)).mono ?_
        rintro e w21 ⟨rfl, g21⟩
        have hz_w21 := g21.size
        replace HE := hid (HE.out.trans g21)
        replace HB_O := hid (HB_O.out.ext g21)
        replace HB_F := hid (HB_F.out.ext g21)
        replace HB_V := hid (HB_V.out.ext g21)
        replace HB_E := hid (HB_E.out.ext g21)
        replace HB_U := hid (HB_U.out.ext g21)
        replace HB_B := hid (HB_B.out.ext g21)
        replace HB_X := hid (HB_X.out.ext g21)
        replace HB_Y := hid (HB_Y.out.ext g21)
        replace HB_L := hid (HB_L.out.ext g21)
        replace HB_H := hid (HB_H.out.ext g21)
        replace HB_T := hid (HB_T.out.ext g21)
        replace HB_K := hid (HB_K.out.ext g21)
        replace ku := ku.ext g21
        replace kv := kv.ext g21
        obtain ⟨c_327, c_328, c_329, c_330, c_331, c_332, c_333, c_334, c_335⟩ := HB_O.out.c9
        obtain ⟨c_336, c_337⟩ := HB_F.out.c2
        obtain ⟨c_338, c_339, c_340⟩ := HB_V.out.c3
        obtain ⟨c_341, c_342⟩ := HB_E.out.c2
        obtain ⟨c_343, c_344⟩ := HB_U.out.c2
        obtain ⟨c_345, c_346⟩ := HB_B.out.c2
        obtain ⟨c_347, c_348, c_349⟩ := HB_X.out.c3
        obtain ⟨c_350, c_351, c_352⟩ := HB_Y.out.c3
        obtain ⟨c_353, c_354, c_355⟩ := HB_L.out.c3
        obtain ⟨c_356, c_357, c_358⟩ := HB_H.out.c3
        obtain ⟨c_359, c_360⟩ := HB_T.out.c2
        obtain ⟨c_361, c_362⟩ := HB_K.out.c2
        go_wp2_with fail
        clear c_327 c_328 c_329 c_330 c_331 c_332 c_333 c_334 c_335 c_336 c_337 c_338 c_339 c_340 c_341 c_342 c_343 c_344 c_345 c_346 c_347 c_348 c_349 c_350 c_351 c_352 c_353 c_354 c_355 c_356 c_357 c_358 c_359 c_360 c_361 c_362
        unfold TruePost
        refine bodyPost_ret (v := .bool true) (by simp [results, Tryz.results8, go_sem]) rfl ⟨rfl, HE.out⟩
       ·have hsd : (sg == 0) = false := beq_eq_false_iff_ne.2 hs
        obtain ⟨rfl, rfl⟩ := HQ1.out (fun e => hs (by rw [HSG.out, e]; rfl))
        clear hs
        obtain ⟨c_287, c_288, c_289, c_290, c_291, c_292, c_293, c_294, c_295⟩ := HB_O.out.c9
        obtain ⟨c_296, c_297⟩ := HB_F.out.c2
        obtain ⟨c_298, c_299, c_300⟩ := HB_V.out.c3
        obtain ⟨c_301, c_302⟩ := HB_E.out.c2
        obtain ⟨c_303, c_304⟩ := HB_U.out.c2
        obtain ⟨c_305, c_306⟩ := HB_B.out.c2
        obtain ⟨c_307, c_308, c_309⟩ := HB_X.out.c3
        obtain ⟨c_310, c_311, c_312⟩ := HB_Y.out.c3
        obtain ⟨c_313, c_314, c_315⟩ := HB_L.out.c3
        obtain ⟨c_316, c_317, c_318⟩ := HB_H.out.c3
        obtain ⟨c_319, c_320⟩ := HB_T.out.c2
        obtain ⟨c_321, c_322⟩ := HB_K.out.c2
        go_wp2_with fail
        clear c_287 c_288 c_289 c_290 c_291 c_292 c_293 c_294 c_295 c_296 c_297 c_298 c_299 c_300 c_301 c_302 c_303 c_304 c_305 c_306 c_307 c_308 c_309 c_310 c_311 c_312 c_313 c_314 c_315 c_316 c_317 c_318 c_319 c_320 c_321 c_322
        refine (CW.out _ (HP.out.ext HE.out) (HT.out.ext HE.out)).mono ?_
        rintro e w20 ⟨rfl, g20⟩
        have hz_w20 := g20.size
        replace HE := hid (HE.out.trans g20)
        replace HB_O := hid (HB_O.out.ext g20)
        replace HB_F := hid (HB_F.out.ext g20)
        replace HB_V := hid (HB_V.out.ext g20)
        replace HB_E := hid (HB_E.out.ext g20)
        replace HB_U := hid (HB_U.out.ext g20)
        replace HB_B := hid (HB_B.out.ext g20)
        replace HB_X := hid (HB_X.out.ext g20)
        replace HB_Y := hid (HB_Y.out.ext g20)
        replace HB_L := hid (HB_L.out.ext g20)
        replace HB_H := hid (HB_H.out.ext g20)
        replace HB_T := hid (HB_T.out.ext g20)
        replace HB_K := hid (HB_K.out.ext g20)
        replace ku := ku.ext g20
        replace kv := kv.ext g20
        obtain ⟨c_323, c_324, c_325, c_326, c_327, c_328, c_329, c_330, c_331⟩ := HB_O.out.c9
        obtain ⟨c_332, c_333⟩ := HB_F.out.c2
        obtain ⟨c_334, c_335, c_336⟩ := HB_V.out.c3
        obtain ⟨c_337, c_338⟩ := HB_E.out.c2
        obtain ⟨c_339, c_340⟩ := HB_U.out.c2
        obtain ⟨c_341, c_342⟩ := HB_B.out.c2
        obtain ⟨c_343, c_344, c_345⟩ := HB_X.out.c3
        obtain ⟨c_346, c_347, c_348⟩ := HB_Y.out.c3
        obtain ⟨c_349, c_350, c_351⟩ := HB_L.out.c3
        obtain ⟨c_352, c_353, c_354⟩ := HB_H.out.c3
        obtain ⟨c_355, c_356⟩ := HB_T.out.c2
        obtain ⟨c_357, c_358⟩ := HB_K.out.c2
        go_wp2_with fail
        clear c_323 c_324 c_325 c_326 c_327 c_328 c_329 c_330 c_331 c_332 c_333 c_334 c_335 c_336 c_337 c_338 c_339 c_340 c_341 c_342 c_343 c_344 c_345 c_346 c_347 c_348 c_349 c_350 c_351 c_352 c_353 c_354 c_355 c_356 c_357 c_358
        unfold TruePost
        refine bodyPost_ret (v := .bool true) (by simp [results, Tryz.results8, go_sem]) rfl ⟨rfl, HE.out⟩
     ·have hdc : decide (0 < cc) = false := decide_eq_false hcc
      have HTL := HL2.out (by omega)
      clear hcc
      obtain ⟨c_154, c_155, c_156, c_157, c_158, c_159, c_160, c_161, c_162⟩ := HB_O.out.c9
      obtain ⟨c_163, c_164⟩ := HB_F.out.c2
      obtain ⟨c_165, c_166, c_167⟩ := HB_V.out.c3
      obtain ⟨c_168, c_169⟩ := HB_E.out.c2
      obtain ⟨c_170, c_171⟩ := HB_U.out.c2
      obtain ⟨c_172, c_173⟩ := HB_B.out.c2
      obtain ⟨c_174, c_175, c_176⟩ := HB_X.out.c3
      obtain ⟨c_177, c_178, c_179⟩ := HB_Y.out.c3
      obtain ⟨c_180, c_181, c_182⟩ := HB_L.out.c3
      obtain ⟨c_183, c_184, c_185⟩ := HB_H.out.c3
      obtain ⟨c_186, c_187⟩ := HB_T.out.c2
      go_wp2_with fail
      clear c_154 c_155 c_156 c_157 c_158 c_159 c_160 c_161 c_162 c_163 c_164 c_165 c_166 c_167 c_168 c_169 c_170 c_171 c_172 c_173 c_174 c_175 c_176 c_177 c_178 c_179 c_180 c_181 c_182 c_183 c_184 c_185 c_186 c_187
      obtain ⟨nn, ee, CC, hcase⟩ := HTL
      have CC := hid CC
      have HCASE := hid hcase
      clear hcase
      refine (CC.out _ _ _ ku kv (HT.out.ext HE.out)).mono ?_
      rintro e w13 ⟨rfl, g13⟩
      have hz_w13 := g13.size
      replace HE := hid (HE.out.trans g13)
      replace HB_O := hid (HB_O.out.ext g13)
      replace HB_F := hid (HB_F.out.ext g13)
      replace HB_V := hid (HB_V.out.ext g13)
      replace HB_E := hid (HB_E.out.ext g13)
      replace HB_U := hid (HB_U.out.ext g13)
      replace HB_B := hid (HB_B.out.ext g13)
      replace HB_X := hid (HB_X.out.ext g13)
      replace HB_Y := hid (HB_Y.out.ext g13)
      replace HB_L := hid (HB_L.out.ext g13)
      replace HB_H := hid (HB_H.out.ext g13)
      replace HB_T := hid (HB_T.out.ext g13)
      replace ku := ku.ext g13
      replace kv := kv.ext g13
      rcases HCASE.out with rfl | ⟨rfl, hn0, hn2, q0, q1, CNT, hq0, hq1⟩
      ·obtain ⟨c_188, c_189, c_190, c_191, c_192, c_193, c_194, c_195, c_196⟩ := HB_O.out.c9
       obtain ⟨c_197, c_198⟩ := HB_F.out.c2
       obtain ⟨c_199, c_200, c_201⟩ := HB_V.out.c3
       obtain ⟨c_202, c_203⟩ := HB_E.out.c2
       obtain ⟨c_204, c_205⟩ := HB_U.out.c2
       obtain ⟨c_206, c_207⟩ := HB_B.out.c2
       obtain ⟨c_208, c_209, c_210⟩ := HB_X.out.c3
       obtain ⟨c_211, c_212, c_213⟩ := HB_Y.out.c3
       obtain ⟨c_214, c_215, c_216⟩ := HB_L.out.c3
       obtain ⟨c_217, c_218, c_219⟩ := HB_H.out.c3
       obtain ⟨c_220, c_221⟩ := HB_T.out.c2
       go_wp2_with fail
       clear c_188 c_189 c_190 c_191 c_192 c_193 c_194 c_195 c_196 c_197 c_198 c_199 c_200 c_201 c_202 c_203 c_204 c_205 c_206 c_207 c_208 c_209 c_210 c_211 c_212 c_213 c_214 c_215 c_216 c_217 c_218 c_219 c_220 c_221
       refine (CW.out _ (HP.out.ext HE.out) (HT.out.ext HE.out)).mono ?_
       rintro e w14 ⟨rfl, g14⟩
       have hz_w14 := g14.size
       replace HE := hid (HE.out.trans g14)
       replace HB_O := hid (HB_O.out.ext g14)
       replace HB_F := hid (HB_F.out.ext g14)
       replace HB_V := hid (HB_V.out.ext g14)
       replace HB_E := hid (HB_E.out.ext g14)
       replace HB_U := hid (HB_U.out.ext g14)
       replace HB_B := hid (HB_B.out.ext g14)
       replace HB_X := hid (HB_X.out.ext g14)
       replace HB_Y := hid (HB_Y.out.ext g14)
       replace HB_L := hid (HB_L.out.ext g14)
       replace HB_H := hid (HB_H.out.ext g14)
       replace HB_T := hid (HB_T.out.ext g14)
       replace ku := ku.ext g14
       replace kv := kv.ext g14
       obtain ⟨c_222, c_223, c_224, c_225, c_226, c_227, c_228, c_229, c_230⟩ := HB_O.out.c9
       obtain ⟨c_231, c_232⟩ := HB_F.out.c2
       obtain ⟨c_233, c_234, c_235⟩ := HB_V.out.c3
       obtain ⟨c_236, c_237⟩ := HB_E.out.c2
       obtain ⟨c_238, c_239⟩ := HB_U.out.c2
       obtain ⟨c_240, c_241⟩ := HB_B.out.c2
       obtain ⟨c_242, c_243, c_244⟩ := HB_X.out.c3
       obtain ⟨c_245, c_246, c_247⟩ := HB_Y.out.c3
       obtain ⟨c_248, c_249, c_250⟩ := HB_L.out.c3
       obtain ⟨c_251, c_252, c_253⟩ := HB_H.out.c3
       obtain ⟨c_254, c_255⟩ := HB_T.out.c2
       go_wp2_with fail
       clear c_222 c_223 c_224 c_225 c_226 c_227 c_228 c_229 c_230 c_231 c_232 c_233 c_234 c_235 c_236 c_237 c_238 c_239 c_240 c_241 c_242 c_243 c_244 c_245 c_246 c_247 c_248 c_249 c_250 c_251 c_252 c_253 c_254 c_255
       unfold TruePost
       refine bodyPost_ret (v := .bool true) (by simp [results, Tryz.results8, go_sem]) rfl ⟨rfl, HE.out⟩
      ·have CNT := hid CNT
       have HQ0 := hid hq0
       have HQ1 := hid hq1
       have hwn : wrap64 (nn - 1) = nn - 1 := w64r _ (by omega)
       have hwn2 : IntKind.i64.wrap (nn - 1) = nn - 1 := IntWalk.i64_in _ (by omega)
       have hnd : decide (0 < nn) = true := decide_eq_true hn0
       clear hq0 hq1 HCASE
       obtain ⟨c_188, c_189, c_190, c_191, c_192, c_193, c_194, c_195, c_196⟩ := HB_O.out.c9
       obtain ⟨c_197, c_198⟩ := HB_F.out.c2
       obtain ⟨c_199, c_200, c_201⟩ := HB_V.out.c3
       obtain ⟨c_202, c_203⟩ := HB_E.out.c2
       obtain ⟨c_204, c_205⟩ := HB_U.out.c2
       obtain ⟨c_206, c_207⟩ := HB_B.out.c2
       obtain ⟨c_208, c_209, c_210⟩ := HB_X.out.c3
       obtain ⟨c_211, c_212, c_213⟩ := HB_Y.out.c3
       obtain ⟨c_214, c_215, c_216⟩ := HB_L.out.c3
       obtain ⟨c_217, c_218, c_219⟩ := HB_H.out.c3
       obtain ⟨c_220, c_221⟩ := HB_T.out.c2
       go_wp2_with fail
       clear c_188 c_189 c_190 c_191 c_192 c_193 c_194 c_195 c_196 c_197 c_198 c_199 c_200 c_201 c_202 c_203 c_204 c_205 c_206 c_207 c_208 c_209 c_210 c_211 c_212 c_213 c_214 c_215 c_216 c_217 c_218 c_219 c_220 c_221
       refine (CNT.out _ _ ku (HT.out.ext HE.out)).mono ?_
       rintro e w14 ⟨rfl, g14⟩
       have hz_w14 := g14.size
       replace HE := hid (HE.out.trans g14)
       replace HB_O := hid (HB_O.out.ext g14)
       replace HB_F := hid (HB_F.out.ext g14)
       replace HB_V := hid (HB_V.out.ext g14)
       replace HB_E := hid (HB_E.out.ext g14)
       replace HB_U := hid (HB_U.out.ext g14)
       replace HB_B := hid (HB_B.out.ext g14)
       replace HB_X := hid (HB_X.out.ext g14)
       replace HB_Y := hid (HB_Y.out.ext g14)
       replace HB_L := hid (HB_L.out.ext g14)
       replace HB_H := hid (HB_H.out.ext g14)
       replace HB_T := hid (HB_T.out.ext g14)
       replace ku := ku.ext g14
       replace kv := kv.ext g14
       have gA := Ext.alloc w14 (.cells #[.int .u64 (q0 : Nat), .int .u64 (q1 : Nat)] 29)
       obtain ⟨c_222, c_223, c_224, c_225, c_226, c_227, c_228, c_229, c_230⟩ := (HB_O.out.ext gA).c9
       obtain ⟨c_231, c_232⟩ := (HB_F.out.ext gA).c2
       obtain ⟨c_233, c_234, c_235⟩ := (HB_V.out.ext gA).c3
       obtain ⟨c_236, c_237⟩ := (HB_E.out.ext gA).c2
       obtain ⟨c_238, c_239⟩ := (HB_U.out.ext gA).c2
       obtain ⟨c_240, c_241⟩ := (HB_B.out.ext gA).c2
       obtain ⟨c_242, c_243, c_244⟩ := (HB_X.out.ext gA).c3
       obtain ⟨c_245, c_246, c_247⟩ := (HB_Y.out.ext gA).c3
       obtain ⟨c_248, c_249, c_250⟩ := (HB_L.out.ext gA).c3
       obtain ⟨c_251, c_252, c_253⟩ := (HB_H.out.ext gA).c3
       obtain ⟨c_254, c_255⟩ := (HB_T.out.ext gA).c2
       go_wp2_with fail
       clear gA c_222 c_223 c_224 c_225 c_226 c_227 c_228 c_229 c_230 c_231 c_232 c_233 c_234 c_235 c_236 c_237 c_238 c_239 c_240 c_241 c_242 c_243 c_244 c_245 c_246 c_247 c_248 c_249 c_250 c_251 c_252 c_253 c_254 c_255
       obtain ⟨W15, hW15, g15, hy15, B_K⟩ := pro1 w14 #[.int .u64 (q0 : Nat), .int .u64 (q1 : Nat)] 29
       rw [← hW15]
       clear hW15
       have hz_W15 := g15.size
       replace HE := hid (HE.out.trans g15)
       replace HB_O := hid (HB_O.out.ext g15)
       replace HB_F := hid (HB_F.out.ext g15)
       replace HB_V := hid (HB_V.out.ext g15)
       replace HB_E := hid (HB_E.out.ext g15)
       replace HB_U := hid (HB_U.out.ext g15)
       replace HB_B := hid (HB_B.out.ext g15)
       replace HB_X := hid (HB_X.out.ext g15)
       replace HB_Y := hid (HB_Y.out.ext g15)
       replace HB_L := hid (HB_L.out.ext g15)
       replace HB_H := hid (HB_H.out.ext g15)
       replace HB_T := hid (HB_T.out.ext g15)
       replace ku := ku.ext g15
       replace kv := kv.ext g15
       have HB_K := hid B_K
       clear B_K
       obtain ⟨sg, hsg⟩ : ∃ s, s = (qb).num.sign := ⟨_, rfl⟩
       have HSG := hid hsg
       have CSG : Hid (∀ v w, NumV w v (qb) → Calls Tryz.prog 27 #[v] w fun e w' => e = .returned (.int .i64 sg) ∧ Ext w w') := hid fun v w h => by rw [hsg]; exact sign_c v _ w h
       clear hsg
       refine (CSG.out _ _ kv).mono ?_
       rintro e w16 ⟨rfl, g16⟩
       have hz_w16 := g16.size
       replace HE := hid (HE.out.trans g16)
       replace HB_O := hid (HB_O.out.ext g16)
       replace HB_F := hid (HB_F.out.ext g16)
       replace HB_V := hid (HB_V.out.ext g16)
       replace HB_E := hid (HB_E.out.ext g16)
       replace HB_U := hid (HB_U.out.ext g16)
       replace HB_B := hid (HB_B.out.ext g16)
       replace HB_X := hid (HB_X.out.ext g16)
       replace HB_Y := hid (HB_Y.out.ext g16)
       replace HB_L := hid (HB_L.out.ext g16)
       replace HB_H := hid (HB_H.out.ext g16)
       replace HB_T := hid (HB_T.out.ext g16)
       replace HB_K := hid (HB_K.out.ext g16)
       replace ku := ku.ext g16
       replace kv := kv.ext g16
       by_cases hs : sg = 0
       ·subst hs
        obtain ⟨rfl, rfl⟩ := HQ0.out (Rat.num_eq_zero.1 (Int.sign_eq_zero_iff_zero.1 HSG.out.symm))
        have HB_K2 := HB_K
        clear HB_K
        have HB_K : Hid (Box w16 (w14.heap.size) #[.int .u64 0, .int .u64 0] 29) := HB_K2
        clear HB_K2
        obtain ⟨c_256, c_257⟩ := HB_T.out.c2
        obtain ⟨f_258, f_259⟩ := HB_T.out.f2
        go_upto_region 28 with (fail)
        clear c_256 c_257 f_258 f_259
        obtain ⟨W17, hW17, g17, q17, B17, hy17, ho17⟩ := sto2 HE.out (by omega) HB_T.out (by decide) (.int .u64 0) (.int .u64 0)
        rw [← hW17]
        clear hW17
        replace HE := hid g17
        replace HB_O := hid (ho17 _ _ _ (by omega) HB_O.out)
        replace HB_F := hid (ho17 _ _ _ (by omega) HB_F.out)
        replace HB_V := hid (ho17 _ _ _ (by omega) HB_V.out)
        replace HB_E := hid (ho17 _ _ _ (by omega) HB_E.out)
        replace HB_U := hid (ho17 _ _ _ (by omega) HB_U.out)
        replace HB_B := hid (ho17 _ _ _ (by omega) HB_B.out)
        replace HB_X := hid (ho17 _ _ _ (by omega) HB_X.out)
        replace HB_Y := hid (ho17 _ _ _ (by omega) HB_Y.out)
        replace HB_L := hid (ho17 _ _ _ (by omega) HB_L.out)
        replace HB_H := hid (ho17 _ _ _ (by omega) HB_H.out)
        replace HB_K := hid (ho17 _ _ _ (by omega) HB_K.out)
        replace HB_T := hid B17
        replace ku := ku.keep q17
        replace kv := kv.keep q17
        obtain ⟨c_260, c_261, c_262, c_263, c_264, c_265, c_266, c_267, c_268⟩ := HB_O.out.c9
        obtain ⟨c_269, c_270⟩ := HB_F.out.c2
        obtain ⟨c_271, c_272, c_273⟩ := HB_V.out.c3
        obtain ⟨c_274, c_275⟩ := HB_E.out.c2
        obtain ⟨c_276, c_277⟩ := HB_U.out.c2
        obtain ⟨c_278, c_279⟩ := HB_B.out.c2
        obtain ⟨c_280, c_281, c_282⟩ := HB_X.out.c3
        obtain ⟨c_283, c_284, c_285⟩ := HB_Y.out.c3
        obtain ⟨c_286, c_287, c_288⟩ := HB_L.out.c3
        obtain ⟨c_289, c_290, c_291⟩ := HB_H.out.c3
        obtain ⟨c_292, c_293⟩ := HB_T.out.c2
        obtain ⟨c_294, c_295⟩ := HB_K.out.c2
        go_wp2_with fail
        clear c_260 c_261 c_262 c_263 c_264 c_265 c_266 c_267 c_268 c_269 c_270 c_271 c_272 c_273 c_274 c_275 c_276 c_277 c_278 c_279 c_280 c_281 c_282 c_283 c_284 c_285 c_286 c_287 c_288 c_289 c_290 c_291 c_292 c_293 c_294 c_295
        refine (CW.out _ (HP.out.ext HE.out) (HT.out.ext HE.out)).mono ?_
        rintro e w18 ⟨rfl, g18⟩
        have hz_w18 := g18.size
        replace HE := hid (HE.out.trans g18)
        replace HB_O := hid (HB_O.out.ext g18)
        replace HB_F := hid (HB_F.out.ext g18)
        replace HB_V := hid (HB_V.out.ext g18)
        replace HB_E := hid (HB_E.out.ext g18)
        replace HB_U := hid (HB_U.out.ext g18)
        replace HB_B := hid (HB_B.out.ext g18)
        replace HB_X := hid (HB_X.out.ext g18)
        replace HB_Y := hid (HB_Y.out.ext g18)
        replace HB_L := hid (HB_L.out.ext g18)
        replace HB_H := hid (HB_H.out.ext g18)
        replace HB_T := hid (HB_T.out.ext g18)
        replace HB_K := hid (HB_K.out.ext g18)
        replace ku := ku.ext g18
        replace kv := kv.ext g18
        obtain ⟨c_296, c_297, c_298, c_299, c_300, c_301, c_302, c_303, c_304⟩ := HB_O.out.c9
        obtain ⟨c_305, c_306⟩ := HB_F.out.c2
        obtain ⟨c_307, c_308, c_309⟩ := HB_V.out.c3
        obtain ⟨c_310, c_311⟩ := HB_E.out.c2
        obtain ⟨c_312, c_313⟩ := HB_U.out.c2
        obtain ⟨c_314, c_315⟩ := HB_B.out.c2
        obtain ⟨c_316, c_317, c_318⟩ := HB_X.out.c3
        obtain ⟨c_319, c_320, c_321⟩ := HB_Y.out.c3
        obtain ⟨c_322, c_323, c_324⟩ := HB_L.out.c3
        obtain ⟨c_325, c_326, c_327⟩ := HB_H.out.c3
        obtain ⟨c_328, c_329⟩ := HB_T.out.c2
        obtain ⟨c_330, c_331⟩ := HB_K.out.c2
        go_wp2_with fail
        clear c_296 c_297 c_298 c_299 c_300 c_301 c_302 c_303 c_304 c_305 c_306 c_307 c_308 c_309 c_310 c_311 c_312 c_313 c_314 c_315 c_316 c_317 c_318 c_319 c_320 c_321 c_322 c_323 c_324 c_325 c_326 c_327 c_328 c_329 c_330 c_331
        unfold TruePost
        refine bodyPost_ret (v := .bool true) (by simp [results, Tryz.results8, go_sem]) rfl ⟨rfl, HE.out⟩
       ·have hsd : (sg == 0) = false := beq_eq_false_iff_ne.2 hs
        obtain ⟨rfl, rfl⟩ := HQ1.out (fun e => hs (by rw [HSG.out, e]; rfl))
        clear hs
        obtain ⟨c_256, c_257, c_258, c_259, c_260, c_261, c_262, c_263, c_264⟩ := HB_O.out.c9
        obtain ⟨c_265, c_266⟩ := HB_F.out.c2
        obtain ⟨c_267, c_268, c_269⟩ := HB_V.out.c3
        obtain ⟨c_270, c_271⟩ := HB_E.out.c2
        obtain ⟨c_272, c_273⟩ := HB_U.out.c2
        obtain ⟨c_274, c_275⟩ := HB_B.out.c2
        obtain ⟨c_276, c_277, c_278⟩ := HB_X.out.c3
        obtain ⟨c_279, c_280, c_281⟩ := HB_Y.out.c3
        obtain ⟨c_282, c_283, c_284⟩ := HB_L.out.c3
        obtain ⟨c_285, c_286, c_287⟩ := HB_H.out.c3
        obtain ⟨c_288, c_289⟩ := HB_T.out.c2
        obtain ⟨c_290, c_291⟩ := HB_K.out.c2
        go_wp2_with fail
        clear c_256 c_257 c_258 c_259 c_260 c_261 c_262 c_263 c_264 c_265 c_266 c_267 c_268 c_269 c_270 c_271 c_272 c_273 c_274 c_275 c_276 c_277 c_278 c_279 c_280 c_281 c_282 c_283 c_284 c_285 c_286 c_287 c_288 c_289 c_290 c_291
        refine (CW.out _ (HP.out.ext HE.out) (HT.out.ext HE.out)).mono ?_
        rintro e w17 ⟨rfl, g17⟩
        have hz_w17 := g17.size
        replace HE := hid (HE.out.trans g17)
        replace HB_O := hid (HB_O.out.ext g17)
        replace HB_F := hid (HB_F.out.ext g17)
        replace HB_V := hid (HB_V.out.ext g17)
        replace HB_E := hid (HB_E.out.ext g17)
        replace HB_U := hid (HB_U.out.ext g17)
        replace HB_B := hid (HB_B.out.ext g17)
        replace HB_X := hid (HB_X.out.ext g17)
        replace HB_Y := hid (HB_Y.out.ext g17)
        replace HB_L := hid (HB_L.out.ext g17)
        replace HB_H := hid (HB_H.out.ext g17)
        replace HB_T := hid (HB_T.out.ext g17)
        replace HB_K := hid (HB_K.out.ext g17)
        replace ku := ku.ext g17
        replace kv := kv.ext g17
        obtain ⟨c_292, c_293, c_294, c_295, c_296, c_297, c_298, c_299, c_300⟩ := HB_O.out.c9
        obtain ⟨c_301, c_302⟩ := HB_F.out.c2
        obtain ⟨c_303, c_304, c_305⟩ := HB_V.out.c3
        obtain ⟨c_306, c_307⟩ := HB_E.out.c2
        obtain ⟨c_308, c_309⟩ := HB_U.out.c2
        obtain ⟨c_310, c_311⟩ := HB_B.out.c2
        obtain ⟨c_312, c_313, c_314⟩ := HB_X.out.c3
        obtain ⟨c_315, c_316, c_317⟩ := HB_Y.out.c3
        obtain ⟨c_318, c_319, c_320⟩ := HB_L.out.c3
        obtain ⟨c_321, c_322, c_323⟩ := HB_H.out.c3
        obtain ⟨c_324, c_325⟩ := HB_T.out.c2
        obtain ⟨c_326, c_327⟩ := HB_K.out.c2
        go_wp2_with fail
        clear c_292 c_293 c_294 c_295 c_296 c_297 c_298 c_299 c_300 c_301 c_302 c_303 c_304 c_305 c_306 c_307 c_308 c_309 c_310 c_311 c_312 c_313 c_314 c_315 c_316 c_317 c_318 c_319 c_320 c_321 c_322 c_323 c_324 c_325 c_326 c_327
        unfold TruePost
        refine bodyPost_ret (v := .bool true) (by simp [results, Tryz.results8, go_sem]) rfl ⟨rfl, HE.out⟩
   ·have HBL : Hid ((decide (za = 0) && decide (zb = 0)) = false) := hid (by rw [Bool.and_eq_false_iff]; by_cases h : za = 0; exact .inr (decide_eq_false (fun k => hz ⟨h, k⟩)); exact .inl (decide_eq_false h))
    clear hz
    rw [HBL.out]
    have gA := Ext.trans (Ext.alloc w10 (.cells #[.bool ngu, .slice au nu cu, .slice au' nu' cu'] 40)) (Ext.alloc _ (.cells #[.bool ngv, .slice av nv cv, .slice av' nv' cv'] 40))
    obtain ⟨c_100, c_101, c_102, c_103, c_104, c_105, c_106, c_107, c_108⟩ := (HB_O.out.ext gA).c9
    obtain ⟨c_109, c_110⟩ := (HB_F.out.ext gA).c2
    obtain ⟨c_111, c_112, c_113⟩ := (HB_V.out.ext gA).c3
    obtain ⟨c_114, c_115⟩ := (HB_E.out.ext gA).c2
    obtain ⟨c_116, c_117⟩ := (HB_U.out.ext gA).c2
    obtain ⟨c_118, c_119⟩ := (HB_B.out.ext gA).c2
    go_upto_region 18 with (fail)
    clear gA c_100 c_101 c_102 c_103 c_104 c_105 c_106 c_107 c_108 c_109 c_110 c_111 c_112 c_113 c_114 c_115 c_116 c_117 c_118 c_119
    obtain ⟨W11, hW11, g11, hy11, B_X, B_Y⟩ := pro2s w10 #[.bool ngu, .slice au nu cu, .slice au' nu' cu'] #[.bool ngv, .slice av nv cv, .slice av' nv' cv'] 40 40
    rw [← hW11]
    clear hW11
    have hz_W11 := g11.size
    replace HE := hid (HE.out.trans g11)
    replace HB_O := hid (HB_O.out.ext g11)
    replace HB_F := hid (HB_F.out.ext g11)
    replace HB_V := hid (HB_V.out.ext g11)
    replace HB_E := hid (HB_E.out.ext g11)
    replace HB_U := hid (HB_U.out.ext g11)
    replace HB_B := hid (HB_B.out.ext g11)
    replace ku := ku.ext g11
    replace kv := kv.ext g11
    have HB_X := hid B_X
    have HB_Y := hid B_Y
    clear B_X B_Y
    obtain ⟨c_120, c_121, c_122, c_123, c_124, c_125, c_126, c_127, c_128⟩ := HB_O.out.c9
    obtain ⟨c_129, c_130⟩ := HB_F.out.c2
    obtain ⟨c_131, c_132, c_133⟩ := HB_V.out.c3
    obtain ⟨c_134, c_135⟩ := HB_E.out.c2
    obtain ⟨c_136, c_137⟩ := HB_U.out.c2
    obtain ⟨c_138, c_139⟩ := HB_B.out.c2
    obtain ⟨c_140, c_141, c_142⟩ := HB_X.out.c3
    obtain ⟨c_143, c_144, c_145⟩ := HB_Y.out.c3
    go_wp2_with fail
    clear c_120 c_121 c_122 c_123 c_124 c_125 c_126 c_127 c_128 c_129 c_130 c_131 c_132 c_133 c_134 c_135 c_136 c_137 c_138 c_139 c_140 c_141 c_142 c_143 c_144 c_145
    refine (CW.out _ (HP.out.ext HE.out) (HT.out.ext HE.out)).mono ?_
    rintro e w12 ⟨rfl, g12⟩
    have hz_w12 := g12.size
    replace HE := hid (HE.out.trans g12)
    replace HB_O := hid (HB_O.out.ext g12)
    replace HB_F := hid (HB_F.out.ext g12)
    replace HB_V := hid (HB_V.out.ext g12)
    replace HB_E := hid (HB_E.out.ext g12)
    replace HB_U := hid (HB_U.out.ext g12)
    replace HB_B := hid (HB_B.out.ext g12)
    replace HB_X := hid (HB_X.out.ext g12)
    replace HB_Y := hid (HB_Y.out.ext g12)
    replace ku := ku.ext g12
    replace kv := kv.ext g12
    obtain ⟨c_146, c_147, c_148, c_149, c_150, c_151, c_152, c_153, c_154⟩ := HB_O.out.c9
    obtain ⟨c_155, c_156⟩ := HB_F.out.c2
    obtain ⟨c_157, c_158, c_159⟩ := HB_V.out.c3
    obtain ⟨c_160, c_161⟩ := HB_E.out.c2
    obtain ⟨c_162, c_163⟩ := HB_U.out.c2
    obtain ⟨c_164, c_165⟩ := HB_B.out.c2
    obtain ⟨c_166, c_167, c_168⟩ := HB_X.out.c3
    obtain ⟨c_169, c_170, c_171⟩ := HB_Y.out.c3
    go_wp2_with fail
    clear c_146 c_147 c_148 c_149 c_150 c_151 c_152 c_153 c_154 c_155 c_156 c_157 c_158 c_159 c_160 c_161 c_162 c_163 c_164 c_165 c_166 c_167 c_168 c_169 c_170 c_171
    unfold TruePost
    refine bodyPost_ret (v := .bool true) (by simp [results, Tryz.results8, go_sem]) rfl ⟨rfl, HE.out⟩
end Go.Proofs.YtopmjkkjlagfcaaGreatDoor
