/- the law FloatsRemains, over contracts. -/
import Derived.Test.YtpjpaiaaimmngaaGreatDoorM47
import Derived.Test.YtpjpaiaaimmngaaGreatDoorM36
import Derived.Test.YtpjpaiaaimmngaaGreatDoorR03
import Derived.Test.YtpjpaiaaimmngaaGreatDoorM48
namespace Go.Proofs.YtpjpaiaaimmngaaGreatDoor
open Go.RowKit Vn

/-- the remainder, in an abstract form. -/
def RemOk (E P : Int) (i0 i1 j0 j1 : Nat) (qa qb : Rat) : Prop := ∃ (r0 r1 : Nat) (fl : Int) (v : Rat) (z : Int), (∀ w, Tabs w → Calls Tryz.prog 16 #[.agg #[.int .i64 E, .int .i64 P], .agg #[.int .u64 (i0 : Nat), .int .u64 (i1 : Nat)], .agg #[.int .u64 (j0 : Nat), .int .u64 (j1 : Nat)]] w fun e w' => e = .returned (.tuple #[.agg #[.int .u64 r0, .int .u64 r1], .int .i64 fl, .int .i64 0]) ∧ Ext w w') ∧
  (∀ w, Calls Tryz.prog 12 #[.agg #[.int .i64 E, .int .i64 P], .agg #[.int .u64 r0, .int .u64 r1]] w (NumErr v z w)) ∧
  ((qb = 0 ∧ z = 4 ∧ fl = 1) ∨ (qb ≠ 0 ∧ z = 0 ∧ fl = 0 ∧ SmQ 5000 v ∧ absQ v + absQ v ≤ absQ qb ∧ ∃ t : Int, qa - v = qb * (t : Rat)))
theorem absQ_twice (v : Rat) : absQ (v + v) = absQ v + absQ v := by
  rcases Rat.le_total (a := 0) (b := v) with g | g
  · rw [absQ_nonneg g, absQ_nonneg (by grind)]
  · have g' : 0 ≤ -v := by grind
    rw [← absQ_neg v, absQ_nonneg g', ← absQ_neg (v + v), absQ_nonneg (by grind)]; grind
theorem cmpQ_small {q r : Rat} (h : q ≤ r) : cmpQ q r ≤ 0 := by
  have : ¬ r < q := Rat.not_lt.2 h
  unfold cmpQ
  split
  · decide
  · simp

set_option maxRecDepth 100000 in
set_option maxHeartbeats 4000000 in
theorem remains_x (E P M : Int) (i0 i1 j0 j1 : Nat) (c0 c1 : Int) (qa qb : Rat) (za zb : Int) (w : World) (hza : za = 0 ∨ za = 2 ∨ za = 4 ∨ za = 6) (hzb : zb = 0 ∨ zb = 2 ∨ zb = 4 ∨ zb = 6) (CA : Hid (∀ w, Calls Tryz.prog 12 #[.agg #[.int .i64 E, .int .i64 P], .agg #[.int .u64 (i0 : Nat), .int .u64 (i1 : Nat)]] w (NumErr qa za w))) (CB : Hid (∀ w, Calls Tryz.prog 12 #[.agg #[.int .i64 E, .int .i64 P], .agg #[.int .u64 (j0 : Nat), .int .u64 (j1 : Nat)]] w (NumErr qb zb w))) (sa : SmQ 5000 qa) (sb : SmQ 5000 qb) (hw : WM w) (hT : Tabs w) (HG : Hid (za = 0 ∧ zb = 0 → RemOk E P i0 i1 j0 j1 qa qb)) :
   Calls Tryz.prog 5 #[.agg #[.int .i64 E, .int .i64 P, .int .i64 M, .int .u64 (i0 : Nat), .int .u64 (i1 : Nat), .int .u64 (j0 : Nat), .int .u64 (j1 : Nat), .int .u64 c0, .int .u64 c1]] w fun e w' => TruePost w e w' := by
  have CN : Hid (∀ w, Calls Tryz.prog 6 #[.agg #[.int .i64 E, .int .i64 P, .int .i64 M, .int .u64 (i0 : Nat), .int .u64 (i1 : Nat), .int .u64 (j0 : Nat), .int .u64 (j1 : Nat), .int .u64 c0, .int .u64 c1]] w (TwoNums qa za qb zb w)) := hid fun w => numbers_x E P M i0 i1 j0 j1 c0 c1 qa za qb zb w hza hzb CA CB
  have CW : Hid (∀ w, WM w → Tabs w → Calls Tryz.prog 10 #[] w fun e w' => e = .returned (.bool true) ∧ Ext w w') := hid fun w h k => awake_c w h k
  have HSA := hid sa; have HSB := hid sb
  have HP := hid hw
  have HT := hid hT
  clear hza hzb CA CB sa sb hw hT
  obtain ⟨W0, hW0, g0, hz0, B_O⟩ := pro1 w #[.int .i64 E, .int .i64 P, .int .i64 M, .int .u64 (i0 : Nat), .int .u64 (i1 : Nat), .int .u64 (j0 : Nat), .int .u64 (j1 : Nat), .int .u64 c0, .int .u64 c1] 28
  have HE := hid g0
  have HB_O := hid B_O
  clear g0 B_O 
  go_enter Tryz.func5, Tryz.ntmps5
  go_upto_region 1 with (fail)
  rw [← hW0]
  clear hW0
  obtain ⟨c_1, c_2, c_3, c_4, c_5, c_6, c_7, c_8, c_9⟩ := HB_O.out.c9
  go_wp2_with fail
  clear c_1 c_2 c_3 c_4 c_5 c_6 c_7 c_8 c_9
  refine (CN.out _).mono ?_
  rintro e w1 ⟨u, v, rfl, ku, kv, g1⟩
  have hz_w1 := g1.size
  replace HE := hid (HE.out.trans g1)
  replace HB_O := hid (HB_O.out.ext g1)
  obtain ⟨ngu, au, nu, cu, au', nu', cu', rfl⟩ := ku.shape
  obtain ⟨ngv, av, nv, cv, av', nv', cv', rfl⟩ := kv.shape
  by_cases hz : za = 0 ∧ zb = 0
  · have HBL : Hid ((decide (za = 0) && decide (zb = 0)) = true) := hid (by rw [hz.1, hz.2]; rfl)
    have HZ := hid hz
    clear hz
    rw [HBL.out]
    have gA := Ext.trans (Ext.alloc w1 (.cells #[.bool ngu, .slice au nu cu, .slice au' nu' cu'] 32)) (Ext.alloc _ (.cells #[.bool ngv, .slice av nv cv, .slice av' nv' cv'] 32))
    obtain ⟨c_10, c_11, c_12, c_13, c_14, c_15, c_16, c_17, c_18⟩ := (HB_O.out.ext gA).c9
    go_upto_region 2 with (fail)
    clear gA c_10 c_11 c_12 c_13 c_14 c_15 c_16 c_17 c_18
    obtain ⟨W2, hW2, g2, hy2, B_X, B_Y⟩ := pro2s w1 #[.bool ngu, .slice au nu cu, .slice au' nu' cu'] #[.bool ngv, .slice av nv cv, .slice av' nv' cv'] 32 32
    rw [← hW2]
    clear hW2
    have hz_W2 := g2.size
    replace HE := hid (HE.out.trans g2)
    replace HB_O := hid (HB_O.out.ext g2)
    replace ku := ku.ext g2
    replace kv := kv.ext g2
    have HB_X := hid B_X
    have HB_Y := hid B_Y
    clear B_X B_Y
    obtain ⟨r0, r1, fl, v, z, CS, CV, hcase⟩ := HG.out HZ.out
    have CS := hid CS
    have CV := hid CV
    have HCS := hid hcase
    clear hcase
    obtain ⟨c_19, c_20, c_21, c_22, c_23, c_24, c_25, c_26, c_27⟩ := HB_O.out.c9
    obtain ⟨c_28, c_29, c_30⟩ := HB_X.out.c3
    obtain ⟨c_31, c_32, c_33⟩ := HB_Y.out.c3
    go_wp2_with fail
    clear c_19 c_20 c_21 c_22 c_23 c_24 c_25 c_26 c_27 c_28 c_29 c_30 c_31 c_32 c_33
    refine (CS.out _ (HT.out.ext HE.out)).mono ?_
    rintro e w3 ⟨rfl, g3⟩
    have hz_w3 := g3.size
    replace HE := hid (HE.out.trans g3)
    replace HB_O := hid (HB_O.out.ext g3)
    replace HB_X := hid (HB_X.out.ext g3)
    replace HB_Y := hid (HB_Y.out.ext g3)
    replace ku := ku.ext g3
    replace kv := kv.ext g3
    have gA := Ext.alloc w3 (.cells #[.int .u64 r0, .int .u64 r1] 26)
    obtain ⟨c_34, c_35, c_36, c_37, c_38, c_39, c_40, c_41, c_42⟩ := (HB_O.out.ext gA).c9
    obtain ⟨c_43, c_44, c_45⟩ := (HB_X.out.ext gA).c3
    obtain ⟨c_46, c_47, c_48⟩ := (HB_Y.out.ext gA).c3
    go_wp2_with fail
    clear gA c_34 c_35 c_36 c_37 c_38 c_39 c_40 c_41 c_42 c_43 c_44 c_45 c_46 c_47 c_48
    obtain ⟨W4, hW4, g4, hy4, B_W⟩ := pro1 w3 #[.int .u64 r0, .int .u64 r1] 26
    rw [← hW4]
    clear hW4
    have hz_W4 := g4.size
    replace HE := hid (HE.out.trans g4)
    replace HB_O := hid (HB_O.out.ext g4)
    replace HB_X := hid (HB_X.out.ext g4)
    replace HB_Y := hid (HB_Y.out.ext g4)
    replace ku := ku.ext g4
    replace kv := kv.ext g4
    have HB_W := hid B_W
    clear B_W
    refine (CV.out _).mono ?_
    rintro e w5 ⟨vn, rfl, kn, g5⟩
    have hz_w5 := g5.size
    replace HE := hid (HE.out.trans g5)
    replace HB_O := hid (HB_O.out.ext g5)
    replace HB_X := hid (HB_X.out.ext g5)
    replace HB_Y := hid (HB_Y.out.ext g5)
    replace HB_W := hid (HB_W.out.ext g5)
    replace ku := ku.ext g5
    replace kv := kv.ext g5
    obtain ⟨ngn, an, nn, cn, an', nn', cn', rfl⟩ := kn.shape
    rcases HCS.out with ⟨hq0, rfl, rfl⟩ | ⟨hq0, rfl, rfl, sv, hle, t, ht⟩
    · have CSG : Hid (∀ u w, NumV w u qb → Calls Tryz.prog 7 #[u] w fun e w' => e = .returned (.int .i64 0) ∧ Ext w w') := hid fun u w h => by
        have := sign_c u qb w h
        rwa [show qb.num.sign = 0 from by rw [hq0]; rfl] at this
      clear hq0
      have gA := Ext.alloc w5 (.cells #[.bool ngn, .slice an nn cn, .slice an' nn' cn'] 32)
      obtain ⟨c_49, c_50, c_51, c_52, c_53, c_54, c_55, c_56, c_57⟩ := (HB_O.out.ext gA).c9
      obtain ⟨c_58, c_59, c_60⟩ := (HB_X.out.ext gA).c3
      obtain ⟨c_61, c_62, c_63⟩ := (HB_Y.out.ext gA).c3
      obtain ⟨c_64, c_65⟩ := (HB_W.out.ext gA).c2
      go_wp2_with fail
      clear gA c_49 c_50 c_51 c_52 c_53 c_54 c_55 c_56 c_57 c_58 c_59 c_60 c_61 c_62 c_63 c_64 c_65
      obtain ⟨W6, hW6, g6, hy6, B_S⟩ := pro1 w5 #[.bool ngn, .slice an nn cn, .slice an' nn' cn'] 32
      rw [← hW6]
      clear hW6
      have hz_W6 := g6.size
      replace HE := hid (HE.out.trans g6)
      replace HB_O := hid (HB_O.out.ext g6)
      replace HB_X := hid (HB_X.out.ext g6)
      replace HB_Y := hid (HB_Y.out.ext g6)
      replace HB_W := hid (HB_W.out.ext g6)
      replace ku := ku.ext g6
      replace kv := kv.ext g6
      replace kn := kn.ext g6
      have HB_S := hid B_S
      clear B_S
      refine (CSG.out _ _ kv).mono ?_
      rintro e w7 ⟨rfl, g7⟩
      have hz_w7 := g7.size
      replace HE := hid (HE.out.trans g7)
      replace HB_O := hid (HB_O.out.ext g7)
      replace HB_X := hid (HB_X.out.ext g7)
      replace HB_Y := hid (HB_Y.out.ext g7)
      replace HB_W := hid (HB_W.out.ext g7)
      replace HB_S := hid (HB_S.out.ext g7)
      replace ku := ku.ext g7
      replace kv := kv.ext g7
      replace kn := kn.ext g7
      obtain ⟨c_66, c_67, c_68, c_69, c_70, c_71, c_72, c_73, c_74⟩ := HB_O.out.c9
      obtain ⟨c_75, c_76, c_77⟩ := HB_X.out.c3
      obtain ⟨c_78, c_79, c_80⟩ := HB_Y.out.c3
      obtain ⟨c_81, c_82⟩ := HB_W.out.c2
      obtain ⟨c_83, c_84, c_85⟩ := HB_S.out.c3
      go_wp2_with fail
      clear c_66 c_67 c_68 c_69 c_70 c_71 c_72 c_73 c_74 c_75 c_76 c_77 c_78 c_79 c_80 c_81 c_82 c_83 c_84 c_85
      refine (CW.out _ (HP.out.ext HE.out) (HT.out.ext HE.out)).mono ?_
      rintro e w8 ⟨rfl, g8⟩
      have hz_w8 := g8.size
      replace HE := hid (HE.out.trans g8)
      replace HB_O := hid (HB_O.out.ext g8)
      replace HB_X := hid (HB_X.out.ext g8)
      replace HB_Y := hid (HB_Y.out.ext g8)
      replace HB_W := hid (HB_W.out.ext g8)
      replace HB_S := hid (HB_S.out.ext g8)
      replace ku := ku.ext g8
      replace kv := kv.ext g8
      replace kn := kn.ext g8
      obtain ⟨c_86, c_87, c_88, c_89, c_90, c_91, c_92, c_93, c_94⟩ := HB_O.out.c9
      obtain ⟨c_95, c_96, c_97⟩ := HB_X.out.c3
      obtain ⟨c_98, c_99, c_100⟩ := HB_Y.out.c3
      obtain ⟨c_101, c_102⟩ := HB_W.out.c2
      obtain ⟨c_103, c_104, c_105⟩ := HB_S.out.c3
      go_wp2_with fail
      clear c_86 c_87 c_88 c_89 c_90 c_91 c_92 c_93 c_94 c_95 c_96 c_97 c_98 c_99 c_100 c_101 c_102 c_103 c_104 c_105
      unfold TruePost
      refine bodyPost_ret (v := .bool true) (by simp [results, Tryz.results5, go_sem]) rfl ⟨rfl, HE.out⟩
    · obtain ⟨sB, hsB⟩ : ∃ s, s = qb.num.sign := ⟨_, rfl⟩
      obtain ⟨cB, hcB⟩ : ∃ c, c = cmpQ (absQ (v + v)) (absQ qb) := ⟨_, rfl⟩
      have hs1 : (sB == 0) = false := beq_eq_false_iff_ne.2 (fun h => hq0 (Rat.num_eq_zero.1 (Int.sign_eq_zero_iff_zero.1 (by rw [← hsB]; exact h))))
      have hcn : ¬ 0 < cB := by
        have := cmpQ_small (show absQ (v + v) ≤ absQ qb by rw [absQ_twice]; exact hle)
        rw [← hcB] at this
        omega
      have hcl : cB ≤ 0 := by omega
      have CSG : Hid (∀ u w, NumV w u qb → Calls Tryz.prog 7 #[u] w fun e w' => e = .returned (.int .i64 sB) ∧ Ext w w') := hid fun u w h => by
        rw [hsB]; exact sign_c u qb w h
      have CAD : Hid (∀ u x w, NumV w u v → NumV w x v → _) := hid fun u x w h k => Add_c u x v v 5000 w h k sv sv (by decide)
      have CA1 : Hid (∀ u w, NumV w u (v + v) → Calls Tryz.prog 17 #[u] w fun e w' => ∃ z, e = .returned z ∧ NumV w' z (absQ (v + v)) ∧ Ext w w') := hid fun u w h => abs_c u _ w h
      have CA2 : Hid (∀ u w, NumV w u qb → Calls Tryz.prog 17 #[u] w fun e w' => ∃ z, e = .returned z ∧ NumV w' z (absQ qb) ∧ Ext w w') := hid fun u w h => abs_c u _ w h
      have CCM : Hid (∀ u x w, NumV w u (absQ (v + v)) → NumV w x (absQ qb) → Calls Tryz.prog 8 #[u, x] w fun e w' => e = .returned (.int .i64 cB) ∧ Ext w w') := hid fun u x w h k => by
        rw [hcB]; exact Cmp_c u x _ _ 10001 w h k (SmQ.add sv sv).absQ (HSB.out.absQ.mono (by decide)) (by decide)
      have CSU : Hid (∀ u x w, NumV w u qa → NumV w x v → Calls Tryz.prog 13 #[u, x] w fun e w' => ∃ z, e = .returned z ∧ NumV w' z (qa - v) ∧ Ext w w') := hid fun u x w h k => Sub_c u x qa v 5000 w h k HSA.out sv (by decide)
      have CQU : Hid (∀ u x w, NumV w u (qa - v) → NumV w x qb → Calls Tryz.prog 18 #[u, x] w fun e w' => ∃ z, e = .returned (.tuple #[z, .int .i64 0]) ∧ NumV w' z ((t : Int) : Rat) ∧ Ext w w') := hid fun u x w h k => by
        have := quo_some u x (qa - v) qb 10001 w h k (SmQ.sub HSA.out sv) (HSB.out.mono (by decide)) (by decide) hq0
        rwa [show (qa - v) / qb = ((t : Int) : Rat) from by rw [ht, Rat.mul_comm, Rat.mul_div_cancel hq0]] at this
      have CII : Hid (∀ u w, NumV w u ((t : Int) : Rat) → Calls Tryz.prog 19 #[u] w fun e w' => e = .returned (.bool true) ∧ Ext w w') := hid fun u w h => by
        have := isInt_c u _ w h
        rwa [decide_eq_true (Rat.den_intCast t)] at this
      clear HCS sv hle ht hsB hcB hq0
      have gA := Ext.alloc w5 (.cells #[.bool ngn, .slice an nn cn, .slice an' nn' cn'] 32)
      obtain ⟨c_49, c_50, c_51, c_52, c_53, c_54, c_55, c_56, c_57⟩ := (HB_O.out.ext gA).c9
      obtain ⟨c_58, c_59, c_60⟩ := (HB_X.out.ext gA).c3
      obtain ⟨c_61, c_62, c_63⟩ := (HB_Y.out.ext gA).c3
      obtain ⟨c_64, c_65⟩ := (HB_W.out.ext gA).c2
      go_wp2_with fail
      clear gA c_49 c_50 c_51 c_52 c_53 c_54 c_55 c_56 c_57 c_58 c_59 c_60 c_61 c_62 c_63 c_64 c_65
      obtain ⟨W6, hW6, g6, hy6, B_S⟩ := pro1 w5 #[.bool ngn, .slice an nn cn, .slice an' nn' cn'] 32
      rw [← hW6]
      clear hW6
      have hz_W6 := g6.size
      replace HE := hid (HE.out.trans g6)
      replace HB_O := hid (HB_O.out.ext g6)
      replace HB_X := hid (HB_X.out.ext g6)
      replace HB_Y := hid (HB_Y.out.ext g6)
      replace HB_W := hid (HB_W.out.ext g6)
      replace ku := ku.ext g6
      replace kv := kv.ext g6
      replace kn := kn.ext g6
      have HB_S := hid B_S
      clear B_S
      refine (CSG.out _ _ kv).mono ?_
      rintro e w7 ⟨rfl, g7⟩
      have hz_w7 := g7.size
      replace HE := hid (HE.out.trans g7)
      replace HB_O := hid (HB_O.out.ext g7)
      replace HB_X := hid (HB_X.out.ext g7)
      replace HB_Y := hid (HB_Y.out.ext g7)
      replace HB_W := hid (HB_W.out.ext g7)
      replace HB_S := hid (HB_S.out.ext g7)
      replace ku := ku.ext g7
      replace kv := kv.ext g7
      replace kn := kn.ext g7
      obtain ⟨c_66, c_67, c_68, c_69, c_70, c_71, c_72, c_73, c_74⟩ := HB_O.out.c9
      obtain ⟨c_75, c_76, c_77⟩ := HB_X.out.c3
      obtain ⟨c_78, c_79, c_80⟩ := HB_Y.out.c3
      obtain ⟨c_81, c_82⟩ := HB_W.out.c2
      obtain ⟨c_83, c_84, c_85⟩ := HB_S.out.c3
      go_wp2_with fail
      clear c_66 c_67 c_68 c_69 c_70 c_71 c_72 c_73 c_74 c_75 c_76 c_77 c_78 c_79 c_80 c_81 c_82 c_83 c_84 c_85
      have HS : Hid (∀ w', Ext w7 w' → w'.cell? ⟨w5.heap.size, 0, none⟩ = some (.bool ngn) ∧ w'.cell? ⟨w5.heap.size, 1, none⟩ = some (.slice an nn cn) ∧ w'.cell? ⟨w5.heap.size, 2, none⟩ = some (.slice an' nn' cn') ∧ w'.cell? ⟨w1.heap.size + 1, 0, none⟩ = some (.bool ngv) ∧ w'.cell? ⟨w1.heap.size + 1, 1, none⟩ = some (.slice av nv cv) ∧ w'.cell? ⟨w1.heap.size + 1, 2, none⟩ = some (.slice av' nv' cv')) := hid fun w' h => ⟨(HB_S.out.ext h).cell 0, (HB_S.out.ext h).cell 1, (HB_S.out.ext h).cell 2, (HB_Y.out.ext h).cell 0, (HB_Y.out.ext h).cell 1, (HB_Y.out.ext h).cell 2⟩
      have hb0 : Ext w7 w7.drew := Below.drew (Below.refl _ w7)
      refine wp_region_held_drew (S := fun w' => w'.cell? ⟨w5.heap.size, 0, none⟩ = some (.bool ngn) ∧ w'.cell? ⟨w5.heap.size, 1, none⟩ = some (.slice an nn cn) ∧ w'.cell? ⟨w5.heap.size, 2, none⟩ = some (.slice an' nn' cn') ∧ w'.cell? ⟨w1.heap.size + 1, 0, none⟩ = some (.bool ngv) ∧ w'.cell? ⟨w1.heap.size + 1, 1, none⟩ = some (.slice av nv cv) ∧ w'.cell? ⟨w1.heap.size + 1, 2, none⟩ = some (.slice av' nv' cv')) (by kernel_rfl) (HS.out _ hb0) (fun hHeld => ?_)
      refine wpAnyH_take (i := 0) (oi := { dst := some 55, op := Op.move (Operand.tmp 8), type := 39, pos := "law.go:307", after := #[], guard := none }) (v := ?_) rfl (by kernel_rfl) (by kernel_rfl) (by kernel_rfl) (fun _ _ _ h => h) (Or.inl ⟨by rfl, ?_⟩) (by assumption) ?_
      rotate_left
      · intro w' hSw
        (try dsimp only at hSw)
        go_simp <;> with_reducible rfl
      try simp only [Act.put, List.setIfInBounds_toArray, List.set_cons_zero, List.set_cons_succ]
      refine wpAnyH_take (i := 1) (oi := { dst := some 56, op := Op.binOp BinOp.neq 39 (Operand.tmp 55) (Operand.const (Value.int IntKind.i64 0)) 39, type := 4, pos := "law.go:307", after := #[{ on := 0, ground := Ground.data }], guard := none }) (v := ?_) rfl (by kernel_rfl) (by kernel_rfl) (by kernel_rfl) (fun _ _ _ h => h) (Or.inl ⟨by rfl, ?_⟩) (by assumption) ?_
      rotate_left
      · intro w' hSw
        (try dsimp only at hSw)
        go_simp <;> with_reducible rfl
      try simp only [Act.put, List.setIfInBounds_toArray, List.set_cons_zero, List.set_cons_succ]
      refine wpAnyH_take (i := 2) (oi := { dst := some 57, op := Op.move (Operand.tmp 56), type := 4, pos := "law.go:307", after := #[{ on := 1, ground := Ground.data }], guard := none }) (v := ?_) rfl (by kernel_rfl) (by kernel_rfl) (by kernel_rfl) (fun _ _ _ h => h) (Or.inl ⟨by rfl, ?_⟩) (by assumption) ?_
      rotate_left
      · intro w' hSw
        (try dsimp only at hSw)
        go_simp <;> with_reducible rfl
      try simp only [Act.put, List.setIfInBounds_toArray, List.set_cons_zero, List.set_cons_succ]
      refine wpAnyH_take (i := 3) (oi := { dst := some 58, op := Op.move (Operand.tmp 10), type := 39, pos := "law.go:307", after := #[{ on := 2, ground := Ground.guard }], guard := some (2, false) }) (v := ?_) rfl (by kernel_rfl) (by kernel_rfl) (by kernel_rfl) (fun _ _ _ h => h) (Or.inl ⟨by rfl, ?_⟩) (by assumption) ?_
      rotate_left
      · intro w' hSw
        (try dsimp only at hSw)
        go_simp <;> with_reducible rfl
      try simp only [Act.put, List.setIfInBounds_toArray, List.set_cons_zero, List.set_cons_succ]
      refine wpAnyH_take (i := 4) (oi := { dst := some 59, op := Op.binOp BinOp.neq 39 (Operand.tmp 58) (Operand.const (Value.int IntKind.i64 0)) 39, type := 4, pos := "law.go:307", after := #[{ on := 3, ground := Ground.data }, { on := 2, ground := Ground.guard }], guard := some (2, false) }) (v := ?_) rfl (by kernel_rfl) (by kernel_rfl) (by kernel_rfl) (fun _ _ _ h => h) (Or.inl ⟨by rfl, ?_⟩) (by assumption) ?_
      rotate_left
      · intro w' hSw
        (try dsimp only at hSw)
        go_simp <;> with_reducible rfl
      try simp only [Act.put, List.setIfInBounds_toArray, List.set_cons_zero, List.set_cons_succ]
      refine wpAnyH_take (i := 5) (oi := { dst := some 60, op := Op.pick (Operand.tmp 57) (Operand.const (Value.bool true)) (Operand.tmp 59), type := 4, pos := "law.go:307", after := #[{ on := 2, ground := Ground.data }, { on := 4, ground := Ground.data }], guard := none }) (v := ?_) rfl (by kernel_rfl) (by kernel_rfl) (by kernel_rfl) (fun _ _ _ h => h) (Or.inl ⟨by rfl, ?_⟩) (by assumption) ?_
      rotate_left
      · intro w' hSw
        (try dsimp only at hSw)
        go_simp <;> with_reducible rfl
      try simp only [Act.put, List.setIfInBounds_toArray, List.set_cons_zero, List.set_cons_succ]
      refine wpAnyH_take (i := 6) (oi := { dst := some 61, op := Op.move (Operand.tmp 60), type := 4, pos := "law.go:307", after := #[{ on := 5, ground := Ground.data }, { on := 2, ground := Ground.chain }], guard := none }) (v := ?_) rfl (by kernel_rfl) (by kernel_rfl) (by kernel_rfl) (fun _ _ _ h => h) (Or.inl ⟨by rfl, ?_⟩) (by assumption) ?_
      rotate_left
      · intro w' hSw
        (try dsimp only at hSw)
        go_simp <;> with_reducible rfl
      try simp only [Act.put, List.setIfInBounds_toArray, List.set_cons_zero, List.set_cons_succ]
      refine wpAnyH_take (i := 7) (oi := { dst := some 62, op := Op.move (Operand.tmp 7), type := 3, pos := "law.go:307", after := #[{ on := 6, ground := Ground.guard }], guard := some (6, false) }) (v := ?_) rfl (by kernel_rfl) (by kernel_rfl) (by kernel_rfl) (fun _ _ _ h => h) (Or.inl ⟨by rfl, ?_⟩) (by assumption) ?_
      rotate_left
      · intro w' hSw
        (try dsimp only at hSw)
        go_simp <;> with_reducible rfl
      try simp only [Act.put, List.setIfInBounds_toArray, List.set_cons_zero, List.set_cons_succ]
      refine wpAnyH_take (i := 8) (oi := { dst := some 63, op := Op.binOp BinOp.neq 3 (Operand.tmp 62) (Operand.const (Value.int IntKind.i64 0)) 3, type := 4, pos := "law.go:307", after := #[{ on := 7, ground := Ground.data }, { on := 6, ground := Ground.guard }], guard := some (6, false) }) (v := ?_) rfl (by kernel_rfl) (by kernel_rfl) (by kernel_rfl) (fun _ _ _ h => h) (Or.inl ⟨by rfl, ?_⟩) (by assumption) ?_
      rotate_left
      · intro w' hSw
        (try dsimp only at hSw)
        go_simp <;> with_reducible rfl
      try simp only [Act.put, List.setIfInBounds_toArray, List.set_cons_zero, List.set_cons_succ]
      refine wpAnyH_take (i := 9) (oi := { dst := some 64, op := Op.pick (Operand.tmp 61) (Operand.const (Value.bool true)) (Operand.tmp 63), type := 4, pos := "law.go:307", after := #[{ on := 6, ground := Ground.data }, { on := 8, ground := Ground.data }], guard := none }) (v := ?_) rfl (by kernel_rfl) (by kernel_rfl) (by kernel_rfl) (fun _ _ _ h => h) (Or.inl ⟨by rfl, ?_⟩) (by assumption) ?_
      rotate_left
      · intro w' hSw
        (try dsimp only at hSw)
        go_simp <;> with_reducible rfl
      try simp only [Act.put, List.setIfInBounds_toArray, List.set_cons_zero, List.set_cons_succ]
      refine wpAnyH_take (i := 10) (oi := { dst := some 65, op := Op.move (Operand.tmp 64), type := 4, pos := "law.go:307", after := #[{ on := 9, ground := Ground.data }, { on := 6, ground := Ground.chain }], guard := none }) (v := ?_) rfl (by kernel_rfl) (by kernel_rfl) (by kernel_rfl) (fun _ _ _ h => h) (Or.inl ⟨by rfl, ?_⟩) (by assumption) ?_
      rotate_left
      · intro w' hSw
        (try dsimp only at hSw)
        go_simp <;> with_reducible rfl
      try simp only [Act.put, List.setIfInBounds_toArray, List.set_cons_zero, List.set_cons_succ]
      refine wpAnyH_take (i := 11) (oi := { dst := some 66, op := Op.load 32 (Operand.tmp 9), type := 32, pos := "law.go:307", after := #[{ on := 10, ground := Ground.guard }], guard := some (10, false) }) (v := ?_) rfl (by kernel_rfl) (by kernel_rfl) (by kernel_rfl) (fun _ _ _ h => h) (Or.inl ⟨by rfl, ?_⟩) (by assumption) ?_
      rotate_left
      · intro w' hSw
        (try dsimp only at hSw)
        go_simp <;> with_reducible rfl
      try simp only [Act.put, List.setIfInBounds_toArray, List.set_cons_zero, List.set_cons_succ]
      refine wpAnyH_take (i := 12) (oi := { dst := some 67, op := Op.load 32 (Operand.tmp 9), type := 32, pos := "law.go:307", after := #[{ on := 10, ground := Ground.guard }], guard := some (10, false) }) (v := ?_) rfl (by kernel_rfl) (by kernel_rfl) (by kernel_rfl) (fun _ _ _ h => h) (Or.inl ⟨by rfl, ?_⟩) (by assumption) ?_
      rotate_left
      · intro w' hSw
        (try dsimp only at hSw)
        go_simp <;> with_reducible rfl
      try simp only [Act.put, List.setIfInBounds_toArray, List.set_cons_zero, List.set_cons_succ]
      refine wpAnyH_take (i := 15) (oi := { dst := some 70, op := Op.load 32 (Operand.tmp 4), type := 32, pos := "law.go:307", after := #[{ on := 10, ground := Ground.guard }], guard := some (10, false) }) (v := ?_) rfl (by kernel_rfl) (by kernel_rfl) (by kernel_rfl) (fun _ _ _ h => h) (Or.inl ⟨by rfl, ?_⟩) (by assumption) ?_
      rotate_left
      · intro w' hSw
        (try dsimp only at hSw)
        go_simp <;> with_reducible rfl
      try simp only [Act.put, List.setIfInBounds_toArray, List.set_cons_zero, List.set_cons_succ]
      refine wpAnyH_ready (rs := [13]) (by kernel_rfl) (by simp) ?_
      refine AllReadyH.cons (o := { dst := some 68, op := Op.call { callee := Callee.value (Operand.func 9), args := #[Operand.tmp 66, Operand.tmp 67], argTypes := #[32, 32] }, type := 32, pos := "law.go:307", after := #[{ on := 11, ground := Ground.data }, { on := 12, ground := Ground.data }, { on := 10, ground := Ground.chain }, { on := 10, ground := Ground.guard }], guard := some (10, false) }) rfl (fun K hK => ?_) AllReadyH.nil
      go_simp
      refine (CAD.out _ _ _ (kn.ext hb0) (kn.ext hb0)).mono ?_
      rintro e x86_1 ⟨vd1, rfl, kd1, g1⟩
      have hb1 : Ext w7 x86_1 := hb0.trans g1
      try dsimp only
      refine hK.out _ _ (HS.out _ hb1) ?_
      clear hHeld
      intro hHeld
      clear hK K
      try simp only [Act.put, List.setIfInBounds_toArray, List.set_cons_zero, List.set_cons_succ]
      refine wpAnyH_ready (rs := [14]) (by kernel_rfl) (by simp) ?_
      refine AllReadyH.cons (o := { dst := some 69, op := Op.call { callee := Callee.value (Operand.func 17), args := #[Operand.tmp 68], argTypes := #[32] }, type := 32, pos := "law.go:307", after := #[{ on := 13, ground := Ground.data }, { on := 13, ground := Ground.chain }, { on := 10, ground := Ground.guard }], guard := some (10, false) }) rfl (fun K hK => ?_) AllReadyH.nil
      go_simp
      refine (CA1.out _ _ kd1).mono ?_
      rintro e x86_2 ⟨vd2, rfl, kd2, g2⟩
      have hb2 : Ext w7 x86_2 := hb1.trans g2
      try dsimp only
      refine hK.out _ _ (HS.out _ hb2) ?_
      clear hHeld
      intro hHeld
      clear hK K
      try simp only [Act.put, List.setIfInBounds_toArray, List.set_cons_zero, List.set_cons_succ]
      refine wpAnyH_ready (rs := [16]) (by kernel_rfl) (by simp) ?_
      refine AllReadyH.cons (o := { dst := some 71, op := Op.call { callee := Callee.value (Operand.func 17), args := #[Operand.tmp 70], argTypes := #[32] }, type := 32, pos := "law.go:307", after := #[{ on := 15, ground := Ground.data }, { on := 14, ground := Ground.chain }, { on := 10, ground := Ground.guard }], guard := some (10, false) }) rfl (fun K hK => ?_) AllReadyH.nil
      go_simp
      refine (CA2.out _ _ (kv.ext hb2)).mono ?_
      rintro e x86_3 ⟨vd3, rfl, kd3, g3⟩
      have hb3 : Ext w7 x86_3 := hb2.trans g3
      try dsimp only
      refine hK.out _ _ (HS.out _ hb3) ?_
      clear hHeld
      intro hHeld
      clear hK K
      try simp only [Act.put, List.setIfInBounds_toArray, List.set_cons_zero, List.set_cons_succ]
      refine wpAnyH_ready (rs := [17]) (by kernel_rfl) (by simp) ?_
      refine AllReadyH.cons (o := { dst := some 72, op := Op.call { callee := Callee.value (Operand.func 8), args := #[Operand.tmp 69, Operand.tmp 71], argTypes := #[32, 32] }, type := 3, pos := "law.go:307", after := #[{ on := 14, ground := Ground.data }, { on := 16, ground := Ground.data }, { on := 16, ground := Ground.chain }, { on := 10, ground := Ground.guard }], guard := some (10, false) }) rfl (fun K hK => ?_) AllReadyH.nil
      go_simp
      refine (CCM.out _ _ _ (kd2.ext g3) kd3).mono ?_
      rintro e x86_4 ⟨rfl, g4⟩
      have hb4 : Ext w7 x86_4 := hb3.trans g4
      try dsimp only
      refine hK.out _ _ (HS.out _ hb4) ?_
      clear hHeld
      intro hHeld
      clear hK K
      try simp only [Act.put, List.setIfInBounds_toArray, List.set_cons_zero, List.set_cons_succ]
      refine wpAnyH_take (i := 18) (oi := { dst := some 73, op := Op.binOp BinOp.gtr 3 (Operand.tmp 72) (Operand.const (Value.int IntKind.i64 0)) 3, type := 4, pos := "law.go:307", after := #[{ on := 17, ground := Ground.data }, { on := 10, ground := Ground.guard }], guard := some (10, false) }) (v := ?_) rfl (by kernel_rfl) (by kernel_rfl) (by kernel_rfl) (fun _ _ _ h => h) (Or.inl ⟨by rfl, ?_⟩) (by assumption) ?_
      rotate_left
      · intro w' hSw
        (try dsimp only at hSw)
        go_simp <;> with_reducible rfl
      try simp only [Act.put, List.setIfInBounds_toArray, List.set_cons_zero, List.set_cons_succ]
      refine wpAnyH_take (i := 19) (oi := { dst := some 74, op := Op.pick (Operand.tmp 65) (Operand.const (Value.bool true)) (Operand.tmp 73), type := 4, pos := "law.go:307", after := #[{ on := 10, ground := Ground.data }, { on := 18, ground := Ground.data }], guard := none }) (v := ?_) rfl (by kernel_rfl) (by kernel_rfl) (by kernel_rfl) (fun _ _ _ h => h) (Or.inl ⟨by rfl, ?_⟩) (by assumption) ?_
      rotate_left
      · intro w' hSw
        (try dsimp only at hSw)
        go_simp <;> with_reducible rfl
      try simp only [Act.put, List.setIfInBounds_toArray, List.set_cons_zero, List.set_cons_succ]
      refine wpAnyH_done (by kernel_rfl) ?_ _
      clear HS hHeld
      have hz_x86_4 := hb4.size
      replace HE := hid (HE.out.trans hb4)
      replace HB_O := hid (HB_O.out.ext hb4)
      replace HB_X := hid (HB_X.out.ext hb4)
      replace HB_Y := hid (HB_Y.out.ext hb4)
      replace HB_W := hid (HB_W.out.ext hb4)
      replace HB_S := hid (HB_S.out.ext hb4)
      replace ku := ku.ext hb4
      replace kv := kv.ext hb4
      replace kn := kn.ext hb4
      obtain ⟨c_87, c_88, c_89, c_90, c_91, c_92, c_93, c_94, c_95⟩ := HB_O.out.c9
      obtain ⟨c_96, c_97, c_98⟩ := HB_X.out.c3
      obtain ⟨c_99, c_100, c_101⟩ := HB_Y.out.c3
      obtain ⟨c_102, c_103⟩ := HB_W.out.c2
      obtain ⟨c_104, c_105, c_106⟩ := HB_S.out.c3
      go_wp2_with fail
      clear c_87 c_88 c_89 c_90 c_91 c_92 c_93 c_94 c_95 c_96 c_97 c_98 c_99 c_100 c_101 c_102 c_103 c_104 c_105 c_106
      have HS : Hid (∀ w', Ext x86_4 w' → w'.cell? ⟨w1.heap.size, 0, none⟩ = some (.bool ngu) ∧ w'.cell? ⟨w1.heap.size, 1, none⟩ = some (.slice au nu cu) ∧ w'.cell? ⟨w1.heap.size, 2, none⟩ = some (.slice au' nu' cu') ∧ w'.cell? ⟨w1.heap.size + 1, 0, none⟩ = some (.bool ngv) ∧ w'.cell? ⟨w1.heap.size + 1, 1, none⟩ = some (.slice av nv cv) ∧ w'.cell? ⟨w1.heap.size + 1, 2, none⟩ = some (.slice av' nv' cv') ∧ w'.cell? ⟨w5.heap.size, 0, none⟩ = some (.bool ngn) ∧ w'.cell? ⟨w5.heap.size, 1, none⟩ = some (.slice an nn cn) ∧ w'.cell? ⟨w5.heap.size, 2, none⟩ = some (.slice an' nn' cn')) := hid fun w' h => ⟨(HB_X.out.ext h).cell 0, (HB_X.out.ext h).cell 1, (HB_X.out.ext h).cell 2, (HB_Y.out.ext h).cell 0, (HB_Y.out.ext h).cell 1, (HB_Y.out.ext h).cell 2, (HB_S.out.ext h).cell 0, (HB_S.out.ext h).cell 1, (HB_S.out.ext h).cell 2⟩
      have hlt_X : w1.heap.size < x86_4.heap.size := cell_lt HB_X.out
      have hlt_Y : w1.heap.size + 1 < x86_4.heap.size := cell_lt HB_Y.out
      have hlt_S : w5.heap.size < x86_4.heap.size := cell_lt HB_S.out
      have HSN : Hid (∀ (g : Nat) (v0 v1 v2 : Value) (w' : World), x86_4.heap.size ≤ g → Ext x86_4 w' → (((w'.setCell ⟨g, 0, none⟩ v0).setCell ⟨g, 1, none⟩ v1).setCell ⟨g, 2, none⟩ v2).cell? ⟨w1.heap.size, 0, none⟩ = some (.bool ngu) ∧ (((w'.setCell ⟨g, 0, none⟩ v0).setCell ⟨g, 1, none⟩ v1).setCell ⟨g, 2, none⟩ v2).cell? ⟨w1.heap.size, 1, none⟩ = some (.slice au nu cu) ∧ (((w'.setCell ⟨g, 0, none⟩ v0).setCell ⟨g, 1, none⟩ v1).setCell ⟨g, 2, none⟩ v2).cell? ⟨w1.heap.size, 2, none⟩ = some (.slice au' nu' cu') ∧ (((w'.setCell ⟨g, 0, none⟩ v0).setCell ⟨g, 1, none⟩ v1).setCell ⟨g, 2, none⟩ v2).cell? ⟨w1.heap.size + 1, 0, none⟩ = some (.bool ngv) ∧ (((w'.setCell ⟨g, 0, none⟩ v0).setCell ⟨g, 1, none⟩ v1).setCell ⟨g, 2, none⟩ v2).cell? ⟨w1.heap.size + 1, 1, none⟩ = some (.slice av nv cv) ∧ (((w'.setCell ⟨g, 0, none⟩ v0).setCell ⟨g, 1, none⟩ v1).setCell ⟨g, 2, none⟩ v2).cell? ⟨w1.heap.size + 1, 2, none⟩ = some (.slice av' nv' cv') ∧ (((w'.setCell ⟨g, 0, none⟩ v0).setCell ⟨g, 1, none⟩ v1).setCell ⟨g, 2, none⟩ v2).cell? ⟨w5.heap.size, 0, none⟩ = some (.bool ngn) ∧ (((w'.setCell ⟨g, 0, none⟩ v0).setCell ⟨g, 1, none⟩ v1).setCell ⟨g, 2, none⟩ v2).cell? ⟨w5.heap.size, 1, none⟩ = some (.slice an nn cn) ∧ (((w'.setCell ⟨g, 0, none⟩ v0).setCell ⟨g, 1, none⟩ v1).setCell ⟨g, 2, none⟩ v2).cell? ⟨w5.heap.size, 2, none⟩ = some (.slice an' nn' cn')) := hid fun g v0 v1 v2 w' hg h => ⟨(cell_other (show w1.heap.size ≠ g by omega) (cell_other (show w1.heap.size ≠ g by omega) (cell_other (show w1.heap.size ≠ g by omega) ((HB_X.out.ext h).cell 0)))), (cell_other (show w1.heap.size ≠ g by omega) (cell_other (show w1.heap.size ≠ g by omega) (cell_other (show w1.heap.size ≠ g by omega) ((HB_X.out.ext h).cell 1)))), (cell_other (show w1.heap.size ≠ g by omega) (cell_other (show w1.heap.size ≠ g by omega) (cell_other (show w1.heap.size ≠ g by omega) ((HB_X.out.ext h).cell 2)))), (cell_other (show w1.heap.size + 1 ≠ g by omega) (cell_other (show w1.heap.size + 1 ≠ g by omega) (cell_other (show w1.heap.size + 1 ≠ g by omega) ((HB_Y.out.ext h).cell 0)))), (cell_other (show w1.heap.size + 1 ≠ g by omega) (cell_other (show w1.heap.size + 1 ≠ g by omega) (cell_other (show w1.heap.size + 1 ≠ g by omega) ((HB_Y.out.ext h).cell 1)))), (cell_other (show w1.heap.size + 1 ≠ g by omega) (cell_other (show w1.heap.size + 1 ≠ g by omega) (cell_other (show w1.heap.size + 1 ≠ g by omega) ((HB_Y.out.ext h).cell 2)))), (cell_other (show w5.heap.size ≠ g by omega) (cell_other (show w5.heap.size ≠ g by omega) (cell_other (show w5.heap.size ≠ g by omega) ((HB_S.out.ext h).cell 0)))), (cell_other (show w5.heap.size ≠ g by omega) (cell_other (show w5.heap.size ≠ g by omega) (cell_other (show w5.heap.size ≠ g by omega) ((HB_S.out.ext h).cell 1)))), (cell_other (show w5.heap.size ≠ g by omega) (cell_other (show w5.heap.size ≠ g by omega) (cell_other (show w5.heap.size ≠ g by omega) ((HB_S.out.ext h).cell 2))))⟩
      clear hlt_X hlt_Y hlt_S
      have hb0 : Ext x86_4 x86_4.drew := Below.drew (Below.refl _ x86_4)
      have HNEW := hid newFacts
      go_cut [11, 8] (fun sv sm8 wx => sm8 = .int .i64 0 ∧ ∃ g : Nat, sv = .pointer (some ⟨g, 0, none⟩) ∧ Hid (Ext x86_4 wx) ∧ x86_4.heap.size ≤ g ∧ NumBox wx g (((t : Int) : Rat)))
      case first =>
        go_region_held3 (fun w' => w'.cell? ⟨w1.heap.size, 0, none⟩ = some (.bool ngu) ∧ w'.cell? ⟨w1.heap.size, 1, none⟩ = some (.slice au nu cu) ∧ w'.cell? ⟨w1.heap.size, 2, none⟩ = some (.slice au' nu' cu') ∧ w'.cell? ⟨w1.heap.size + 1, 0, none⟩ = some (.bool ngv) ∧ w'.cell? ⟨w1.heap.size + 1, 1, none⟩ = some (.slice av nv cv) ∧ w'.cell? ⟨w1.heap.size + 1, 2, none⟩ = some (.slice av' nv' cv') ∧ w'.cell? ⟨w5.heap.size, 0, none⟩ = some (.bool ngn) ∧ w'.cell? ⟨w5.heap.size, 1, none⟩ = some (.slice an nn cn) ∧ w'.cell? ⟨w5.heap.size, 2, none⟩ = some (.slice an' nn' cn'))
            (first | exact HS.out _ (by assumption) | exact HS.out _ (Ext.trans (by assumption) (Ext.alloc _ _)) | exact HSN.out _ _ _ _ _ (by first | omega | (simp only [World.size_drew]; omega)) (by assumption) | exact HSN.out _ _ _ _ _ (by first | omega | (simp only [World.size_drew]; omega)) (Ext.trans (by assumption) (Ext.alloc _ _)))
          (first
              | (go_at_call 13; (with_reducible refine (CSU.out _ _ _ (by first | exact ku.ext hb0 | exact (ku.ext hb0).ext (Ext.alloc _ _)) (by first | exact kn.ext hb0 | exact (kn.ext hb0).ext (Ext.alloc _ _))).mono ?_); rintro e x107_1 ⟨v1, rfl, m1, g1⟩; have hb1 : Ext x86_4 x107_1 := (by first | exact hb0.trans g1 | exact (hb0.trans (Ext.alloc _ _)).trans g1); have hs1 := hb1.size)
              | (go_at_call 18; (with_reducible refine (CQU.out _ _ _ (by first | exact m1 | exact (m1).ext (Ext.alloc _ _)) (by first | exact kv.ext hb1 | exact (kv.ext hb1).ext (Ext.alloc _ _))).mono ?_); rintro e x107_2 ⟨v2, rfl, m2, g2⟩; have hb2 : Ext x86_4 x107_2 := (by first | exact hb1.trans g2 | exact (hb1.trans (Ext.alloc _ _)).trans g2); have hs2 := hb2.size; obtain ⟨ng3, a3, n3, c3, a3', n3', c3', rfl⟩ := m2.shape; (first | (have yy := HNEW.out _ _ g2; (try simp only [World.size_drew] at yy); obtain ⟨y0, y1, y2, y3, y4, y5⟩ := yy) | (have yy := HNEW.out _ _ ((Ext.undrew g1).trans g2); (try simp only [World.size_drew] at yy); obtain ⟨y0, y1, y2, y3, y4, y5⟩ := yy) | (obtain ⟨y0, y1, y2, y3, y4, y5⟩ := HNEW.out x107_2 _ (Below.refl _ _)))))
        all_goals (go_wp2_with fail; go_meet; first | exact ⟨rfl, _, rfl, newNum0 hb2 m2⟩ | exact ⟨rfl, _, rfl, newNum hb2 (by first | omega | (simp only [World.size_drew]; omega)) ((Box.new _ _ _).ext g2) m2⟩ | exact ⟨rfl, _, rfl, newNum hb2 (by first | omega | (simp only [World.size_drew]; omega)) (((Box.new _ _ _).ext (Ext.undrew g1)).ext g2) m2⟩)
      case rest =>
        obtain ⟨rfl, gQ, rfl, gx8, hg8, ng8, a8, n8, c8, a8', n8', c8', B8, kv8⟩ := hcut
        have hz_wc := gx8.out.size
        replace HE := hid (HE.out.trans gx8.out)
        replace HB_O := hid (HB_O.out.ext gx8.out)
        replace HB_X := hid (HB_X.out.ext gx8.out)
        replace HB_Y := hid (HB_Y.out.ext gx8.out)
        replace HB_W := hid (HB_W.out.ext gx8.out)
        replace HB_S := hid (HB_S.out.ext gx8.out)
        replace ku := ku.ext gx8.out
        replace kv := kv.ext gx8.out
        replace kn := kn.ext gx8.out
        have HB_Q := hid B8
        clear B8 HS HSN HNEW
        obtain ⟨c_108, c_109, c_110, c_111, c_112, c_113, c_114, c_115, c_116⟩ := HB_O.out.c9
        obtain ⟨c_117, c_118, c_119⟩ := HB_X.out.c3
        obtain ⟨c_120, c_121, c_122⟩ := HB_Y.out.c3
        obtain ⟨c_123, c_124⟩ := HB_W.out.c2
        obtain ⟨c_125, c_126, c_127⟩ := HB_S.out.c3
        obtain ⟨c_128, c_129, c_130⟩ := HB_Q.out.c3
        go_wp2_with fail
        clear c_108 c_109 c_110 c_111 c_112 c_113 c_114 c_115 c_116 c_117 c_118 c_119 c_120 c_121 c_122 c_123 c_124 c_125 c_126 c_127 c_128 c_129 c_130
        refine (CII.out _ _ kv8).mono ?_
        rintro e w9 ⟨rfl, g9⟩
        have hz_w9 := g9.size
        replace HE := hid (HE.out.trans g9)
        replace HB_O := hid (HB_O.out.ext g9)
        replace HB_X := hid (HB_X.out.ext g9)
        replace HB_Y := hid (HB_Y.out.ext g9)
        replace HB_W := hid (HB_W.out.ext g9)
        replace HB_S := hid (HB_S.out.ext g9)
        replace HB_Q := hid (HB_Q.out.ext g9)
        replace ku := ku.ext g9
        replace kv := kv.ext g9
        replace kn := kn.ext g9
        replace kv8 := kv8.ext g9
        obtain ⟨c_131, c_132, c_133, c_134, c_135, c_136, c_137, c_138, c_139⟩ := HB_O.out.c9
        obtain ⟨c_140, c_141, c_142⟩ := HB_X.out.c3
        obtain ⟨c_143, c_144, c_145⟩ := HB_Y.out.c3
        obtain ⟨c_146, c_147⟩ := HB_W.out.c2
        obtain ⟨c_148, c_149, c_150⟩ := HB_S.out.c3
        obtain ⟨c_151, c_152, c_153⟩ := HB_Q.out.c3
        go_wp2_with fail
        clear c_131 c_132 c_133 c_134 c_135 c_136 c_137 c_138 c_139 c_140 c_141 c_142 c_143 c_144 c_145 c_146 c_147 c_148 c_149 c_150 c_151 c_152 c_153
        refine (CW.out _ (HP.out.ext HE.out) (HT.out.ext HE.out)).mono ?_
        rintro e w10 ⟨rfl, g10⟩
        have hz_w10 := g10.size
        replace HE := hid (HE.out.trans g10)
        replace HB_O := hid (HB_O.out.ext g10)
        replace HB_X := hid (HB_X.out.ext g10)
        replace HB_Y := hid (HB_Y.out.ext g10)
        replace HB_W := hid (HB_W.out.ext g10)
        replace HB_S := hid (HB_S.out.ext g10)
        replace HB_Q := hid (HB_Q.out.ext g10)
        replace ku := ku.ext g10
        replace kv := kv.ext g10
        replace kn := kn.ext g10
        replace kv8 := kv8.ext g10
        obtain ⟨c_154, c_155, c_156, c_157, c_158, c_159, c_160, c_161, c_162⟩ := HB_O.out.c9
        obtain ⟨c_163, c_164, c_165⟩ := HB_X.out.c3
        obtain ⟨c_166, c_167, c_168⟩ := HB_Y.out.c3
        obtain ⟨c_169, c_170⟩ := HB_W.out.c2
        obtain ⟨c_171, c_172, c_173⟩ := HB_S.out.c3
        obtain ⟨c_174, c_175, c_176⟩ := HB_Q.out.c3
        go_wp2_with fail
        clear c_154 c_155 c_156 c_157 c_158 c_159 c_160 c_161 c_162 c_163 c_164 c_165 c_166 c_167 c_168 c_169 c_170 c_171 c_172 c_173 c_174 c_175 c_176
        unfold TruePost
        refine bodyPost_ret (v := .bool true) (by simp [results, Tryz.results5, go_sem]) rfl ⟨rfl, HE.out⟩
  · have HBL : Hid ((decide (za = 0) && decide (zb = 0)) = false) := hid (by rw [Bool.and_eq_false_iff]; by_cases h : za = 0; exact .inr (decide_eq_false (fun k => hz ⟨h, k⟩)); exact .inl (decide_eq_false h))
    clear hz
    rw [HBL.out]
    have gA := Ext.trans (Ext.alloc w1 (.cells #[.bool ngu, .slice au nu cu, .slice au' nu' cu'] 32)) (Ext.alloc _ (.cells #[.bool ngv, .slice av nv cv, .slice av' nv' cv'] 32))
    obtain ⟨c_10, c_11, c_12, c_13, c_14, c_15, c_16, c_17, c_18⟩ := (HB_O.out.ext gA).c9
    go_upto_region 2 with (fail)
    clear gA c_10 c_11 c_12 c_13 c_14 c_15 c_16 c_17 c_18
    obtain ⟨W2, hW2, g2, hy2, B_X, B_Y⟩ := pro2s w1 #[.bool ngu, .slice au nu cu, .slice au' nu' cu'] #[.bool ngv, .slice av nv cv, .slice av' nv' cv'] 32 32
    rw [← hW2]
    clear hW2
    have hz_W2 := g2.size
    replace HE := hid (HE.out.trans g2)
    replace HB_O := hid (HB_O.out.ext g2)
    replace ku := ku.ext g2
    replace kv := kv.ext g2
    have HB_X := hid B_X
    have HB_Y := hid B_Y
    clear B_X B_Y
    obtain ⟨c_19, c_20, c_21, c_22, c_23, c_24, c_25, c_26, c_27⟩ := HB_O.out.c9
    obtain ⟨c_28, c_29, c_30⟩ := HB_X.out.c3
    obtain ⟨c_31, c_32, c_33⟩ := HB_Y.out.c3
    go_wp2_with fail
    clear c_19 c_20 c_21 c_22 c_23 c_24 c_25 c_26 c_27 c_28 c_29 c_30 c_31 c_32 c_33
    refine (CW.out _ (HP.out.ext HE.out) (HT.out.ext HE.out)).mono ?_
    rintro e w3 ⟨rfl, g3⟩
    have hz_w3 := g3.size
    replace HE := hid (HE.out.trans g3)
    replace HB_O := hid (HB_O.out.ext g3)
    replace HB_X := hid (HB_X.out.ext g3)
    replace HB_Y := hid (HB_Y.out.ext g3)
    replace ku := ku.ext g3
    replace kv := kv.ext g3
    obtain ⟨c_34, c_35, c_36, c_37, c_38, c_39, c_40, c_41, c_42⟩ := HB_O.out.c9
    obtain ⟨c_43, c_44, c_45⟩ := HB_X.out.c3
    obtain ⟨c_46, c_47, c_48⟩ := HB_Y.out.c3
    go_wp2_with fail
    clear c_34 c_35 c_36 c_37 c_38 c_39 c_40 c_41 c_42 c_43 c_44 c_45 c_46 c_47 c_48
    unfold TruePost
    refine bodyPost_ret (v := .bool true) (by simp [results, Tryz.results5, go_sem]) rfl ⟨rfl, HE.out⟩
end Go.Proofs.YtpjpaiaaimmngaaGreatDoor

/- The law FloatsRemains: true at every input. -/
namespace Go.Proofs.YtpjpaiaaimmngaaGreatDoor
open Go.RowKit Vn

theorem isVal_sm {P b : Nat} {q : Rat} (hP : P ≤ 113) (hb : b ≤ 1023) (hv : IsVal P b q) (hg : absQ q ≤ grQ P b) : SmQ 5000 q := by
  obtain ⟨m, j, h1, h2, h3⟩ := hv
  have key : SmQ 5000 (absQ q) := by
    rw [h3]
    by_cases hj : j ≤ 1100
    · have s1 : SmQ 113 ((m : Nat) : Rat) := SmQ.nat (by decide) (Nat.lt_of_lt_of_le h2 (Nat.pow_le_pow_right (by decide) hP))
      exact (s1.mul_p2 j 3500 (by omega)).mono (by decide)
    · have hm : m = 0 := by
        rcases Nat.eq_zero_or_pos m with e | e
        · exact e
        · exfalso
          rw [h3] at hg
          have h4 := grQ_lt P b
          have h5 : (1 : Rat) ≤ ((m : Nat) : Rat) := by exact_mod_cast e
          have h6 := Rat.mul_le_mul_of_nonneg_right h5 (Rat.le_of_lt (p2_pos j))
          have h7 : (2 : Rat) ^ j < (2 : Rat) ^ ((b : Int) + 1) := by grind
          rw [p2_lt_iff] at h7
          omega
      rw [hm, show (((0 : Nat) : Nat) : Rat) * (2 : Rat) ^ j = 0 from by rw [show ((0 : Nat) : Rat) = 0 from rfl, Rat.zero_mul]]
      exact SmQ.zero _ (by decide)
  rcases absQ_cases q with e | e
  · rw [e]; exact key
  · rw [e]; exact key.neg
theorem rem_sm {E P i j : Nat} (hF : Fmt E P) (ki : wkind E P i ≤ 2) (kj : wkind E P j ≤ 2) : SmQ 12000 (remV (wkind E P i) (wvalK E P (bias E) i) (wkind E P j) (wvalK E P (bias E) j)) := by
  have hE : 2 ≤ E ∧ E ≤ 11 := by unfold Fmt at hF; omega
  have hP : 2 ≤ P ∧ P ≤ 113 := by unfold Fmt at hF; omega
  have hb : bias E ≤ 1023 := by
    have : 2 ^ (E - 1) ≤ 1024 := Nat.pow_le_pow_right (n := 2) (j := 10) (by decide) (by omega)
    unfold bias; omega
  have si := wvalK_sm hF ki
  have va : IsVal P (bias E) (wvalK E P (bias E) i) := by rw [wvalK_fin ki]; exact wval_isVal (by omega)
  have vb : IsVal P (bias E) (wvalK E P (bias E) j) := by rw [wvalK_fin kj]; exact wval_isVal (by omega)
  have gb : absQ (wvalK E P (bias E) j) ≤ grQ P (bias E) := by rw [wvalK_fin kj]; exact wval_le hE.1 (by omega) (fin_wf kj)
  unfold remV
  split
  · exact si.mono (by decide)
  · generalize wvalK E P (bias E) i = a at *
    generalize wvalK E P (bias E) j = c at *
    by_cases hc : c = 0
    · rw [hc, Rat.zero_mul, show a - 0 = a from by grind]
      exact si.mono (by decide)
    · have near := rem_near a c hc
      have h0 := absQ_zero_le (a - c * ((remN (a / c) : Int) : Rat))
      exact (isVal_sm hP.2 hb (rem_val va vb _ near) (by grind)).mono (by decide)

theorem rem_good (E P : Int) (i j : Nat) (hz : (valueZ E P i).2 = 0 ∧ (valueZ E P j).2 = 0) :
    ∃ (r : Nat) (fl : Int) (v : Rat) (z : Int), W128 r ∧ (∀ w, Tabs w → Calls Tryz.prog 16 #[.agg #[.int .i64 E, .int .i64 P], Word i, Word j] w fun e w' => e = .returned (.tuple #[Word r, .int .i64 fl, .int .i64 0]) ∧ Ext w w') ∧
      (∀ w, Calls Tryz.prog 12 #[.agg #[.int .i64 E, .int .i64 P], Word r] w (NumErr v z w)) ∧
      (((valueZ E P j).1 = 0 ∧ z = 4 ∧ fl = 1) ∨ ((valueZ E P j).1 ≠ 0 ∧ z = 0 ∧ fl = 0 ∧ SmQ 5000 v ∧ absQ v + absQ v ≤ absQ (valueZ E P j).1 ∧ ∃ t : Int, (valueZ E P i).1 - v = (valueZ E P j).1 * (t : Rat))) := by
  obtain ⟨hF, hi2, ki, ea⟩ := valueZ_ok hz.1
  obtain ⟨_, hj2, kj, eb⟩ := valueZ_ok hz.2
  rw [ea, eb]
  clear ea eb hz
  obtain ⟨e, rfl⟩ := Int.eq_ofNat_of_zero_le (show 0 ≤ E by unfold Fmt at hF; omega)
  obtain ⟨p, rfl⟩ := Int.eq_ofNat_of_zero_le (show 0 ≤ P by unfold Fmt at hF; omega)
  simp only [Int.toNat_natCast] at *
  have hE : 2 ≤ e := by unfold Fmt at hF; omega
  have hP : 2 ≤ p := by unfold Fmt at hF; omega
  have hEP : e + p ≤ 124 := by unfold Fmt at hF; omega
  have si := wvalK_sm hF ki
  have sj := wvalK_sm hF kj
  have sv := rem_sm hF ki kj
  obtain ⟨l, hl⟩ := log_there (remV (wkind e p i) (wvalK e p (bias e) i) (wkind e p j) (wvalK e p (bias e) j))
  obtain ⟨r, hr⟩ : ∃ r, r = remR e p (bias e) 0 (wkind e p i) (wn e p i) (wvalK e p (bias e) i) (wkind e p j) (wvalK e p (bias e) j) l := ⟨_, rfl⟩
  have hp : 2 ^ (e + p) ≤ 2 ^ 128 := Nat.pow_le_pow_right (n := 2) (j := 128) (by decide) (by omega)
  have hrem : ∀ w, Tabs w → Calls Tryz.prog 16 #[.agg #[.int .i64 (e : Nat), .int .i64 (p : Nat)], Word i, Word j] w fun x w' => x = .returned (.tuple #[Word r.1, .int .i64 (r.2 : Nat), .int .i64 0]) ∧ Ext w w' := fun w hT => by
    have k1 := kind_nat ki
    have k2 := kind_nat kj
    have hy0 : ((wkind e p j).toNat : Int) ≠ 1 → ((wkind e p j).toNat : Int) ≠ 3 → wvalK e p (bias e) j ≠ 0 := fun h _ h0 => h (by rw [← k2.1]; exact (kind_zero kj).2 h0)
    have := Rem_good e p i j _ _ l 5000 w hF hi2 hj2 k1.1 k2.1 k1.2 k2.2 si sj (by decide) (by rw [← k1.1, ← k2.1]; exact sv) (by rw [← k1.1, ← k2.1]; exact hl) hy0 hT
    rw [← k1.1, ← k2.1, ← hr] at this
    exact this
  have hval : ∀ w, W128 r.1 → Calls Tryz.prog 12 #[.agg #[.int .i64 (e : Nat), .int .i64 (p : Nat)], Word r.1] w (NumErr (valueR e p r.1).1 (valueR e p r.1).2 w) := fun w h => Value_good e p r.1 w hF h
  by_cases b0 : wvalK e p (bias e) j = 0
  · obtain ⟨r2, rlt, rv⟩ := rem_bad hP kj b0 r hr
    have r8 : W128 r.1 := Nat.lt_of_lt_of_le rlt hp
    rw [rv] at hval
    exact ⟨r.1, _, 0, 4, r8, hrem, fun w => hval w r8, .inl ⟨b0, rfl, by rw [r2]; rfl⟩⟩
  · obtain ⟨r2, rlt, t, rv, near⟩ := rem_ok hE (by omega) ki kj b0 hl r hr
    have r8 : W128 r.1 := Nat.lt_of_lt_of_le rlt hp
    have hvs : SmQ 5000 (wvalK e p (bias e) i - wvalK e p (bias e) j * (t : Rat)) := by
      have hz : (valueZ (e : Nat) (p : Nat) r.1) = (wvalK e p (bias e) i - wvalK e p (bias e) j * (t : Rat), 0) := by
        unfold valueZ; rw [if_pos hF]; exact rv
      have := valueZ_sm (e : Nat) (p : Nat) r.1
      rwa [hz] at this
    rw [rv] at hval
    exact ⟨r.1, _, _, 0, r8, hrem, fun w => hval w r8, .inr ⟨b0, rfl, by rw [r2]; rfl, hvs, near, t, by grind⟩⟩

theorem remains_c (E P M : Int) (i0 i1 j0 j1 : Nat) (c0 c1 : Int) (w : World) (hi0 : i0 < 18446744073709551616) (hi1 : i1 < 18446744073709551616) (hj0 : j0 < 18446744073709551616) (hj1 : j1 < 18446744073709551616) (hw : WM w) (hT : Tabs w) :
   Calls Tryz.prog 5 #[.agg #[.int .i64 E, .int .i64 P, .int .i64 M, .int .u64 (i0 : Nat), .int .u64 (i1 : Nat), .int .u64 (j0 : Nat), .int .u64 (j1 : Nat), .int .u64 c0, .int .u64 c1]] w fun e w' => TruePost w e w' := by
  have ei := word_parts i0 i1 hi1
  have ej := word_parts j0 j1 hj1
  obtain ⟨i, hi⟩ : ∃ i, i = i0 * 18446744073709551616 + i1 := ⟨_, rfl⟩
  obtain ⟨j, hj⟩ : ∃ j, j = j0 * 18446744073709551616 + j1 := ⟨_, rfl⟩
  rw [← hi] at ei
  rw [← hj] at ej
  have wi : W128 i := by show i < 2 ^ 128; omega
  have wj : W128 j := by show j < 2 ^ 128; omega
  refine remains_x E P M i0 i1 j0 j1 c0 c1 (valueZ E P i).1 (valueZ E P j).1 (valueZ E P i).2 (valueZ E P j).2 w (valueZ_cases E P i) (valueZ_cases E P j) (hid fun w => ?_) (hid fun w => ?_) (valueZ_sm E P i) (valueZ_sm E P j) hw hT (hid fun hz => ?_)
  · rw [← ei]; exact Value_c E P i w wi
  · rw [← ej]; exact Value_c E P j w wj
  · obtain ⟨r, fl, v, z, r8, hs, hv, hc⟩ := rem_good E P i j hz
    obtain ⟨r0, r1, er⟩ := Word.shape r
    refine ⟨r0, r1, fl, v, z, fun w hT => ?_, fun w => ?_, hc⟩
    · rw [← ei, ← ej, ← er]; exact hs w hT
    · rw [← er]; exact hv w
end Go.Proofs.YtpjpaiaaimmngaaGreatDoor
