/- the law FloatsErrs, over contracts. -/
import Derived.Test.YtpjpaiaaimmngaaGreatDoorE01
import Derived.Test.YtpjpaiaaimmngaaGreatDoorM47
namespace Go.Proofs.YtpjpaiaaimmngaaGreatDoor
open Go.RowKit Vn

theorem cmpQ_eq {q r : Rat} (h : cmpQ q r = 0) : q = r := by
  unfold cmpQ at h
  split at h
  · omega
  · split at h
    · omega
    · rename_i h1 h2
      exact Rat.le_antisymm (Rat.not_lt.1 h2) (Rat.not_lt.1 h1)
/-- the rounded sum, in an abstract form. -/
def SumOk (E P : Int) (i0 i1 j0 j1 : Nat) (s : Rat) : Prop := ∃ (r0 r1 : Nat) (fl : Int) (v : Rat) (z : Int), (∀ w, Tabs w → Calls Tryz.prog 14 #[.agg #[.int .i64 E, .int .i64 P], .int .i64 0, .agg #[.int .u64 (i0 : Nat), .int .u64 (i1 : Nat)], .agg #[.int .u64 (j0 : Nat), .int .u64 (j1 : Nat)]] w fun e w' => e = .returned (.tuple #[.agg #[.int .u64 r0, .int .u64 r1], .int .i64 fl, .int .i64 0]) ∧ Ext w w') ∧
  (∀ w, Calls Tryz.prog 12 #[.agg #[.int .i64 E, .int .i64 P], .agg #[.int .u64 r0, .int .u64 r1]] w (NumErr v z w)) ∧
  ((z = 4 ∧ fl = 20) ∨ (z = 0 ∧ SmQ 5000 v ∧ (fl = 0 ↔ v = s) ∧ ∀ (x : Value) (w : World), NumV w x (s - v) → Calls Tryz.prog 15 #[.agg #[.int .i64 E, .int .i64 P], x] w fun e w' => e = .returned (.bool true) ∧ Ext w w'))

set_option maxRecDepth 100000 in
set_option maxHeartbeats 4000000 in
theorem errs_x (E P M : Int) (i0 i1 j0 j1 : Nat) (c0 c1 : Int) (qa qb : Rat) (za zb : Int) (w : World) (hza : za = 0 ∨ za = 2 ∨ za = 4 ∨ za = 6) (hzb : zb = 0 ∨ zb = 2 ∨ zb = 4 ∨ zb = 6) (CA : Hid (∀ w, Calls Tryz.prog 12 #[.agg #[.int .i64 E, .int .i64 P], .agg #[.int .u64 (i0 : Nat), .int .u64 (i1 : Nat)]] w (NumErr qa za w))) (CB : Hid (∀ w, Calls Tryz.prog 12 #[.agg #[.int .i64 E, .int .i64 P], .agg #[.int .u64 (j0 : Nat), .int .u64 (j1 : Nat)]] w (NumErr qb zb w))) (sa : SmQ 5000 qa) (sb : SmQ 5000 qb) (hw : WM w) (hT : Tabs w) (HG : Hid (za = 0 ∧ zb = 0 → SumOk E P i0 i1 j0 j1 (qa + qb))) :
   Calls Tryz.prog 4 #[.agg #[.int .i64 E, .int .i64 P, .int .i64 M, .int .u64 (i0 : Nat), .int .u64 (i1 : Nat), .int .u64 (j0 : Nat), .int .u64 (j1 : Nat), .int .u64 c0, .int .u64 c1]] w fun e w' => TruePost w e w' := by
  have CN : Hid (∀ w, Calls Tryz.prog 6 #[.agg #[.int .i64 E, .int .i64 P, .int .i64 M, .int .u64 (i0 : Nat), .int .u64 (i1 : Nat), .int .u64 (j0 : Nat), .int .u64 (j1 : Nat), .int .u64 c0, .int .u64 c1]] w (TwoNums qa za qb zb w)) := hid fun w => numbers_x E P M i0 i1 j0 j1 c0 c1 qa za qb zb w hza hzb CA CB
  have CW : Hid (∀ w, WM w → Tabs w → Calls Tryz.prog 10 #[] w fun e w' => e = .returned (.bool true) ∧ Ext w w') := hid fun w h k => awake_c w h k
  have CAD : Hid (∀ u v w, NumV w u qa → NumV w v qb → _) := hid fun u v w h k => Add_c u v qa qb 5000 w h k sa sb (by decide)
  have s1 : SmQ 10001 (qa + qb) := SmQ.add sa sb
  have HS1 := hid s1
  clear s1
  have HP := hid hw
  have HT := hid hT
  clear hza hzb CA CB sa sb hw hT
  obtain ⟨W0, hW0, g0, hz0, B_O⟩ := pro1 w #[.int .i64 E, .int .i64 P, .int .i64 M, .int .u64 (i0 : Nat), .int .u64 (i1 : Nat), .int .u64 (j0 : Nat), .int .u64 (j1 : Nat), .int .u64 c0, .int .u64 c1] 28
  have HE := hid g0
  have HB_O := hid B_O
  clear g0 B_O 
  go_enter Tryz.func4, Tryz.ntmps4
  go_upto_region 1 with (fail)
  rw [← hW0]
  clear hW0
  obtain ⟨c_1, c_2, c_3, c_4, c_5, c_6, c_7, c_8, c_9⟩ := HB_O.out.c9
  go_wp2_with fail
  clear c_1 c_2 c_3 c_4 c_5 c_6 c_7 c_8 c_9
  refine (CN.out _).mono ?_
  rintro e w1 ⟨u, v, rfl, ku, kv, g1⟩
  have hz_w1 := g1.size
  replace HE := hid (HE.out.trans g1)
  replace HB_O := hid (HB_O.out.ext g1)
  obtain ⟨ngu, au, nu, cu, au', nu', cu', rfl⟩ := ku.shape
  obtain ⟨ngv, av, nv, cv, av', nv', cv', rfl⟩ := kv.shape
  by_cases hz : za = 0 ∧ zb = 0
  · have HBL : Hid ((decide (za = 0) && decide (zb = 0)) = true) := hid (by rw [hz.1, hz.2]; rfl)
    have HZ := hid hz
    clear hz
    rw [HBL.out]
    have gA := Ext.trans (Ext.alloc w1 (.cells #[.bool ngu, .slice au nu cu, .slice au' nu' cu'] 32)) (Ext.alloc _ (.cells #[.bool ngv, .slice av nv cv, .slice av' nv' cv'] 32))
    obtain ⟨c_10, c_11, c_12, c_13, c_14, c_15, c_16, c_17, c_18⟩ := (HB_O.out.ext gA).c9
    go_upto_region 2 with (fail)
    clear gA c_10 c_11 c_12 c_13 c_14 c_15 c_16 c_17 c_18
    obtain ⟨W2, hW2, g2, hy2, B_X, B_Y⟩ := pro2s w1 #[.bool ngu, .slice au nu cu, .slice au' nu' cu'] #[.bool ngv, .slice av nv cv, .slice av' nv' cv'] 32 32
    rw [← hW2]
    clear hW2
    have hz_W2 := g2.size
    replace HE := hid (HE.out.trans g2)
    replace HB_O := hid (HB_O.out.ext g2)
    replace ku := ku.ext g2
    replace kv := kv.ext g2
    have HB_X := hid B_X
    have HB_Y := hid B_Y
    clear B_X B_Y
    obtain ⟨r0, r1, fl, v, z, CS, CV, hcase⟩ := HG.out HZ.out
    have CS := hid CS
    have CV := hid CV
    have HCS := hid hcase
    clear hcase
    obtain ⟨c_19, c_20, c_21, c_22, c_23, c_24, c_25, c_26, c_27⟩ := HB_O.out.c9
    obtain ⟨c_28, c_29, c_30⟩ := HB_X.out.c3
    obtain ⟨c_31, c_32, c_33⟩ := HB_Y.out.c3
    go_wp2_with fail
    clear c_19 c_20 c_21 c_22 c_23 c_24 c_25 c_26 c_27 c_28 c_29 c_30 c_31 c_32 c_33
    refine (CS.out _ (HT.out.ext HE.out)).mono ?_
    rintro e w3 ⟨rfl, g3⟩
    have hz_w3 := g3.size
    replace HE := hid (HE.out.trans g3)
    replace HB_O := hid (HB_O.out.ext g3)
    replace HB_X := hid (HB_X.out.ext g3)
    replace HB_Y := hid (HB_Y.out.ext g3)
    replace ku := ku.ext g3
    replace kv := kv.ext g3
    have gA := Ext.alloc w3 (.cells #[.int .u64 r0, .int .u64 r1] 26)
    obtain ⟨c_34, c_35, c_36, c_37, c_38, c_39, c_40, c_41, c_42⟩ := (HB_O.out.ext gA).c9
    obtain ⟨c_43, c_44, c_45⟩ := (HB_X.out.ext gA).c3
    obtain ⟨c_46, c_47, c_48⟩ := (HB_Y.out.ext gA).c3
    go_wp2_with fail
    clear gA c_34 c_35 c_36 c_37 c_38 c_39 c_40 c_41 c_42 c_43 c_44 c_45 c_46 c_47 c_48
    obtain ⟨W4, hW4, g4, hy4, B_W⟩ := pro1 w3 #[.int .u64 r0, .int .u64 r1] 26
    rw [← hW4]
    clear hW4
    have hz_W4 := g4.size
    replace HE := hid (HE.out.trans g4)
    replace HB_O := hid (HB_O.out.ext g4)
    replace HB_X := hid (HB_X.out.ext g4)
    replace HB_Y := hid (HB_Y.out.ext g4)
    replace ku := ku.ext g4
    replace kv := kv.ext g4
    have HB_W := hid B_W
    clear B_W
    refine (CV.out _).mono ?_
    rintro e w5 ⟨vn, rfl, kn, g5⟩
    have hz_w5 := g5.size
    replace HE := hid (HE.out.trans g5)
    replace HB_O := hid (HB_O.out.ext g5)
    replace HB_X := hid (HB_X.out.ext g5)
    replace HB_Y := hid (HB_Y.out.ext g5)
    replace HB_W := hid (HB_W.out.ext g5)
    replace ku := ku.ext g5
    replace kv := kv.ext g5
    obtain ⟨ngn, an, nn, cn, an', nn', cn', rfl⟩ := kn.shape
    rcases HCS.out with ⟨rfl, rfl⟩ | ⟨rfl, sv, hfl, CH⟩
    · have gA := Ext.alloc w5 (.cells #[.bool ngn, .slice an nn cn, .slice an' nn' cn'] 32)
      obtain ⟨c_49, c_50, c_51, c_52, c_53, c_54, c_55, c_56, c_57⟩ := (HB_O.out.ext gA).c9
      obtain ⟨c_58, c_59, c_60⟩ := (HB_X.out.ext gA).c3
      obtain ⟨c_61, c_62, c_63⟩ := (HB_Y.out.ext gA).c3
      obtain ⟨c_64, c_65⟩ := (HB_W.out.ext gA).c2
      go_wp2_with fail
      clear gA c_49 c_50 c_51 c_52 c_53 c_54 c_55 c_56 c_57 c_58 c_59 c_60 c_61 c_62 c_63 c_64 c_65
      obtain ⟨W6, hW6, g6, hy6, B_S⟩ := pro1 w5 #[.bool ngn, .slice an nn cn, .slice an' nn' cn'] 32
      rw [← hW6]
      clear hW6
      have hz_W6 := g6.size
      replace HE := hid (HE.out.trans g6)
      replace HB_O := hid (HB_O.out.ext g6)
      replace HB_X := hid (HB_X.out.ext g6)
      replace HB_Y := hid (HB_Y.out.ext g6)
      replace HB_W := hid (HB_W.out.ext g6)
      replace ku := ku.ext g6
      replace kv := kv.ext g6
      replace kn := kn.ext g6
      have HB_S := hid B_S
      clear B_S
      refine (CW.out _ (HP.out.ext HE.out) (HT.out.ext HE.out)).mono ?_
      rintro e w7 ⟨rfl, g7⟩
      have hz_w7 := g7.size
      replace HE := hid (HE.out.trans g7)
      replace HB_O := hid (HB_O.out.ext g7)
      replace HB_X := hid (HB_X.out.ext g7)
      replace HB_Y := hid (HB_Y.out.ext g7)
      replace HB_W := hid (HB_W.out.ext g7)
      replace HB_S := hid (HB_S.out.ext g7)
      replace ku := ku.ext g7
      replace kv := kv.ext g7
      replace kn := kn.ext g7
      obtain ⟨c_66, c_67, c_68, c_69, c_70, c_71, c_72, c_73, c_74⟩ := HB_O.out.c9
      obtain ⟨c_75, c_76, c_77⟩ := HB_X.out.c3
      obtain ⟨c_78, c_79, c_80⟩ := HB_Y.out.c3
      obtain ⟨c_81, c_82⟩ := HB_W.out.c2
      obtain ⟨c_83, c_84, c_85⟩ := HB_S.out.c3
      go_wp2_with fail
      clear c_66 c_67 c_68 c_69 c_70 c_71 c_72 c_73 c_74 c_75 c_76 c_77 c_78 c_79 c_80 c_81 c_82 c_83 c_84 c_85
      unfold TruePost
      refine bodyPost_ret (v := .bool true) (by simp [results, Tryz.results4, go_sem]) rfl ⟨rfl, HE.out⟩
    · have CH := hid CH
      have HSV := hid sv
      have CSU : Hid (∀ u x w, NumV w u (qa + qb) → NumV w x v → _) := hid fun u x w h k => Sub_c u x (qa + qb) v 10001 w h k HS1.out (sv.mono (by decide)) (by decide)
      clear HCS sv
      by_cases hf : fl = 0
      · obtain rfl := hfl.1 hf
        subst hf
        clear hfl
        have CCM : Hid (∀ u x w, NumV w u (qa + qb) → NumV w x (qa + qb) → Calls Tryz.prog 8 #[u, x] w fun e w' => e = .returned (.int .i64 0) ∧ Ext w w') := hid fun u x w h k => by
          have := Cmp_c u x (qa + qb) (qa + qb) 10001 w h k HS1.out HS1.out (by decide)
          rwa [cmpQ_self] at this
        have gA := Ext.alloc w5 (.cells #[.bool ngn, .slice an nn cn, .slice an' nn' cn'] 32)
        obtain ⟨c_49, c_50, c_51, c_52, c_53, c_54, c_55, c_56, c_57⟩ := (HB_O.out.ext gA).c9
        obtain ⟨c_58, c_59, c_60⟩ := (HB_X.out.ext gA).c3
        obtain ⟨c_61, c_62, c_63⟩ := (HB_Y.out.ext gA).c3
        obtain ⟨c_64, c_65⟩ := (HB_W.out.ext gA).c2
        go_wp2_with fail
        clear gA c_49 c_50 c_51 c_52 c_53 c_54 c_55 c_56 c_57 c_58 c_59 c_60 c_61 c_62 c_63 c_64 c_65
        obtain ⟨W6, hW6, g6, hy6, B_S⟩ := pro1 w5 #[.bool ngn, .slice an nn cn, .slice an' nn' cn'] 32
        rw [← hW6]
        clear hW6
        have hz_W6 := g6.size
        replace HE := hid (HE.out.trans g6)
        replace HB_O := hid (HB_O.out.ext g6)
        replace HB_X := hid (HB_X.out.ext g6)
        replace HB_Y := hid (HB_Y.out.ext g6)
        replace HB_W := hid (HB_W.out.ext g6)
        replace ku := ku.ext g6
        replace kv := kv.ext g6
        replace kn := kn.ext g6
        have HB_S := hid B_S
        clear B_S
        have HS : Hid (∀ w', Ext W6 w' → w'.cell? ⟨w.heap.size, 0, none⟩ = some (.int .i64 E) ∧ w'.cell? ⟨w.heap.size, 1, none⟩ = some (.int .i64 P) ∧ w'.cell? ⟨w.heap.size, 2, none⟩ = some (.int .i64 M) ∧ w'.cell? ⟨w.heap.size, 3, none⟩ = some (.int .u64 (i0 : Nat)) ∧ w'.cell? ⟨w.heap.size, 4, none⟩ = some (.int .u64 (i1 : Nat)) ∧ w'.cell? ⟨w.heap.size, 5, none⟩ = some (.int .u64 (j0 : Nat)) ∧ w'.cell? ⟨w.heap.size, 6, none⟩ = some (.int .u64 (j1 : Nat)) ∧ w'.cell? ⟨w.heap.size, 7, none⟩ = some (.int .u64 c0) ∧ w'.cell? ⟨w.heap.size, 8, none⟩ = some (.int .u64 c1) ∧ w'.cell? ⟨w1.heap.size, 0, none⟩ = some (.bool ngu) ∧ w'.cell? ⟨w1.heap.size, 1, none⟩ = some (.slice au nu cu) ∧ w'.cell? ⟨w1.heap.size, 2, none⟩ = some (.slice au' nu' cu') ∧ w'.cell? ⟨w1.heap.size + 1, 0, none⟩ = some (.bool ngv) ∧ w'.cell? ⟨w1.heap.size + 1, 1, none⟩ = some (.slice av nv cv) ∧ w'.cell? ⟨w1.heap.size + 1, 2, none⟩ = some (.slice av' nv' cv') ∧ w'.cell? ⟨w5.heap.size, 0, none⟩ = some (.bool ngn) ∧ w'.cell? ⟨w5.heap.size, 1, none⟩ = some (.slice an nn cn) ∧ w'.cell? ⟨w5.heap.size, 2, none⟩ = some (.slice an' nn' cn')) := hid fun w' h => ⟨(HB_O.out.ext h).cell 0, (HB_O.out.ext h).cell 1, (HB_O.out.ext h).cell 2, (HB_O.out.ext h).cell 3, (HB_O.out.ext h).cell 4, (HB_O.out.ext h).cell 5, (HB_O.out.ext h).cell 6, (HB_O.out.ext h).cell 7, (HB_O.out.ext h).cell 8, (HB_X.out.ext h).cell 0, (HB_X.out.ext h).cell 1, (HB_X.out.ext h).cell 2, (HB_Y.out.ext h).cell 0, (HB_Y.out.ext h).cell 1, (HB_Y.out.ext h).cell 2, (HB_S.out.ext h).cell 0, (HB_S.out.ext h).cell 1, (HB_S.out.ext h).cell 2⟩
        have hb0 : Ext W6 W6.drew := Below.drew (Below.refl _ W6)
        refine wp_region_held_drew (S := fun w' => w'.cell? ⟨w.heap.size, 0, none⟩ = some (.int .i64 E) ∧ w'.cell? ⟨w.heap.size, 1, none⟩ = some (.int .i64 P) ∧ w'.cell? ⟨w.heap.size, 2, none⟩ = some (.int .i64 M) ∧ w'.cell? ⟨w.heap.size, 3, none⟩ = some (.int .u64 (i0 : Nat)) ∧ w'.cell? ⟨w.heap.size, 4, none⟩ = some (.int .u64 (i1 : Nat)) ∧ w'.cell? ⟨w.heap.size, 5, none⟩ = some (.int .u64 (j0 : Nat)) ∧ w'.cell? ⟨w.heap.size, 6, none⟩ = some (.int .u64 (j1 : Nat)) ∧ w'.cell? ⟨w.heap.size, 7, none⟩ = some (.int .u64 c0) ∧ w'.cell? ⟨w.heap.size, 8, none⟩ = some (.int .u64 c1) ∧ w'.cell? ⟨w1.heap.size, 0, none⟩ = some (.bool ngu) ∧ w'.cell? ⟨w1.heap.size, 1, none⟩ = some (.slice au nu cu) ∧ w'.cell? ⟨w1.heap.size, 2, none⟩ = some (.slice au' nu' cu') ∧ w'.cell? ⟨w1.heap.size + 1, 0, none⟩ = some (.bool ngv) ∧ w'.cell? ⟨w1.heap.size + 1, 1, none⟩ = some (.slice av nv cv) ∧ w'.cell? ⟨w1.heap.size + 1, 2, none⟩ = some (.slice av' nv' cv') ∧ w'.cell? ⟨w5.heap.size, 0, none⟩ = some (.bool ngn) ∧ w'.cell? ⟨w5.heap.size, 1, none⟩ = some (.slice an nn cn) ∧ w'.cell? ⟨w5.heap.size, 2, none⟩ = some (.slice an' nn' cn')) (by kernel_rfl) (HS.out _ hb0) (fun hHeld => ?_)
        refine wpAnyH_take (i := 0) (oi := { dst := some 47, op := Op.fieldAddr 28 (Operand.tmp 1) 0, type := 0, pos := "law.go:293", after := #[], guard := none }) (v := ?_) rfl (by kernel_rfl) (by kernel_rfl) (by kernel_rfl) (fun _ _ _ h => h) (Or.inl ⟨by rfl, ?_⟩) (by assumption) ?_
        rotate_left
        · intro w' hSw
          (try dsimp only at hSw)
          go_simp <;> with_reducible rfl
        try simp only [Act.put, List.setIfInBounds_toArray, List.set_cons_zero, List.set_cons_succ]
        refine wpAnyH_take (i := 1) (oi := { dst := some 48, op := Op.load 23 (Operand.tmp 47), type := 23, pos := "law.go:293", after := #[{ on := 0, ground := Ground.data }], guard := none }) (v := ?_) rfl (by kernel_rfl) (by kernel_rfl) (by kernel_rfl) (fun _ _ _ h => h) (Or.inl ⟨by rfl, ?_⟩) (by assumption) ?_
        rotate_left
        · intro w' hSw
          (try dsimp only at hSw)
          go_simp <;> with_reducible rfl
        try simp only [Act.put, List.setIfInBounds_toArray, List.set_cons_zero, List.set_cons_succ]
        refine wpAnyH_take (i := 2) (oi := { dst := some 49, op := Op.load 32 (Operand.tmp 3), type := 32, pos := "law.go:293", after := #[], guard := none }) (v := ?_) rfl (by kernel_rfl) (by kernel_rfl) (by kernel_rfl) (fun _ _ _ h => h) (Or.inl ⟨by rfl, ?_⟩) (by assumption) ?_
        rotate_left
        · intro w' hSw
          (try dsimp only at hSw)
          go_simp <;> with_reducible rfl
        try simp only [Act.put, List.setIfInBounds_toArray, List.set_cons_zero, List.set_cons_succ]
        refine wpAnyH_take (i := 3) (oi := { dst := some 50, op := Op.load 32 (Operand.tmp 4), type := 32, pos := "law.go:293", after := #[], guard := none }) (v := ?_) rfl (by kernel_rfl) (by kernel_rfl) (by kernel_rfl) (fun _ _ _ h => h) (Or.inl ⟨by rfl, ?_⟩) (by assumption) ?_
        rotate_left
        · intro w' hSw
          (try dsimp only at hSw)
          go_simp <;> with_reducible rfl
        try simp only [Act.put, List.setIfInBounds_toArray, List.set_cons_zero, List.set_cons_succ]
        refine wpAnyH_take (i := 5) (oi := { dst := some 52, op := Op.load 32 (Operand.tmp 9), type := 32, pos := "law.go:293", after := #[], guard := none }) (v := ?_) rfl (by kernel_rfl) (by kernel_rfl) (by kernel_rfl) (fun _ _ _ h => h) (Or.inl ⟨by rfl, ?_⟩) (by assumption) ?_
        rotate_left
        · intro w' hSw
          (try dsimp only at hSw)
          go_simp <;> with_reducible rfl
        try simp only [Act.put, List.setIfInBounds_toArray, List.set_cons_zero, List.set_cons_succ]
        refine wpAnyH_ready (rs := [4]) (by kernel_rfl) (by simp) ?_
        refine AllReadyH.cons (o := { dst := some 51, op := Op.call { callee := Callee.value (Operand.func 9), args := #[Operand.tmp 49, Operand.tmp 50], argTypes := #[32, 32] }, type := 32, pos := "law.go:293", after := #[{ on := 2, ground := Ground.data }, { on := 3, ground := Ground.data }], guard := none }) rfl (fun K hK => ?_) AllReadyH.nil
        go_simp
        refine (CAD.out _ _ _ (ku.ext hb0) (kv.ext hb0)).mono ?_
        rintro e x66_1 ⟨vd1, rfl, kd1, g1⟩
        have hb1 : Ext W6 x66_1 := hb0.trans g1
        try dsimp only
        refine hK.out _ _ (HS.out _ hb1) ?_
        clear hHeld
        intro hHeld
        clear hK K
        try simp only [Act.put, List.setIfInBounds_toArray, List.set_cons_zero, List.set_cons_succ]
        refine wpAnyH_ready (rs := [6]) (by kernel_rfl) (by simp) ?_
        refine AllReadyH.cons (o := { dst := some 53, op := Op.call { callee := Callee.value (Operand.func 13), args := #[Operand.tmp 51, Operand.tmp 52], argTypes := #[32, 32] }, type := 32, pos := "law.go:293", after := #[{ on := 4, ground := Ground.data }, { on := 5, ground := Ground.data }, { on := 4, ground := Ground.chain }], guard := none }) rfl (fun K hK => ?_) AllReadyH.nil
        go_simp
        refine (CSU.out _ _ _ kd1 (kn.ext hb1)).mono ?_
        rintro e x66_2 ⟨vd2, rfl, kd2, g2⟩
        have hb2 : Ext W6 x66_2 := hb1.trans g2
        try dsimp only
        refine hK.out _ _ (HS.out _ hb2) ?_
        clear hHeld
        intro hHeld
        clear hK K
        try simp only [Act.put, List.setIfInBounds_toArray, List.set_cons_zero, List.set_cons_succ]
        refine wpAnyH_ready (rs := [7]) (by kernel_rfl) (by simp) ?_
        refine AllReadyH.cons (o := { dst := some 54, op := Op.call { callee := Callee.value (Operand.func 15), args := #[Operand.tmp 48, Operand.tmp 53], argTypes := #[23, 32] }, type := 4, pos := "law.go:293", after := #[{ on := 1, ground := Ground.data }, { on := 6, ground := Ground.data }, { on := 6, ground := Ground.chain }], guard := none }) rfl (fun K hK => ?_) AllReadyH.nil
        go_simp
        refine (CH.out _ _ kd2).mono ?_
        rintro e x66_3 ⟨rfl, g3⟩
        have hb3 : Ext W6 x66_3 := hb2.trans g3
        try dsimp only
        refine hK.out _ _ (HS.out _ hb3) ?_
        clear hHeld
        intro hHeld
        clear hK K
        try simp only [Act.put, List.setIfInBounds_toArray, List.set_cons_zero, List.set_cons_succ]
        refine wpAnyH_take (i := 8) (oi := { dst := some 55, op := Op.move (Operand.tmp 54), type := 4, pos := "law.go:293", after := #[{ on := 7, ground := Ground.data }, { on := 7, ground := Ground.chain }], guard := none }) (v := ?_) rfl (by kernel_rfl) (by kernel_rfl) (by kernel_rfl) (fun _ _ _ h => h) (Or.inl ⟨by rfl, ?_⟩) (by assumption) ?_
        rotate_left
        · intro w' hSw
          (try dsimp only at hSw)
          go_simp <;> with_reducible rfl
        try simp only [Act.put, List.setIfInBounds_toArray, List.set_cons_zero, List.set_cons_succ]
        refine wpAnyH_take (i := 9) (oi := { dst := some 56, op := Op.load 32 (Operand.tmp 9), type := 32, pos := "law.go:293", after := #[{ on := 8, ground := Ground.guard }], guard := some (8, true) }) (v := ?_) rfl (by kernel_rfl) (by kernel_rfl) (by kernel_rfl) (fun _ _ _ h => h) (Or.inl ⟨by rfl, ?_⟩) (by assumption) ?_
        rotate_left
        · intro w' hSw
          (try dsimp only at hSw)
          go_simp <;> with_reducible rfl
        try simp only [Act.put, List.setIfInBounds_toArray, List.set_cons_zero, List.set_cons_succ]
        refine wpAnyH_take (i := 10) (oi := { dst := some 57, op := Op.load 32 (Operand.tmp 3), type := 32, pos := "law.go:293", after := #[{ on := 8, ground := Ground.guard }], guard := some (8, true) }) (v := ?_) rfl (by kernel_rfl) (by kernel_rfl) (by kernel_rfl) (fun _ _ _ h => h) (Or.inl ⟨by rfl, ?_⟩) (by assumption) ?_
        rotate_left
        · intro w' hSw
          (try dsimp only at hSw)
          go_simp <;> with_reducible rfl
        try simp only [Act.put, List.setIfInBounds_toArray, List.set_cons_zero, List.set_cons_succ]
        refine wpAnyH_take (i := 11) (oi := { dst := some 58, op := Op.load 32 (Operand.tmp 4), type := 32, pos := "law.go:293", after := #[{ on := 8, ground := Ground.guard }], guard := some (8, true) }) (v := ?_) rfl (by kernel_rfl) (by kernel_rfl) (by kernel_rfl) (fun _ _ _ h => h) (Or.inl ⟨by rfl, ?_⟩) (by assumption) ?_
        rotate_left
        · intro w' hSw
          (try dsimp only at hSw)
          go_simp <;> with_reducible rfl
        try simp only [Act.put, List.setIfInBounds_toArray, List.set_cons_zero, List.set_cons_succ]
        refine wpAnyH_take (i := 15) (oi := { dst := some 62, op := Op.move (Operand.tmp 7), type := 3, pos := "law.go:293", after := #[{ on := 8, ground := Ground.guard }], guard := some (8, true) }) (v := ?_) rfl (by kernel_rfl) (by kernel_rfl) (by kernel_rfl) (fun _ _ _ h => h) (Or.inl ⟨by rfl, ?_⟩) (by assumption) ?_
        rotate_left
        · intro w' hSw
          (try dsimp only at hSw)
          go_simp <;> with_reducible rfl
        try simp only [Act.put, List.setIfInBounds_toArray, List.set_cons_zero, List.set_cons_succ]
        refine wpAnyH_take (i := 16) (oi := { dst := some 63, op := Op.binOp BinOp.eql 3 (Operand.tmp 62) (Operand.const (Value.int IntKind.i64 0)) 3, type := 4, pos := "law.go:293", after := #[{ on := 15, ground := Ground.data }, { on := 8, ground := Ground.guard }], guard := some (8, true) }) (v := ?_) rfl (by kernel_rfl) (by kernel_rfl) (by kernel_rfl) (fun _ _ _ h => h) (Or.inl ⟨by rfl, ?_⟩) (by assumption) ?_
        rotate_left
        · intro w' hSw
          (try dsimp only at hSw)
          go_simp <;> with_reducible rfl
        try simp only [Act.put, List.setIfInBounds_toArray, List.set_cons_zero, List.set_cons_succ]
        refine wpAnyH_ready (rs := [12]) (by kernel_rfl) (by simp) ?_
        refine AllReadyH.cons (o := { dst := some 59, op := Op.call { callee := Callee.value (Operand.func 9), args := #[Operand.tmp 57, Operand.tmp 58], argTypes := #[32, 32] }, type := 32, pos := "law.go:293", after := #[{ on := 10, ground := Ground.data }, { on := 11, ground := Ground.data }, { on := 8, ground := Ground.chain }, { on := 8, ground := Ground.guard }], guard := some (8, true) }) rfl (fun K hK => ?_) AllReadyH.nil
        go_simp
        refine (CAD.out _ _ _ (ku.ext hb3) (kv.ext hb3)).mono ?_
        rintro e x66_4 ⟨vd4, rfl, kd4, g4⟩
        have hb4 : Ext W6 x66_4 := hb3.trans g4
        try dsimp only
        refine hK.out _ _ (HS.out _ hb4) ?_
        clear hHeld
        intro hHeld
        clear hK K
        try simp only [Act.put, List.setIfInBounds_toArray, List.set_cons_zero, List.set_cons_succ]
        refine wpAnyH_ready (rs := [13]) (by kernel_rfl) (by simp) ?_
        refine AllReadyH.cons (o := { dst := some 60, op := Op.call { callee := Callee.value (Operand.func 8), args := #[Operand.tmp 56, Operand.tmp 59], argTypes := #[32, 32] }, type := 3, pos := "law.go:293", after := #[{ on := 9, ground := Ground.data }, { on := 12, ground := Ground.data }, { on := 12, ground := Ground.chain }, { on := 8, ground := Ground.guard }], guard := some (8, true) }) rfl (fun K hK => ?_) AllReadyH.nil
        go_simp
        refine (CCM.out _ _ _ (kn.ext hb4) kd4).mono ?_
        rintro e x66_5 ⟨rfl, g5⟩
        have hb5 : Ext W6 x66_5 := hb4.trans g5
        try dsimp only
        refine hK.out _ _ (HS.out _ hb5) ?_
        clear hHeld
        intro hHeld
        clear hK K
        try simp only [Act.put, List.setIfInBounds_toArray, List.set_cons_zero, List.set_cons_succ]
        refine wpAnyH_take (i := 14) (oi := { dst := some 61, op := Op.binOp BinOp.eql 3 (Operand.tmp 60) (Operand.const (Value.int IntKind.i64 0)) 3, type := 4, pos := "law.go:293", after := #[{ on := 13, ground := Ground.data }, { on := 8, ground := Ground.guard }], guard := some (8, true) }) (v := ?_) rfl (by kernel_rfl) (by kernel_rfl) (by kernel_rfl) (fun _ _ _ h => h) (Or.inl ⟨by rfl, ?_⟩) (by assumption) ?_
        rotate_left
        · intro w' hSw
          (try dsimp only at hSw)
          go_simp <;> with_reducible rfl
        try simp only [Act.put, List.setIfInBounds_toArray, List.set_cons_zero, List.set_cons_succ]
        refine wpAnyH_take (i := 17) (oi := { dst := some 64, op := Op.binOp BinOp.eql 4 (Operand.tmp 61) (Operand.tmp 63) 4, type := 4, pos := "law.go:293", after := #[{ on := 14, ground := Ground.data }, { on := 16, ground := Ground.data }, { on := 8, ground := Ground.guard }], guard := some (8, true) }) (v := ?_) rfl (by kernel_rfl) (by kernel_rfl) (by kernel_rfl) (fun _ _ _ h => h) (Or.inl ⟨by rfl, ?_⟩) (by assumption) ?_
        rotate_left
        · intro w' hSw
          (try dsimp only at hSw)
          go_simp <;> with_reducible rfl
        try simp only [Act.put, List.setIfInBounds_toArray, List.set_cons_zero, List.set_cons_succ]
        refine wpAnyH_take (i := 18) (oi := { dst := some 65, op := Op.pick (Operand.tmp 55) (Operand.tmp 64) (Operand.const (Value.bool false)), type := 4, pos := "law.go:293", after := #[{ on := 8, ground := Ground.data }, { on := 17, ground := Ground.data }], guard := none }) (v := ?_) rfl (by kernel_rfl) (by kernel_rfl) (by kernel_rfl) (fun _ _ _ h => h) (Or.inl ⟨by rfl, ?_⟩) (by assumption) ?_
        rotate_left
        · intro w' hSw
          (try dsimp only at hSw)
          go_simp <;> with_reducible rfl
        try simp only [Act.put, List.setIfInBounds_toArray, List.set_cons_zero, List.set_cons_succ]
        refine wpAnyH_take (i := 19) (oi := { dst := some 66, op := Op.move (Operand.tmp 65), type := 4, pos := "law.go:293", after := #[{ on := 18, ground := Ground.data }, { on := 13, ground := Ground.chain }], guard := none }) (v := ?_) rfl (by kernel_rfl) (by kernel_rfl) (by kernel_rfl) (fun _ _ _ h => h) (Or.inl ⟨by rfl, ?_⟩) (by assumption) ?_
        rotate_left
        · intro w' hSw
          (try dsimp only at hSw)
          go_simp <;> with_reducible rfl
        try simp only [Act.put, List.setIfInBounds_toArray, List.set_cons_zero, List.set_cons_succ]
        refine wpAnyH_ready (rs := [20]) (by kernel_rfl) (by simp) ?_
        refine AllReadyH.cons (o := { dst := some 67, op := Op.call { callee := Callee.value (Operand.func 10), args := #[], argTypes := #[] }, type := 4, pos := "law.go:293", after := #[{ on := 19, ground := Ground.chain }, { on := 19, ground := Ground.guard }], guard := some (19, true) }) rfl (fun K hK => ?_) AllReadyH.nil
        go_simp
        refine (CW.out _ (HP.out.ext (HE.out.trans hb5)) (HT.out.ext (HE.out.trans hb5))).mono ?_
        rintro e x66_6 ⟨rfl, g6⟩
        have hb6 : Ext W6 x66_6 := hb5.trans g6
        try dsimp only
        refine hK.out _ _ (HS.out _ hb6) ?_
        clear hHeld
        intro hHeld
        clear hK K
        try simp only [Act.put, List.setIfInBounds_toArray, List.set_cons_zero, List.set_cons_succ]
        refine wpAnyH_take (i := 21) (oi := { dst := some 68, op := Op.pick (Operand.tmp 66) (Operand.tmp 67) (Operand.const (Value.bool false)), type := 4, pos := "law.go:293", after := #[{ on := 19, ground := Ground.data }, { on := 20, ground := Ground.data }], guard := none }) (v := ?_) rfl (by kernel_rfl) (by kernel_rfl) (by kernel_rfl) (fun _ _ _ h => h) (Or.inl ⟨by rfl, ?_⟩) (by assumption) ?_
        rotate_left
        · intro w' hSw
          (try dsimp only at hSw)
          go_simp <;> with_reducible rfl
        try simp only [Act.put, List.setIfInBounds_toArray, List.set_cons_zero, List.set_cons_succ]
        refine wpAnyH_take (i := 22) (oi := { dst := some 2, op := Op.assign (Operand.tmp 68), type := 4, pos := "law.go:293", after := #[{ on := 21, ground := Ground.data }, { on := 20, ground := Ground.chain }, { on := 0, ground := Ground.phase }, { on := 1, ground := Ground.phase }, { on := 2, ground := Ground.phase }, { on := 3, ground := Ground.phase }, { on := 4, ground := Ground.phase }, { on := 5, ground := Ground.phase }, { on := 6, ground := Ground.phase }, { on := 7, ground := Ground.phase }, { on := 8, ground := Ground.phase }, { on := 9, ground := Ground.phase }, { on := 10, ground := Ground.phase }, { on := 11, ground := Ground.phase }, { on := 12, ground := Ground.phase }, { on := 13, ground := Ground.phase }, { on := 14, ground := Ground.phase }, { on := 15, ground := Ground.phase }, { on := 16, ground := Ground.phase }, { on := 17, ground := Ground.phase }, { on := 18, ground := Ground.phase }, { on := 19, ground := Ground.phase }, { on := 20, ground := Ground.phase }, { on := 21, ground := Ground.phase }], guard := none }) (v := ?_) rfl (by kernel_rfl) (by kernel_rfl) (by kernel_rfl) (fun _ _ _ h => h) (Or.inl ⟨by rfl, ?_⟩) (by assumption) ?_
        rotate_left
        · intro w' hSw
          (try dsimp only at hSw)
          go_simp <;> with_reducible rfl
        try simp only [Act.put, List.setIfInBounds_toArray, List.set_cons_zero, List.set_cons_succ]
        refine wpAnyH_done (by kernel_rfl) ?_ _
        clear HS hHeld
        have hz_x66_6 := hb6.size
        replace HE := hid (HE.out.trans hb6)
        replace HB_O := hid (HB_O.out.ext hb6)
        replace HB_X := hid (HB_X.out.ext hb6)
        replace HB_Y := hid (HB_Y.out.ext hb6)
        replace HB_W := hid (HB_W.out.ext hb6)
        replace HB_S := hid (HB_S.out.ext hb6)
        replace ku := ku.ext hb6
        replace kv := kv.ext hb6
        replace kn := kn.ext hb6
        obtain ⟨c_67, c_68, c_69, c_70, c_71, c_72, c_73, c_74, c_75⟩ := HB_O.out.c9
        obtain ⟨c_76, c_77, c_78⟩ := HB_X.out.c3
        obtain ⟨c_79, c_80, c_81⟩ := HB_Y.out.c3
        obtain ⟨c_82, c_83⟩ := HB_W.out.c2
        obtain ⟨c_84, c_85, c_86⟩ := HB_S.out.c3
        go_wp2_with fail
        clear c_67 c_68 c_69 c_70 c_71 c_72 c_73 c_74 c_75 c_76 c_77 c_78 c_79 c_80 c_81 c_82 c_83 c_84 c_85 c_86
        unfold TruePost
        refine bodyPost_ret (v := .bool true) (by simp [results, Tryz.results4, go_sem]) rfl ⟨rfl, HE.out⟩
      · obtain ⟨cc, hcc⟩ : ∃ c, c = cmpQ v (qa + qb) := ⟨_, rfl⟩
        have hc0 : (cc == 0) = false := beq_eq_false_iff_ne.2 (fun h => hf (hfl.2 (cmpQ_eq (by rw [← hcc]; exact h))))
        have hf0 : (fl == 0) = false := beq_eq_false_iff_ne.2 hf
        have CCM : Hid (∀ u x w, NumV w u v → NumV w x (qa + qb) → Calls Tryz.prog 8 #[u, x] w fun e w' => e = .returned (.int .i64 cc) ∧ Ext w w') := hid fun u x w h k => by
          rw [hcc]; exact Cmp_c u x v (qa + qb) 10001 w h k (HSV.out.mono (by decide)) HS1.out (by decide)
        clear hcc hf hfl
        have gA := Ext.alloc w5 (.cells #[.bool ngn, .slice an nn cn, .slice an' nn' cn'] 32)
        obtain ⟨c_49, c_50, c_51, c_52, c_53, c_54, c_55, c_56, c_57⟩ := (HB_O.out.ext gA).c9
        obtain ⟨c_58, c_59, c_60⟩ := (HB_X.out.ext gA).c3
        obtain ⟨c_61, c_62, c_63⟩ := (HB_Y.out.ext gA).c3
        obtain ⟨c_64, c_65⟩ := (HB_W.out.ext gA).c2
        go_wp2_with fail
        clear gA c_49 c_50 c_51 c_52 c_53 c_54 c_55 c_56 c_57 c_58 c_59 c_60 c_61 c_62 c_63 c_64 c_65
        obtain ⟨W6, hW6, g6, hy6, B_S⟩ := pro1 w5 #[.bool ngn, .slice an nn cn, .slice an' nn' cn'] 32
        rw [← hW6]
        clear hW6
        have hz_W6 := g6.size
        replace HE := hid (HE.out.trans g6)
        replace HB_O := hid (HB_O.out.ext g6)
        replace HB_X := hid (HB_X.out.ext g6)
        replace HB_Y := hid (HB_Y.out.ext g6)
        replace HB_W := hid (HB_W.out.ext g6)
        replace ku := ku.ext g6
        replace kv := kv.ext g6
        replace kn := kn.ext g6
        have HB_S := hid B_S
        clear B_S
        have HS : Hid (∀ w', Ext W6 w' → w'.cell? ⟨w.heap.size, 0, none⟩ = some (.int .i64 E) ∧ w'.cell? ⟨w.heap.size, 1, none⟩ = some (.int .i64 P) ∧ w'.cell? ⟨w.heap.size, 2, none⟩ = some (.int .i64 M) ∧ w'.cell? ⟨w.heap.size, 3, none⟩ = some (.int .u64 (i0 : Nat)) ∧ w'.cell? ⟨w.heap.size, 4, none⟩ = some (.int .u64 (i1 : Nat)) ∧ w'.cell? ⟨w.heap.size, 5, none⟩ = some (.int .u64 (j0 : Nat)) ∧ w'.cell? ⟨w.heap.size, 6, none⟩ = some (.int .u64 (j1 : Nat)) ∧ w'.cell? ⟨w.heap.size, 7, none⟩ = some (.int .u64 c0) ∧ w'.cell? ⟨w.heap.size, 8, none⟩ = some (.int .u64 c1) ∧ w'.cell? ⟨w1.heap.size, 0, none⟩ = some (.bool ngu) ∧ w'.cell? ⟨w1.heap.size, 1, none⟩ = some (.slice au nu cu) ∧ w'.cell? ⟨w1.heap.size, 2, none⟩ = some (.slice au' nu' cu') ∧ w'.cell? ⟨w1.heap.size + 1, 0, none⟩ = some (.bool ngv) ∧ w'.cell? ⟨w1.heap.size + 1, 1, none⟩ = some (.slice av nv cv) ∧ w'.cell? ⟨w1.heap.size + 1, 2, none⟩ = some (.slice av' nv' cv') ∧ w'.cell? ⟨w5.heap.size, 0, none⟩ = some (.bool ngn) ∧ w'.cell? ⟨w5.heap.size, 1, none⟩ = some (.slice an nn cn) ∧ w'.cell? ⟨w5.heap.size, 2, none⟩ = some (.slice an' nn' cn')) := hid fun w' h => ⟨(HB_O.out.ext h).cell 0, (HB_O.out.ext h).cell 1, (HB_O.out.ext h).cell 2, (HB_O.out.ext h).cell 3, (HB_O.out.ext h).cell 4, (HB_O.out.ext h).cell 5, (HB_O.out.ext h).cell 6, (HB_O.out.ext h).cell 7, (HB_O.out.ext h).cell 8, (HB_X.out.ext h).cell 0, (HB_X.out.ext h).cell 1, (HB_X.out.ext h).cell 2, (HB_Y.out.ext h).cell 0, (HB_Y.out.ext h).cell 1, (HB_Y.out.ext h).cell 2, (HB_S.out.ext h).cell 0, (HB_S.out.ext h).cell 1, (HB_S.out.ext h).cell 2⟩
        have hb0 : Ext W6 W6.drew := Below.drew (Below.refl _ W6)
        refine wp_region_held_drew (S := fun w' => w'.cell? ⟨w.heap.size, 0, none⟩ = some (.int .i64 E) ∧ w'.cell? ⟨w.heap.size, 1, none⟩ = some (.int .i64 P) ∧ w'.cell? ⟨w.heap.size, 2, none⟩ = some (.int .i64 M) ∧ w'.cell? ⟨w.heap.size, 3, none⟩ = some (.int .u64 (i0 : Nat)) ∧ w'.cell? ⟨w.heap.size, 4, none⟩ = some (.int .u64 (i1 : Nat)) ∧ w'.cell? ⟨w.heap.size, 5, none⟩ = some (.int .u64 (j0 : Nat)) ∧ w'.cell? ⟨w.heap.size, 6, none⟩ = some (.int .u64 (j1 : Nat)) ∧ w'.cell? ⟨w.heap.size, 7, none⟩ = some (.int .u64 c0) ∧ w'.cell? ⟨w.heap.size, 8, none⟩ = some (.int .u64 c1) ∧ w'.cell? ⟨w1.heap.size, 0, none⟩ = some (.bool ngu) ∧ w'.cell? ⟨w1.heap.size, 1, none⟩ = some (.slice au nu cu) ∧ w'.cell? ⟨w1.heap.size, 2, none⟩ = some (.slice au' nu' cu') ∧ w'.cell? ⟨w1.heap.size + 1, 0, none⟩ = some (.bool ngv) ∧ w'.cell? ⟨w1.heap.size + 1, 1, none⟩ = some (.slice av nv cv) ∧ w'.cell? ⟨w1.heap.size + 1, 2, none⟩ = some (.slice av' nv' cv') ∧ w'.cell? ⟨w5.heap.size, 0, none⟩ = some (.bool ngn) ∧ w'.cell? ⟨w5.heap.size, 1, none⟩ = some (.slice an nn cn) ∧ w'.cell? ⟨w5.heap.size, 2, none⟩ = some (.slice an' nn' cn')) (by kernel_rfl) (HS.out _ hb0) (fun hHeld => ?_)
        refine wpAnyH_take (i := 0) (oi := { dst := some 47, op := Op.fieldAddr 28 (Operand.tmp 1) 0, type := 0, pos := "law.go:293", after := #[], guard := none }) (v := ?_) rfl (by kernel_rfl) (by kernel_rfl) (by kernel_rfl) (fun _ _ _ h => h) (Or.inl ⟨by rfl, ?_⟩) (by assumption) ?_
        rotate_left
        · intro w' hSw
          (try dsimp only at hSw)
          go_simp <;> with_reducible rfl
        try simp only [Act.put, List.setIfInBounds_toArray, List.set_cons_zero, List.set_cons_succ]
        refine wpAnyH_take (i := 1) (oi := { dst := some 48, op := Op.load 23 (Operand.tmp 47), type := 23, pos := "law.go:293", after := #[{ on := 0, ground := Ground.data }], guard := none }) (v := ?_) rfl (by kernel_rfl) (by kernel_rfl) (by kernel_rfl) (fun _ _ _ h => h) (Or.inl ⟨by rfl, ?_⟩) (by assumption) ?_
        rotate_left
        · intro w' hSw
          (try dsimp only at hSw)
          go_simp <;> with_reducible rfl
        try simp only [Act.put, List.setIfInBounds_toArray, List.set_cons_zero, List.set_cons_succ]
        refine wpAnyH_take (i := 2) (oi := { dst := some 49, op := Op.load 32 (Operand.tmp 3), type := 32, pos := "law.go:293", after := #[], guard := none }) (v := ?_) rfl (by kernel_rfl) (by kernel_rfl) (by kernel_rfl) (fun _ _ _ h => h) (Or.inl ⟨by rfl, ?_⟩) (by assumption) ?_
        rotate_left
        · intro w' hSw
          (try dsimp only at hSw)
          go_simp <;> with_reducible rfl
        try simp only [Act.put, List.setIfInBounds_toArray, List.set_cons_zero, List.set_cons_succ]
        refine wpAnyH_take (i := 3) (oi := { dst := some 50, op := Op.load 32 (Operand.tmp 4), type := 32, pos := "law.go:293", after := #[], guard := none }) (v := ?_) rfl (by kernel_rfl) (by kernel_rfl) (by kernel_rfl) (fun _ _ _ h => h) (Or.inl ⟨by rfl, ?_⟩) (by assumption) ?_
        rotate_left
        · intro w' hSw
          (try dsimp only at hSw)
          go_simp <;> with_reducible rfl
        try simp only [Act.put, List.setIfInBounds_toArray, List.set_cons_zero, List.set_cons_succ]
        refine wpAnyH_take (i := 5) (oi := { dst := some 52, op := Op.load 32 (Operand.tmp 9), type := 32, pos := "law.go:293", after := #[], guard := none }) (v := ?_) rfl (by kernel_rfl) (by kernel_rfl) (by kernel_rfl) (fun _ _ _ h => h) (Or.inl ⟨by rfl, ?_⟩) (by assumption) ?_
        rotate_left
        · intro w' hSw
          (try dsimp only at hSw)
          go_simp <;> with_reducible rfl
        try simp only [Act.put, List.setIfInBounds_toArray, List.set_cons_zero, List.set_cons_succ]
        refine wpAnyH_ready (rs := [4]) (by kernel_rfl) (by simp) ?_
        refine AllReadyH.cons (o := { dst := some 51, op := Op.call { callee := Callee.value (Operand.func 9), args := #[Operand.tmp 49, Operand.tmp 50], argTypes := #[32, 32] }, type := 32, pos := "law.go:293", after := #[{ on := 2, ground := Ground.data }, { on := 3, ground := Ground.data }], guard := none }) rfl (fun K hK => ?_) AllReadyH.nil
        go_simp
        refine (CAD.out _ _ _ (ku.ext hb0) (kv.ext hb0)).mono ?_
        rintro e x66_1 ⟨vd1, rfl, kd1, g1⟩
        have hb1 : Ext W6 x66_1 := hb0.trans g1
        try dsimp only
        refine hK.out _ _ (HS.out _ hb1) ?_
        clear hHeld
        intro hHeld
        clear hK K
        try simp only [Act.put, List.setIfInBounds_toArray, List.set_cons_zero, List.set_cons_succ]
        refine wpAnyH_ready (rs := [6]) (by kernel_rfl) (by simp) ?_
        refine AllReadyH.cons (o := { dst := some 53, op := Op.call { callee := Callee.value (Operand.func 13), args := #[Operand.tmp 51, Operand.tmp 52], argTypes := #[32, 32] }, type := 32, pos := "law.go:293", after := #[{ on := 4, ground := Ground.data }, { on := 5, ground := Ground.data }, { on := 4, ground := Ground.chain }], guard := none }) rfl (fun K hK => ?_) AllReadyH.nil
        go_simp
        refine (CSU.out _ _ _ kd1 (kn.ext hb1)).mono ?_
        rintro e x66_2 ⟨vd2, rfl, kd2, g2⟩
        have hb2 : Ext W6 x66_2 := hb1.trans g2
        try dsimp only
        refine hK.out _ _ (HS.out _ hb2) ?_
        clear hHeld
        intro hHeld
        clear hK K
        try simp only [Act.put, List.setIfInBounds_toArray, List.set_cons_zero, List.set_cons_succ]
        refine wpAnyH_ready (rs := [7]) (by kernel_rfl) (by simp) ?_
        refine AllReadyH.cons (o := { dst := some 54, op := Op.call { callee := Callee.value (Operand.func 15), args := #[Operand.tmp 48, Operand.tmp 53], argTypes := #[23, 32] }, type := 4, pos := "law.go:293", after := #[{ on := 1, ground := Ground.data }, { on := 6, ground := Ground.data }, { on := 6, ground := Ground.chain }], guard := none }) rfl (fun K hK => ?_) AllReadyH.nil
        go_simp
        refine (CH.out _ _ kd2).mono ?_
        rintro e x66_3 ⟨rfl, g3⟩
        have hb3 : Ext W6 x66_3 := hb2.trans g3
        try dsimp only
        refine hK.out _ _ (HS.out _ hb3) ?_
        clear hHeld
        intro hHeld
        clear hK K
        try simp only [Act.put, List.setIfInBounds_toArray, List.set_cons_zero, List.set_cons_succ]
        refine wpAnyH_take (i := 8) (oi := { dst := some 55, op := Op.move (Operand.tmp 54), type := 4, pos := "law.go:293", after := #[{ on := 7, ground := Ground.data }, { on := 7, ground := Ground.chain }], guard := none }) (v := ?_) rfl (by kernel_rfl) (by kernel_rfl) (by kernel_rfl) (fun _ _ _ h => h) (Or.inl ⟨by rfl, ?_⟩) (by assumption) ?_
        rotate_left
        · intro w' hSw
          (try dsimp only at hSw)
          go_simp <;> with_reducible rfl
        try simp only [Act.put, List.setIfInBounds_toArray, List.set_cons_zero, List.set_cons_succ]
        refine wpAnyH_take (i := 9) (oi := { dst := some 56, op := Op.load 32 (Operand.tmp 9), type := 32, pos := "law.go:293", after := #[{ on := 8, ground := Ground.guard }], guard := some (8, true) }) (v := ?_) rfl (by kernel_rfl) (by kernel_rfl) (by kernel_rfl) (fun _ _ _ h => h) (Or.inl ⟨by rfl, ?_⟩) (by assumption) ?_
        rotate_left
        · intro w' hSw
          (try dsimp only at hSw)
          go_simp <;> with_reducible rfl
        try simp only [Act.put, List.setIfInBounds_toArray, List.set_cons_zero, List.set_cons_succ]
        refine wpAnyH_take (i := 10) (oi := { dst := some 57, op := Op.load 32 (Operand.tmp 3), type := 32, pos := "law.go:293", after := #[{ on := 8, ground := Ground.guard }], guard := some (8, true) }) (v := ?_) rfl (by kernel_rfl) (by kernel_rfl) (by kernel_rfl) (fun _ _ _ h => h) (Or.inl ⟨by rfl, ?_⟩) (by assumption) ?_
        rotate_left
        · intro w' hSw
          (try dsimp only at hSw)
          go_simp <;> with_reducible rfl
        try simp only [Act.put, List.setIfInBounds_toArray, List.set_cons_zero, List.set_cons_succ]
        refine wpAnyH_take (i := 11) (oi := { dst := some 58, op := Op.load 32 (Operand.tmp 4), type := 32, pos := "law.go:293", after := #[{ on := 8, ground := Ground.guard }], guard := some (8, true) }) (v := ?_) rfl (by kernel_rfl) (by kernel_rfl) (by kernel_rfl) (fun _ _ _ h => h) (Or.inl ⟨by rfl, ?_⟩) (by assumption) ?_
        rotate_left
        · intro w' hSw
          (try dsimp only at hSw)
          go_simp <;> with_reducible rfl
        try simp only [Act.put, List.setIfInBounds_toArray, List.set_cons_zero, List.set_cons_succ]
        refine wpAnyH_take (i := 15) (oi := { dst := some 62, op := Op.move (Operand.tmp 7), type := 3, pos := "law.go:293", after := #[{ on := 8, ground := Ground.guard }], guard := some (8, true) }) (v := ?_) rfl (by kernel_rfl) (by kernel_rfl) (by kernel_rfl) (fun _ _ _ h => h) (Or.inl ⟨by rfl, ?_⟩) (by assumption) ?_
        rotate_left
        · intro w' hSw
          (try dsimp only at hSw)
          go_simp <;> with_reducible rfl
        try simp only [Act.put, List.setIfInBounds_toArray, List.set_cons_zero, List.set_cons_succ]
        refine wpAnyH_take (i := 16) (oi := { dst := some 63, op := Op.binOp BinOp.eql 3 (Operand.tmp 62) (Operand.const (Value.int IntKind.i64 0)) 3, type := 4, pos := "law.go:293", after := #[{ on := 15, ground := Ground.data }, { on := 8, ground := Ground.guard }], guard := some (8, true) }) (v := ?_) rfl (by kernel_rfl) (by kernel_rfl) (by kernel_rfl) (fun _ _ _ h => h) (Or.inl ⟨by rfl, ?_⟩) (by assumption) ?_
        rotate_left
        · intro w' hSw
          (try dsimp only at hSw)
          go_simp <;> with_reducible rfl
        try simp only [Act.put, List.setIfInBounds_toArray, List.set_cons_zero, List.set_cons_succ]
        refine wpAnyH_ready (rs := [12]) (by kernel_rfl) (by simp) ?_
        refine AllReadyH.cons (o := { dst := some 59, op := Op.call { callee := Callee.value (Operand.func 9), args := #[Operand.tmp 57, Operand.tmp 58], argTypes := #[32, 32] }, type := 32, pos := "law.go:293", after := #[{ on := 10, ground := Ground.data }, { on := 11, ground := Ground.data }, { on := 8, ground := Ground.chain }, { on := 8, ground := Ground.guard }], guard := some (8, true) }) rfl (fun K hK => ?_) AllReadyH.nil
        go_simp
        refine (CAD.out _ _ _ (ku.ext hb3) (kv.ext hb3)).mono ?_
        rintro e x66_4 ⟨vd4, rfl, kd4, g4⟩
        have hb4 : Ext W6 x66_4 := hb3.trans g4
        try dsimp only
        refine hK.out _ _ (HS.out _ hb4) ?_
        clear hHeld
        intro hHeld
        clear hK K
        try simp only [Act.put, List.setIfInBounds_toArray, List.set_cons_zero, List.set_cons_succ]
        refine wpAnyH_ready (rs := [13]) (by kernel_rfl) (by simp) ?_
        refine AllReadyH.cons (o := { dst := some 60, op := Op.call { callee := Callee.value (Operand.func 8), args := #[Operand.tmp 56, Operand.tmp 59], argTypes := #[32, 32] }, type := 3, pos := "law.go:293", after := #[{ on := 9, ground := Ground.data }, { on := 12, ground := Ground.data }, { on := 12, ground := Ground.chain }, { on := 8, ground := Ground.guard }], guard := some (8, true) }) rfl (fun K hK => ?_) AllReadyH.nil
        go_simp
        refine (CCM.out _ _ _ (kn.ext hb4) kd4).mono ?_
        rintro e x66_5 ⟨rfl, g5⟩
        have hb5 : Ext W6 x66_5 := hb4.trans g5
        try dsimp only
        refine hK.out _ _ (HS.out _ hb5) ?_
        clear hHeld
        intro hHeld
        clear hK K
        try simp only [Act.put, List.setIfInBounds_toArray, List.set_cons_zero, List.set_cons_succ]
        refine wpAnyH_take (i := 14) (oi := { dst := some 61, op := Op.binOp BinOp.eql 3 (Operand.tmp 60) (Operand.const (Value.int IntKind.i64 0)) 3, type := 4, pos := "law.go:293", after := #[{ on := 13, ground := Ground.data }, { on := 8, ground := Ground.guard }], guard := some (8, true) }) (v := ?_) rfl (by kernel_rfl) (by kernel_rfl) (by kernel_rfl) (fun _ _ _ h => h) (Or.inl ⟨by rfl, ?_⟩) (by assumption) ?_
        rotate_left
        · intro w' hSw
          (try dsimp only at hSw)
          go_simp <;> with_reducible rfl
        try simp only [Act.put, List.setIfInBounds_toArray, List.set_cons_zero, List.set_cons_succ]
        refine wpAnyH_take (i := 17) (oi := { dst := some 64, op := Op.binOp BinOp.eql 4 (Operand.tmp 61) (Operand.tmp 63) 4, type := 4, pos := "law.go:293", after := #[{ on := 14, ground := Ground.data }, { on := 16, ground := Ground.data }, { on := 8, ground := Ground.guard }], guard := some (8, true) }) (v := ?_) rfl (by kernel_rfl) (by kernel_rfl) (by kernel_rfl) (fun _ _ _ h => h) (Or.inl ⟨by rfl, ?_⟩) (by assumption) ?_
        rotate_left
        · intro w' hSw
          (try dsimp only at hSw)
          go_simp <;> with_reducible rfl
        try simp only [Act.put, List.setIfInBounds_toArray, List.set_cons_zero, List.set_cons_succ]
        refine wpAnyH_take (i := 18) (oi := { dst := some 65, op := Op.pick (Operand.tmp 55) (Operand.tmp 64) (Operand.const (Value.bool false)), type := 4, pos := "law.go:293", after := #[{ on := 8, ground := Ground.data }, { on := 17, ground := Ground.data }], guard := none }) (v := ?_) rfl (by kernel_rfl) (by kernel_rfl) (by kernel_rfl) (fun _ _ _ h => h) (Or.inl ⟨by rfl, ?_⟩) (by assumption) ?_
        rotate_left
        · intro w' hSw
          (try dsimp only at hSw)
          go_simp <;> with_reducible rfl
        try simp only [Act.put, List.setIfInBounds_toArray, List.set_cons_zero, List.set_cons_succ]
        refine wpAnyH_take (i := 19) (oi := { dst := some 66, op := Op.move (Operand.tmp 65), type := 4, pos := "law.go:293", after := #[{ on := 18, ground := Ground.data }, { on := 13, ground := Ground.chain }], guard := none }) (v := ?_) rfl (by kernel_rfl) (by kernel_rfl) (by kernel_rfl) (fun _ _ _ h => h) (Or.inl ⟨by rfl, ?_⟩) (by assumption) ?_
        rotate_left
        · intro w' hSw
          (try dsimp only at hSw)
          go_simp <;> with_reducible rfl
        try simp only [Act.put, List.setIfInBounds_toArray, List.set_cons_zero, List.set_cons_succ]
        refine wpAnyH_ready (rs := [20]) (by kernel_rfl) (by simp) ?_
        refine AllReadyH.cons (o := { dst := some 67, op := Op.call { callee := Callee.value (Operand.func 10), args := #[], argTypes := #[] }, type := 4, pos := "law.go:293", after := #[{ on := 19, ground := Ground.chain }, { on := 19, ground := Ground.guard }], guard := some (19, true) }) rfl (fun K hK => ?_) AllReadyH.nil
        go_simp
        refine (CW.out _ (HP.out.ext (HE.out.trans hb5)) (HT.out.ext (HE.out.trans hb5))).mono ?_
        rintro e x66_6 ⟨rfl, g6⟩
        have hb6 : Ext W6 x66_6 := hb5.trans g6
        try dsimp only
        refine hK.out _ _ (HS.out _ hb6) ?_
        clear hHeld
        intro hHeld
        clear hK K
        try simp only [Act.put, List.setIfInBounds_toArray, List.set_cons_zero, List.set_cons_succ]
        refine wpAnyH_take (i := 21) (oi := { dst := some 68, op := Op.pick (Operand.tmp 66) (Operand.tmp 67) (Operand.const (Value.bool false)), type := 4, pos := "law.go:293", after := #[{ on := 19, ground := Ground.data }, { on := 20, ground := Ground.data }], guard := none }) (v := ?_) rfl (by kernel_rfl) (by kernel_rfl) (by kernel_rfl) (fun _ _ _ h => h) (Or.inl ⟨by rfl, ?_⟩) (by assumption) ?_
        rotate_left
        · intro w' hSw
          (try dsimp only at hSw)
          go_simp <;> with_reducible rfl
        try simp only [Act.put, List.setIfInBounds_toArray, List.set_cons_zero, List.set_cons_succ]
        refine wpAnyH_take (i := 22) (oi := { dst := some 2, op := Op.assign (Operand.tmp 68), type := 4, pos := "law.go:293", after := #[{ on := 21, ground := Ground.data }, { on := 20, ground := Ground.chain }, { on := 0, ground := Ground.phase }, { on := 1, ground := Ground.phase }, { on := 2, ground := Ground.phase }, { on := 3, ground := Ground.phase }, { on := 4, ground := Ground.phase }, { on := 5, ground := Ground.phase }, { on := 6, ground := Ground.phase }, { on := 7, ground := Ground.phase }, { on := 8, ground := Ground.phase }, { on := 9, ground := Ground.phase }, { on := 10, ground := Ground.phase }, { on := 11, ground := Ground.phase }, { on := 12, ground := Ground.phase }, { on := 13, ground := Ground.phase }, { on := 14, ground := Ground.phase }, { on := 15, ground := Ground.phase }, { on := 16, ground := Ground.phase }, { on := 17, ground := Ground.phase }, { on := 18, ground := Ground.phase }, { on := 19, ground := Ground.phase }, { on := 20, ground := Ground.phase }, { on := 21, ground := Ground.phase }], guard := none }) (v := ?_) rfl (by kernel_rfl) (by kernel_rfl) (by kernel_rfl) (fun _ _ _ h => h) (Or.inl ⟨by rfl, ?_⟩) (by assumption) ?_
        rotate_left
        · intro w' hSw
          (try dsimp only at hSw)
          go_simp <;> with_reducible rfl
        try simp only [Act.put, List.setIfInBounds_toArray, List.set_cons_zero, List.set_cons_succ]
        refine wpAnyH_done (by kernel_rfl) ?_ _
        clear HS hHeld
        have hz_x66_6 := hb6.size
        replace HE := hid (HE.out.trans hb6)
        replace HB_O := hid (HB_O.out.ext hb6)
        replace HB_X := hid (HB_X.out.ext hb6)
        replace HB_Y := hid (HB_Y.out.ext hb6)
        replace HB_W := hid (HB_W.out.ext hb6)
        replace HB_S := hid (HB_S.out.ext hb6)
        replace ku := ku.ext hb6
        replace kv := kv.ext hb6
        replace kn := kn.ext hb6
        obtain ⟨c_67, c_68, c_69, c_70, c_71, c_72, c_73, c_74, c_75⟩ := HB_O.out.c9
        obtain ⟨c_76, c_77, c_78⟩ := HB_X.out.c3
        obtain ⟨c_79, c_80, c_81⟩ := HB_Y.out.c3
        obtain ⟨c_82, c_83⟩ := HB_W.out.c2
        obtain ⟨c_84, c_85, c_86⟩ := HB_S.out.c3
        go_wp2_with fail
        clear c_67 c_68 c_69 c_70 c_71 c_72 c_73 c_74 c_75 c_76 c_77 c_78 c_79 c_80 c_81 c_82 c_83 c_84 c_85 c_86
        unfold TruePost
        refine bodyPost_ret (v := .bool true) (by simp [results, Tryz.results4, go_sem]) rfl ⟨rfl, HE.out⟩
  · have HBL : Hid ((decide (za = 0) && decide (zb = 0)) = false) := hid (by rw [Bool.and_eq_false_iff]; by_cases h : za = 0; exact .inr (decide_eq_false (fun k => hz ⟨h, k⟩)); exact .inl (decide_eq_false h))
    clear hz
    rw [HBL.out]
    have gA := Ext.trans (Ext.alloc w1 (.cells #[.bool ngu, .slice au nu cu, .slice au' nu' cu'] 32)) (Ext.alloc _ (.cells #[.bool ngv, .slice av nv cv, .slice av' nv' cv'] 32))
    obtain ⟨c_10, c_11, c_12, c_13, c_14, c_15, c_16, c_17, c_18⟩ := (HB_O.out.ext gA).c9
    go_upto_region 2 with (fail)
    clear gA c_10 c_11 c_12 c_13 c_14 c_15 c_16 c_17 c_18
    obtain ⟨W2, hW2, g2, hy2, B_X, B_Y⟩ := pro2s w1 #[.bool ngu, .slice au nu cu, .slice au' nu' cu'] #[.bool ngv, .slice av nv cv, .slice av' nv' cv'] 32 32
    rw [← hW2]
    clear hW2
    have hz_W2 := g2.size
    replace HE := hid (HE.out.trans g2)
    replace HB_O := hid (HB_O.out.ext g2)
    replace ku := ku.ext g2
    replace kv := kv.ext g2
    have HB_X := hid B_X
    have HB_Y := hid B_Y
    clear B_X B_Y
    obtain ⟨c_19, c_20, c_21, c_22, c_23, c_24, c_25, c_26, c_27⟩ := HB_O.out.c9
    obtain ⟨c_28, c_29, c_30⟩ := HB_X.out.c3
    obtain ⟨c_31, c_32, c_33⟩ := HB_Y.out.c3
    go_wp2_with fail
    clear c_19 c_20 c_21 c_22 c_23 c_24 c_25 c_26 c_27 c_28 c_29 c_30 c_31 c_32 c_33
    refine (CW.out _ (HP.out.ext HE.out) (HT.out.ext HE.out)).mono ?_
    rintro e w3 ⟨rfl, g3⟩
    have hz_w3 := g3.size
    replace HE := hid (HE.out.trans g3)
    replace HB_O := hid (HB_O.out.ext g3)
    replace HB_X := hid (HB_X.out.ext g3)
    replace HB_Y := hid (HB_Y.out.ext g3)
    replace ku := ku.ext g3
    replace kv := kv.ext g3
    obtain ⟨c_34, c_35, c_36, c_37, c_38, c_39, c_40, c_41, c_42⟩ := HB_O.out.c9
    obtain ⟨c_43, c_44, c_45⟩ := HB_X.out.c3
    obtain ⟨c_46, c_47, c_48⟩ := HB_Y.out.c3
    go_wp2_with fail
    clear c_34 c_35 c_36 c_37 c_38 c_39 c_40 c_41 c_42 c_43 c_44 c_45 c_46 c_47 c_48
    unfold TruePost
    refine bodyPost_ret (v := .bool true) (by simp [results, Tryz.results4, go_sem]) rfl ⟨rfl, HE.out⟩
end Go.Proofs.YtpjpaiaaimmngaaGreatDoor
