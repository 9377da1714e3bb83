/- floats: Count; exact: Max. -/
import Derived.Test.YtopmjkkjlagfcaaGreatDoorW42
import Derived.Test.YtopmjkkjlagfcaaGreatDoorW43
namespace Go.Proofs.YtopmjkkjlagfcaaGreatDoor
open Go.RowKit Vn
def maxQ (q r : Rat) : Rat := if cmpQ q r < 0 then r else q
set_option maxRecDepth 100000 in
set_option maxHeartbeats 4000000 in
theorem Max_c (x y : Value) (q r : Rat) (K : Nat) (w : World) (hx : NumV w x q) (hy : NumV w y r) (sx : SmQ K q) (sy : SmQ K r) (hK : K ≤ 20000000) :
  Calls Tryz.prog 14 #[x, y] w fun e w' => ∃ v, e = .returned v ∧ NumV w' v (maxQ q r) ∧ Ext w w' := by
 obtain ⟨ng, a, n, c, a', n', c', rfl⟩ := hx.shape
 obtain ⟨mg, d, k, e, d', k', e', rfl⟩ := hy.shape
 obtain ⟨cc, hcc⟩ : ∃ s, s = cmpQ q r := ⟨_, rfl⟩
 have CCM : Hid (∀ u v w, NumV w u q → NumV w v r → Calls Tryz.prog 19 #[u, v] w fun e w' => e = .returned (.int .i64 cc) ∧ Ext w w') := hid fun u v w h k => by
  rw [hcc]; exact Cmp_c u v q r K w h k sx sy hK
 have HC := hid hcc
 have HX := hid hx; have HY := hid hy
 clear hx hy sx sy hcc hK
 obtain ⟨W0, hW0, g0, hz0, B_X, B_Y, B_Z⟩ := pro3s w #[.bool ng, .slice a n c, .slice a' n' c'] #[.bool mg, .slice d k e, .slice d' k' e'] #[.bool false, .slice none 0 0, .slice none 0 0] 40 40 40
 have HE := hid g0
 have HB_X := hid B_X
 have HB_Y := hid B_Y
 have HB_Z := hid B_Z
 clear g0 B_X B_Y B_Z 
 go_enter Tryz.func14, Tryz.ntmps14
 go_upto_region 1 with (fail)
 rw [← hW0]
 clear hW0
 have kx := HX.out.ext HE.out
 have ky := HY.out.ext HE.out
 obtain ⟨c_1, c_2, c_3⟩ := HB_X.out.c3
 obtain ⟨c_4, c_5, c_6⟩ := HB_Y.out.c3
 obtain ⟨c_7, c_8, c_9⟩ := HB_Z.out.c3
 go_wp2_with fail
 clear c_1 c_2 c_3 c_4 c_5 c_6 c_7 c_8 c_9
 refine (CCM.out _ _ _ kx ky).mono ?_
 rintro e w1 ⟨rfl, g1⟩
 have hz_w1 := g1.size
 replace HE := hid (HE.out.trans g1)
 replace HB_X := hid (HB_X.out.ext g1)
 replace HB_Y := hid (HB_Y.out.ext g1)
 replace HB_Z := hid (HB_Z.out.ext g1)
 replace kx := kx.ext g1
 replace ky := ky.ext g1
 by_cases h : cc < 0
 ·have hd : decide (cc < 0) = true := decide_eq_true h
  have HM : Hid (maxQ q r = r) := hid (by unfold maxQ; rw [← HC.out, if_pos h])
  clear h
  obtain ⟨c_10, c_11, c_12⟩ := HB_X.out.c3
  obtain ⟨c_13, c_14, c_15⟩ := HB_Y.out.c3
  obtain ⟨c_16, c_17, c_18⟩ := HB_Z.out.c3
  obtain ⟨f_19, f_20, f_21⟩ := HB_Z.out.f3
  go_wp2_with fail
  clear c_10 c_11 c_12 c_13 c_14 c_15 c_16 c_17 c_18 f_19 f_20 f_21
  obtain ⟨W2, hW2, g2, q2, B2, hy2, ho2⟩ := sto3 HE.out (by omega) HB_Z.out (by decide) (.bool mg) (.slice d k e) (.slice d' k' e')
  rw [← hW2]
  clear hW2
  replace HE := hid g2
  replace HB_X := hid (ho2 _ _ _ (by omega) HB_X.out)
  replace HB_Y := hid (ho2 _ _ _ (by omega) HB_Y.out)
  replace HB_Z := hid B2
  replace kx := kx.keep q2
  replace ky := ky.keep q2
  rw [HM.out]
  obtain ⟨c_22, c_23, c_24⟩ := HB_Z.out.c3
  refine bodyPost_ret (v := .agg #[.bool mg, .slice d k e, .slice d' k' e']) (by simp [results, Tryz.results14, go_sem, c_22, c_23, c_24]) rfl ⟨_, rfl, ky, HE.out⟩
 ·have hd : decide (cc < 0) = false := decide_eq_false h
  have HM : Hid (maxQ q r = q) := hid (by unfold maxQ; rw [← HC.out, if_neg h])
  clear h
  obtain ⟨c_10, c_11, c_12⟩ := HB_X.out.c3
  obtain ⟨c_13, c_14, c_15⟩ := HB_Y.out.c3
  obtain ⟨c_16, c_17, c_18⟩ := HB_Z.out.c3
  obtain ⟨f_19, f_20, f_21⟩ := HB_Z.out.f3
  go_wp2_with fail
  clear c_10 c_11 c_12 c_13 c_14 c_15 c_16 c_17 c_18 f_19 f_20 f_21
  obtain ⟨W2, hW2, g2, q2, B2, hy2, ho2⟩ := sto3 HE.out (by omega) HB_Z.out (by decide) (.bool ng) (.slice a n c) (.slice a' n' c')
  rw [← hW2]
  clear hW2
  replace HE := hid g2
  replace HB_X := hid (ho2 _ _ _ (by omega) HB_X.out)
  replace HB_Y := hid (ho2 _ _ _ (by omega) HB_Y.out)
  replace HB_Z := hid B2
  replace kx := kx.keep q2
  replace ky := ky.keep q2
  rw [HM.out]
  obtain ⟨c_22, c_23, c_24⟩ := HB_Z.out.c3
  refine bodyPost_ret (v := .agg #[.bool ng, .slice a n c, .slice a' n' c']) (by simp [results, Tryz.results14, go_sem, c_22, c_23, c_24]) rfl ⟨_, rfl, kx, HE.out⟩
theorem max0 (z : Int) : maxQ (z : Rat) ((0 : Int) : Rat) = ((max z 0 : Int) : Rat) := by
 unfold maxQ
 have h : cmpQ (z : Rat) ((0 : Int) : Rat) < 0 ↔ z < 0 := by rw [cmpQ_lt, Rat.intCast_lt_intCast]
 by_cases h2 : z < 0
 ·rw [if_pos (h.2 h2), show max z 0 = 0 by omega]
 ·rw [if_neg (fun k => h2 (h.1 k)), show max z 0 = z by omega]
set_option maxRecDepth 100000 in
set_option maxHeartbeats 4000000 in
theorem Count_long (E P : Nat) (x y : Value) (qx qy : Rat) (z : Int) (w : World) (hF : Fmt E P) (hx : NumV w x qx) (hy : NumV w y qy) (zx zy : Int) (hz : z = zy - zx + 1) (bx : zx.natAbs < 2 ^ 124) (bY : zy.natAbs < 2 ^ 124) (CA : Hid (∀ v w, NumV w v qx → Tabs w → Calls Tryz.prog 98 #[.agg #[.int .i64 (E : Nat), .int .i64 (P : Nat), .int .i64 0, .int .i64 (bias E : Nat)], v, .int .i64 3] w fun e w' => ∃ v, e = .returned v ∧ NumV w' v ((zx : Int) : Rat) ∧ Ext w w')) (CB : Hid (∀ v w, NumV w v qy → Tabs w → Calls Tryz.prog 98 #[.agg #[.int .i64 (E : Nat), .int .i64 (P : Nat), .int .i64 0, .int .i64 (bias E : Nat)], v, .int .i64 4] w fun e w' => ∃ v, e = .returned v ∧ NumV w' v ((zy : Int) : Rat) ∧ Ext w w')) (hT : Tabs w) (hb : 4611686018427387904 < z) :
  Calls Tryz.prog 39 #[.agg #[.int .i64 (E : Nat), .int .i64 (P : Nat)], x, y] w fun e w' => e = .returned (.tuple #[.int .i64 0, .int .i64 3]) ∧ Ext w w' := by
 obtain ⟨ng, a, n, c, a', n', c', rfl⟩ := hx.shape
 obtain ⟨mg, d, k, e, d', k', e', rfl⟩ := hy.shape
 have CW := hid (fun w => with_nil E P w hF)
 have ez : ((zy : Int) : Rat) - ((zx : Int) : Rat) + ((1 : Int) : Rat) = ((z : Int) : Rat) := by rw [hz, Rat.intCast_add, Rat.intCast_sub]
 have sx : SmQ 124 ((zx : Int) : Rat) := SmQ.int (by decide) bx
 have sy : SmQ 124 ((zy : Int) : Rat) := SmQ.int (by decide) bY
 have s1 : SmQ 124 ((1 : Int) : Rat) := SmQ.int (by decide) (by decide)
 have sd : SmQ 249 (((zy : Int) : Rat) - ((zx : Int) : Rat)) := sy.sub sx
 have sz : SmQ 374 ((z : Int) : Rat) := by rw [← ez]; exact sd.add s1
 have CSU : Hid (∀ u v w, NumV w u ((zy : Int) : Rat) → NumV w v ((zx : Int) : Rat) → _) := hid fun u v w h k => Sub_c u v _ _ 124 w h k sy sx (by decide)
 have CI1 : Hid (∀ w, _) := hid fun w => Int_c 1 w (by decide) (by decide)
 have CAD : Hid (∀ u v w, NumV w u (((zy : Int) : Rat) - ((zx : Int) : Rat)) → NumV w v ((1 : Int) : Rat) → Calls Tryz.prog 83 #[u, v] w fun e w' => ∃ t, e = .returned t ∧ NumV w' t ((z : Int) : Rat) ∧ Ext w w') := hid fun u v w h k => by
  have := Add_c u v _ _ 249 w h k sd (s1.mono (by decide)) (by decide)
  rwa [ez] at this
 have e62 : (2 : Rat) ^ (62 : Int) = ((4611686018427387904 : Int) : Rat) := by decide +kernel
 have CT : Hid (∀ w, Calls Tryz.prog 47 #[.int .i64 62] w fun e w' => ∃ v, e = .returned v ∧ NumV w' v ((4611686018427387904 : Int) : Rat) ∧ Ext w w') := hid fun w => by
  have := two_c 62 w (by decide) (by decide)
  rwa [e62] at this
 obtain ⟨cc, hcc⟩ : ∃ s, s = cmpQ ((z : Int) : Rat) ((4611686018427387904 : Int) : Rat) := ⟨_, rfl⟩
 have CCM : Hid (∀ u v w, NumV w u ((z : Int) : Rat) → NumV w v ((4611686018427387904 : Int) : Rat) → Calls Tryz.prog 19 #[u, v] w fun e w' => e = .returned (.int .i64 cc) ∧ Ext w w') := hid fun u v w h k => by
  rw [hcc]; exact Cmp_c u v _ _ 374 w h k sz ((SmQ.int (K := 124) (by decide) (by decide)).mono (by decide)) (by decide)
 have hcv : 0 < cc ↔ 4611686018427387904 < z := by rw [hcc, cmpQ_gt, Rat.intCast_lt_intCast]
 have HX := hid hx; have HY := hid hy; have HT := hid hT
 have hd : decide (0 < cc) = true := decide_eq_true (hcv.2 hb)
 clear hF hx hy hz bx bY sx sy s1 sd sz ez e62 hcc hcv hb hT
 obtain ⟨W0, hW0, g0, hz0, B_F, B_X, B_Y⟩ := pro3s w #[.int .i64 (E : Nat), .int .i64 (P : Nat)] #[.bool ng, .slice a n c, .slice a' n' c'] #[.bool mg, .slice d k e, .slice d' k' e'] 23 40 40
 have HE := hid g0
 have HB_F := hid B_F
 have HB_X := hid B_X
 have HB_Y := hid B_Y
 clear g0 B_F B_X B_Y 
 go_enter Tryz.func39, Tryz.ntmps39
 go_upto_region 1 with (fail)
 rw [← hW0]
 clear hW0
 have kx := HX.out.ext HE.out
 have ky := HY.out.ext HE.out
 obtain ⟨c_1, c_2⟩ := HB_F.out.c2
 obtain ⟨c_3, c_4, c_5⟩ := HB_X.out.c3
 obtain ⟨c_6, c_7, c_8⟩ := HB_Y.out.c3
 go_wp2_with fail
 clear c_1 c_2 c_3 c_4 c_5 c_6 c_7 c_8
 refine (CW.out _).mono ?_
 rintro e w1 ⟨rfl, g1⟩
 have hz_w1 := g1.size
 replace HE := hid (HE.out.trans g1)
 replace HB_F := hid (HB_F.out.ext g1)
 replace HB_X := hid (HB_X.out.ext g1)
 replace HB_Y := hid (HB_Y.out.ext g1)
 replace kx := kx.ext g1
 replace ky := ky.ext g1
 have gA := Ext.alloc w1 (.cells #[.int .i64 (E : Nat), .int .i64 (P : Nat), .int .i64 0, .int .i64 (bias E : Nat)] 81)
 go_upto_region 4 with (fail)
 clear gA
 obtain ⟨W2, hW2, g2, hy2, B_M⟩ := pro1 w1 #[.int .i64 (E : Nat), .int .i64 (P : Nat), .int .i64 0, .int .i64 (bias E : Nat)] 81
 rw [← hW2]
 clear hW2
 have hz_W2 := g2.size
 replace HE := hid (HE.out.trans g2)
 replace HB_F := hid (HB_F.out.ext g2)
 replace HB_X := hid (HB_X.out.ext g2)
 replace HB_Y := hid (HB_Y.out.ext g2)
 replace kx := kx.ext g2
 replace ky := ky.ext g2
 have HB_M := hid B_M
 clear B_M
 have HS : Hid (∀ w', Ext W2 w' → w'.cell? ⟨w1.heap.size, 0, none⟩ = some (.int .i64 (E : Nat)) ∧ w'.cell? ⟨w1.heap.size, 1, none⟩ = some (.int .i64 (P : Nat)) ∧ w'.cell? ⟨w1.heap.size, 2, none⟩ = some (.int .i64 0) ∧ w'.cell? ⟨w1.heap.size, 3, none⟩ = some (.int .i64 (bias E : Nat)) ∧ w'.cell? ⟨w.heap.size + 1, 0, none⟩ = some (.bool ng) ∧ w'.cell? ⟨w.heap.size + 1, 1, none⟩ = some (.slice a n c) ∧ w'.cell? ⟨w.heap.size + 1, 2, none⟩ = some (.slice a' n' c') ∧ w'.cell? ⟨w.heap.size + 1 + 1, 0, none⟩ = some (.bool mg) ∧ w'.cell? ⟨w.heap.size + 1 + 1, 1, none⟩ = some (.slice d k e) ∧ w'.cell? ⟨w.heap.size + 1 + 1, 2, none⟩ = some (.slice d' k' e')) := hid fun w' h => ⟨(HB_M.out.ext h).cell 0, (HB_M.out.ext h).cell 1, (HB_M.out.ext h).cell 2, (HB_M.out.ext h).cell 3, (HB_X.out.ext h).cell 0, (HB_X.out.ext h).cell 1, (HB_X.out.ext h).cell 2, (HB_Y.out.ext h).cell 0, (HB_Y.out.ext h).cell 1, (HB_Y.out.ext h).cell 2⟩
 have hlt_M : w1.heap.size < W2.heap.size := cell_lt HB_M.out
 have hlt_X : w.heap.size + 1 < W2.heap.size := cell_lt HB_X.out
 have hlt_Y : w.heap.size + 1 + 1 < W2.heap.size := cell_lt HB_Y.out
 have HSN : Hid (∀ (g : Nat) (v0 v1 v2 : Value) (w' : World), W2.heap.size ≤ g → Ext W2 w' → (((w'.setCell ⟨g, 0, none⟩ v0).setCell ⟨g, 1, none⟩ v1).setCell ⟨g, 2, none⟩ v2).cell? ⟨w1.heap.size, 0, none⟩ = some (.int .i64 (E : Nat)) ∧ (((w'.setCell ⟨g, 0, none⟩ v0).setCell ⟨g, 1, none⟩ v1).setCell ⟨g, 2, none⟩ v2).cell? ⟨w1.heap.size, 1, none⟩ = some (.int .i64 (P : Nat)) ∧ (((w'.setCell ⟨g, 0, none⟩ v0).setCell ⟨g, 1, none⟩ v1).setCell ⟨g, 2, none⟩ v2).cell? ⟨w1.heap.size, 2, none⟩ = some (.int .i64 0) ∧ (((w'.setCell ⟨g, 0, none⟩ v0).setCell ⟨g, 1, none⟩ v1).setCell ⟨g, 2, none⟩ v2).cell? ⟨w1.heap.size, 3, none⟩ = some (.int .i64 (bias E : Nat)) ∧ (((w'.setCell ⟨g, 0, none⟩ v0).setCell ⟨g, 1, none⟩ v1).setCell ⟨g, 2, none⟩ v2).cell? ⟨w.heap.size + 1, 0, none⟩ = some (.bool ng) ∧ (((w'.setCell ⟨g, 0, none⟩ v0).setCell ⟨g, 1, none⟩ v1).setCell ⟨g, 2, none⟩ v2).cell? ⟨w.heap.size + 1, 1, none⟩ = some (.slice a n c) ∧ (((w'.setCell ⟨g, 0, none⟩ v0).setCell ⟨g, 1, none⟩ v1).setCell ⟨g, 2, none⟩ v2).cell? ⟨w.heap.size + 1, 2, none⟩ = some (.slice a' n' c') ∧ (((w'.setCell ⟨g, 0, none⟩ v0).setCell ⟨g, 1, none⟩ v1).setCell ⟨g, 2, none⟩ v2).cell? ⟨w.heap.size + 1 + 1, 0, none⟩ = some (.bool mg) ∧ (((w'.setCell ⟨g, 0, none⟩ v0).setCell ⟨g, 1, none⟩ v1).setCell ⟨g, 2, none⟩ v2).cell? ⟨w.heap.size + 1 + 1, 1, none⟩ = some (.slice d k e) ∧ (((w'.setCell ⟨g, 0, none⟩ v0).setCell ⟨g, 1, none⟩ v1).setCell ⟨g, 2, none⟩ v2).cell? ⟨w.heap.size + 1 + 1, 2, none⟩ = some (.slice d' k' e')) := hid fun g v0 v1 v2 w' hg h => ⟨(cell_other (show w1.heap.size ≠ g by omega) (cell_other (show w1.heap.size ≠ g by omega) (cell_other (show w1.heap.size ≠ g by omega) ((HB_M.out.ext h).cell 0)))), (cell_other (show w1.heap.size ≠ g by omega) (cell_other (show w1.heap.size ≠ g by omega) (cell_other (show w1.heap.size ≠ g by omega) ((HB_M.out.ext h).cell 1)))), (cell_other (show w1.heap.size ≠ g by omega) (cell_other (show w1.heap.size ≠ g by omega) (cell_other (show w1.heap.size ≠ g by omega) ((HB_M.out.ext h).cell 2)))), (cell_other (show w1.heap.size ≠ g by omega) (cell_other (show w1.heap.size ≠ g by omega) (cell_other (show w1.heap.size ≠ g by omega) ((HB_M.out.ext h).cell 3)))), (cell_other (show w.heap.size + 1 ≠ g by omega) (cell_other (show w.heap.size + 1 ≠ g by omega) (cell_other (show w.heap.size + 1 ≠ g by omega) ((HB_X.out.ext h).cell 0)))), (cell_other (show w.heap.size + 1 ≠ g by omega) (cell_other (show w.heap.size + 1 ≠ g by omega) (cell_other (show w.heap.size + 1 ≠ g by omega) ((HB_X.out.ext h).cell 1)))), (cell_other (show w.heap.size + 1 ≠ g by omega) (cell_other (show w.heap.size + 1 ≠ g by omega) (cell_other (show w.heap.size + 1 ≠ g by omega) ((HB_X.out.ext h).cell 2)))), (cell_other (show w.heap.size + 1 + 1 ≠ g by omega) (cell_other (show w.heap.size + 1 + 1 ≠ g by omega) (cell_other (show w.heap.size + 1 + 1 ≠ g by omega) ((HB_Y.out.ext h).cell 0)))), (cell_other (show w.heap.size + 1 + 1 ≠ g by omega) (cell_other (show w.heap.size + 1 + 1 ≠ g by omega) (cell_other (show w.heap.size + 1 + 1 ≠ g by omega) ((HB_Y.out.ext h).cell 1)))), (cell_other (show w.heap.size + 1 + 1 ≠ g by omega) (cell_other (show w.heap.size + 1 + 1 ≠ g by omega) (cell_other (show w.heap.size + 1 + 1 ≠ g by omega) ((HB_Y.out.ext h).cell 2))))⟩
 clear hlt_M hlt_X hlt_Y
 have hb0 : Ext W2 W2.drew := Below.drew (Below.refl _ W2)
 have HNEW := hid newFacts
 go_cut [10] (fun sv wx => ∃ g : Nat, sv = .pointer (some ⟨g, 0, none⟩) ∧ Hid (Ext W2 wx) ∧ W2.heap.size ≤ g ∧ NumBox wx g (((z : Int) : Rat)))
 case first =>
  go_region_held3 (fun w' => w'.cell? ⟨w1.heap.size, 0, none⟩ = some (.int .i64 (E : Nat)) ∧ w'.cell? ⟨w1.heap.size, 1, none⟩ = some (.int .i64 (P : Nat)) ∧ w'.cell? ⟨w1.heap.size, 2, none⟩ = some (.int .i64 0) ∧ w'.cell? ⟨w1.heap.size, 3, none⟩ = some (.int .i64 (bias E : Nat)) ∧ w'.cell? ⟨w.heap.size + 1, 0, none⟩ = some (.bool ng) ∧ w'.cell? ⟨w.heap.size + 1, 1, none⟩ = some (.slice a n c) ∧ w'.cell? ⟨w.heap.size + 1, 2, none⟩ = some (.slice a' n' c') ∧ w'.cell? ⟨w.heap.size + 1 + 1, 0, none⟩ = some (.bool mg) ∧ w'.cell? ⟨w.heap.size + 1 + 1, 1, none⟩ = some (.slice d k e) ∧ w'.cell? ⟨w.heap.size + 1 + 1, 2, none⟩ = some (.slice d' k' e'))
    (first | exact HS.out _ (by assumption) | exact HS.out _ (Ext.trans (by assumption) (Ext.alloc _ _)) | exact HSN.out _ _ _ _ _ (by first | omega | (simp only [World.size_drew]; omega)) (by assumption) | exact HSN.out _ _ _ _ _ (by first | omega | (simp only [World.size_drew]; omega)) (Ext.trans (by assumption) (Ext.alloc _ _)))
   (first
     | (go_at_call 98; (with_reducible refine (CB.out _ _ (by first | exact ky.ext hb0 | exact (ky.ext hb0).ext (Ext.alloc _ _)) (HT.out.ext (HE.out.trans (by first | exact hb0 | exact (hb0.trans (Ext.alloc _ _)))))).mono ?_); rintro e x9_1 ⟨v1, rfl, m1, g1⟩; have hb1 : Ext W2 x9_1 := (by first | exact hb0.trans g1 | exact (hb0.trans (Ext.alloc _ _)).trans g1); have hs1 := hb1.size)
     | (go_at_call 98; (with_reducible refine (CA.out _ _ (by first | exact kx.ext hb1 | exact (kx.ext hb1).ext (Ext.alloc _ _)) (HT.out.ext (HE.out.trans (by first | exact hb1 | exact (hb1.trans (Ext.alloc _ _)))))).mono ?_); rintro e x9_2 ⟨v2, rfl, m2, g2⟩; have hb2 : Ext W2 x9_2 := (by first | exact hb1.trans g2 | exact (hb1.trans (Ext.alloc _ _)).trans g2); have hs2 := hb2.size)
     | (go_at_call 99; (with_reducible refine (CSU.out _ _ _ (by first | exact m1.ext g2 | exact (m1.ext g2).ext (Ext.alloc _ _) | exact (m1.ext (Ext.alloc _ _)).ext g2) (by first | exact m2 | exact (m2).ext (Ext.alloc _ _))).mono ?_); rintro e x9_3 ⟨v3, rfl, m3, g3⟩; have hb3 : Ext W2 x9_3 := (by first | exact hb2.trans g3 | exact (hb2.trans (Ext.alloc _ _)).trans g3); have hs3 := hb3.size)
     | (go_at_call 82; (with_reducible refine (CI1.out _).mono ?_); rintro e x9_4 ⟨v4, rfl, m4, g4⟩; have hb4 : Ext W2 x9_4 := (by first | exact hb3.trans g4 | exact (hb3.trans (Ext.alloc _ _)).trans g4); have hs4 := hb4.size)
     | (go_at_call 83; (with_reducible refine (CAD.out _ _ _ (by first | exact m3.ext g4 | exact (m3.ext g4).ext (Ext.alloc _ _) | exact (m3.ext (Ext.alloc _ _)).ext g4) (by first | exact m4 | exact (m4).ext (Ext.alloc _ _))).mono ?_); rintro e x9_5 ⟨v5, rfl, m5, g5⟩; have hb5 : Ext W2 x9_5 := (by first | exact hb4.trans g5 | exact (hb4.trans (Ext.alloc _ _)).trans g5); have hs5 := hb5.size; obtain ⟨ng5, a5, n5, c5, a5', n5', c5', rfl⟩ := m5.shape; (first | (have yy := HNEW.out _ _ g5; (try simp only [World.size_drew] at yy); obtain ⟨y0, y1, y2, y3, y4, y5⟩ := yy) | (have yy := HNEW.out _ _ (g4.trans g5); (try simp only [World.size_drew] at yy); obtain ⟨y0, y1, y2, y3, y4, y5⟩ := yy) | (have yy := HNEW.out _ _ ((g3.trans g4).trans g5); (try simp only [World.size_drew] at yy); obtain ⟨y0, y1, y2, y3, y4, y5⟩ := yy) | (have yy := HNEW.out _ _ (((g2.trans g3).trans g4).trans g5); (try simp only [World.size_drew] at yy); obtain ⟨y0, y1, y2, y3, y4, y5⟩ := yy) | (have yy := HNEW.out _ _ (((((Ext.undrew g1).trans g2).trans g3).trans g4).trans g5); (try simp only [World.size_drew] at yy); obtain ⟨y0, y1, y2, y3, y4, y5⟩ := yy) | (obtain ⟨y0, y1, y2, y3, y4, y5⟩ := HNEW.out x9_5 _ (Below.refl _ _)))))
  all_goals (go_wp2_with fail; go_meet; first | exact ⟨_, rfl, newNum0 hb5 m5⟩ | exact ⟨_, rfl, newNum hb5 (by first | omega | (simp only [World.size_drew]; omega)) ((Box.new _ _ _).ext g5) m5⟩ | exact ⟨_, rfl, newNum hb5 (by first | omega | (simp only [World.size_drew]; omega)) (((Box.new _ _ _).ext g4).ext g5) m5⟩ | exact ⟨_, rfl, newNum hb5 (by first | omega | (simp only [World.size_drew]; omega)) ((((Box.new _ _ _).ext g3).ext g4).ext g5) m5⟩ | exact ⟨_, rfl, newNum hb5 (by first | omega | (simp only [World.size_drew]; omega)) (((((Box.new _ _ _).ext g2).ext g3).ext g4).ext g5) m5⟩ | exact ⟨_, rfl, newNum hb5 (by first | omega | (simp only [World.size_drew]; omega)) ((((((Box.new _ _ _).ext (Ext.undrew g1)).ext g2).ext g3).ext g4).ext g5) m5⟩)
 case rest =>
  obtain ⟨gN, rfl, gx3, hg3, ng3, a3, n3, c3, a3', n3', c3', B3, kv3⟩ := hcut
  have hz_wc := gx3.out.size
  replace HE := hid (HE.out.trans gx3.out)
  replace HB_F := hid (HB_F.out.ext gx3.out)
  replace HB_X := hid (HB_X.out.ext gx3.out)
  replace HB_Y := hid (HB_Y.out.ext gx3.out)
  replace HB_M := hid (HB_M.out.ext gx3.out)
  replace kx := kx.ext gx3.out
  replace ky := ky.ext gx3.out
  have HB_N := hid B3
  clear B3 HS HSN HNEW
  go_upto_region 5 with (fail)
  have HS : Hid (∀ w', Ext wc w' → w'.cell? ⟨gN, 0, none⟩ = some (.bool ng3) ∧ w'.cell? ⟨gN, 1, none⟩ = some (.slice a3 n3 c3) ∧ w'.cell? ⟨gN, 2, none⟩ = some (.slice a3' n3' c3')) := hid fun w' h => ⟨(HB_N.out.ext h).cell 0, (HB_N.out.ext h).cell 1, (HB_N.out.ext h).cell 2⟩
  have hb0 : Ext wc wc.drew := Below.drew (Below.refl _ wc)
  refine wp_region_held_drew (S := fun w' => w'.cell? ⟨gN, 0, none⟩ = some (.bool ng3) ∧ w'.cell? ⟨gN, 1, none⟩ = some (.slice a3 n3 c3) ∧ w'.cell? ⟨gN, 2, none⟩ = some (.slice a3' n3' c3')) (by kernel_rfl) (HS.out _ hb0) (fun hHeld => ?_)
  refine wpAnyH_take (i := 0) (oi := { dst := some 30, op := Op.load 40 (Operand.tmp 10), type := 40, pos := "floats.go:459", after := #[], guard := none }) (v := ?_) rfl (by kernel_rfl) (by kernel_rfl) (by kernel_rfl) (fun _ _ _ h => h) (Or.inl ⟨by rfl, ?_⟩) (by assumption) ?_
  rotate_left
  ·intro w' hSw
   (try dsimp only at hSw)
   go_simp <;> with_reducible rfl
  try simp only [Act.put, List.setIfInBounds_toArray, List.set_cons_zero, List.set_cons_succ]
  refine wpAnyH_ready (rs := [1]) (by kernel_rfl) (by simp) ?_
  refine AllReadyH.cons (o := { dst := some 31, op := Op.call { callee := Callee.value (Operand.func 47), args := #[Operand.const (Value.int IntKind.i64 62)], argTypes := #[3] }, type := 40, pos := "floats.go:459", after := #[], guard := none }) rfl (fun K hK => ?_) AllReadyH.nil
  go_simp
  refine (CT.out _).mono ?_
  rintro e x10_1 ⟨v6, rfl, k6, g1⟩
  have hb1 : Ext wc x10_1 := hb0.trans g1
  try dsimp only
  refine hK.out _ _ (HS.out _ hb1) ?_
  clear hHeld
  intro hHeld
  clear hK K
  try simp only [Act.put, List.setIfInBounds_toArray, List.set_cons_zero, List.set_cons_succ]
  refine wpAnyH_ready (rs := [2]) (by kernel_rfl) (by simp) ?_
  refine AllReadyH.cons (o := { dst := some 32, op := Op.call { callee := Callee.value (Operand.func 19), args := #[Operand.tmp 30, Operand.tmp 31], argTypes := #[40, 40] }, type := 3, pos := "floats.go:459", after := #[{ on := 0, ground := Ground.data }, { on := 1, ground := Ground.data }, { on := 1, ground := Ground.chain }], guard := none }) rfl (fun K hK => ?_) AllReadyH.nil
  go_simp
  refine (CCM.out _ _ _ (kv3.ext hb1) k6).mono ?_
  rintro e x10_2 ⟨rfl, g2⟩
  have hb2 : Ext wc x10_2 := hb1.trans g2
  try dsimp only
  refine hK.out _ _ (HS.out _ hb2) ?_
  clear hHeld
  intro hHeld
  clear hK K
  try simp only [Act.put, List.setIfInBounds_toArray, List.set_cons_zero, List.set_cons_succ]
  refine wpAnyH_take (i := 3) (oi := { dst := some 33, op := Op.binOp BinOp.gtr 3 (Operand.tmp 32) (Operand.const (Value.int IntKind.i64 0)) 3, type := 4, pos := "floats.go:459", after := #[{ on := 2, ground := Ground.data }], guard := none }) (v := ?_) rfl (by kernel_rfl) (by kernel_rfl) (by kernel_rfl) (fun _ _ _ h => h) (Or.inl ⟨by rfl, ?_⟩) (by assumption) ?_
  rotate_left
  ·intro w' hSw
   (try dsimp only at hSw)
   go_simp <;> with_reducible rfl
  try simp only [Act.put, List.setIfInBounds_toArray, List.set_cons_zero, List.set_cons_succ]
  refine wpAnyH_done (by kernel_rfl) ?_ _
  clear HS hHeld
  have hz_x10_2 := hb2.size
  replace HE := hid (HE.out.trans hb2)
  replace HB_F := hid (HB_F.out.ext hb2)
  replace HB_X := hid (HB_X.out.ext hb2)
  replace HB_Y := hid (HB_Y.out.ext hb2)
  replace HB_M := hid (HB_M.out.ext hb2)
  replace HB_N := hid (HB_N.out.ext hb2)
  replace kx := kx.ext hb2
  replace ky := ky.ext hb2
  replace kv3 := kv3.ext hb2
  obtain ⟨c_11, c_12⟩ := HB_F.out.c2
  obtain ⟨c_13, c_14, c_15⟩ := HB_X.out.c3
  obtain ⟨c_16, c_17, c_18⟩ := HB_Y.out.c3
  obtain ⟨c_19, c_20, c_21, c_22⟩ := HB_M.out.c4
  obtain ⟨c_23, c_24, c_25⟩ := HB_N.out.c3
  go_wp2_with fail
  clear c_11 c_12 c_13 c_14 c_15 c_16 c_17 c_18 c_19 c_20 c_21 c_22 c_23 c_24 c_25
  refine bodyPost_ret (v := .tuple #[.int .i64 0, .int .i64 3]) (by simp [results, Tryz.results39, go_sem]) rfl ⟨rfl, HE.out⟩
set_option maxRecDepth 100000 in
set_option maxHeartbeats 4000000 in
theorem Count_short (E P : Nat) (x y : Value) (qx qy : Rat) (z : Int) (w : World) (hF : Fmt E P) (hx : NumV w x qx) (hy : NumV w y qy) (zx zy : Int) (hz : z = zy - zx + 1) (bx : zx.natAbs < 2 ^ 124) (bY : zy.natAbs < 2 ^ 124) (CA : Hid (∀ v w, NumV w v qx → Tabs w → Calls Tryz.prog 98 #[.agg #[.int .i64 (E : Nat), .int .i64 (P : Nat), .int .i64 0, .int .i64 (bias E : Nat)], v, .int .i64 3] w fun e w' => ∃ v, e = .returned v ∧ NumV w' v ((zx : Int) : Rat) ∧ Ext w w')) (CB : Hid (∀ v w, NumV w v qy → Tabs w → Calls Tryz.prog 98 #[.agg #[.int .i64 (E : Nat), .int .i64 (P : Nat), .int .i64 0, .int .i64 (bias E : Nat)], v, .int .i64 4] w fun e w' => ∃ v, e = .returned v ∧ NumV w' v ((zy : Int) : Rat) ∧ Ext w w')) (hT : Tabs w) (hb : z ≤ 4611686018427387904) :
  Calls Tryz.prog 39 #[.agg #[.int .i64 (E : Nat), .int .i64 (P : Nat)], x, y] w fun e w' => e = .returned (.tuple #[.int .i64 (max z 0), .int .i64 0]) ∧ Ext w w' := by
 obtain ⟨ng, a, n, c, a', n', c', rfl⟩ := hx.shape
 obtain ⟨mg, d, k, e, d', k', e', rfl⟩ := hy.shape
 have CW := hid (fun w => with_nil E P w hF)
 have ez : ((zy : Int) : Rat) - ((zx : Int) : Rat) + ((1 : Int) : Rat) = ((z : Int) : Rat) := by rw [hz, Rat.intCast_add, Rat.intCast_sub]
 have sx : SmQ 124 ((zx : Int) : Rat) := SmQ.int (by decide) bx
 have sy : SmQ 124 ((zy : Int) : Rat) := SmQ.int (by decide) bY
 have s1 : SmQ 124 ((1 : Int) : Rat) := SmQ.int (by decide) (by decide)
 have sd : SmQ 249 (((zy : Int) : Rat) - ((zx : Int) : Rat)) := sy.sub sx
 have sz : SmQ 374 ((z : Int) : Rat) := by rw [← ez]; exact sd.add s1
 have CSU : Hid (∀ u v w, NumV w u ((zy : Int) : Rat) → NumV w v ((zx : Int) : Rat) → _) := hid fun u v w h k => Sub_c u v _ _ 124 w h k sy sx (by decide)
 have CI1 : Hid (∀ w, _) := hid fun w => Int_c 1 w (by decide) (by decide)
 have CAD : Hid (∀ u v w, NumV w u (((zy : Int) : Rat) - ((zx : Int) : Rat)) → NumV w v ((1 : Int) : Rat) → Calls Tryz.prog 83 #[u, v] w fun e w' => ∃ t, e = .returned t ∧ NumV w' t ((z : Int) : Rat) ∧ Ext w w') := hid fun u v w h k => by
  have := Add_c u v _ _ 249 w h k sd (s1.mono (by decide)) (by decide)
  rwa [ez] at this
 have e62 : (2 : Rat) ^ (62 : Int) = ((4611686018427387904 : Int) : Rat) := by decide +kernel
 have CT : Hid (∀ w, Calls Tryz.prog 47 #[.int .i64 62] w fun e w' => ∃ v, e = .returned v ∧ NumV w' v ((4611686018427387904 : Int) : Rat) ∧ Ext w w') := hid fun w => by
  have := two_c 62 w (by decide) (by decide)
  rwa [e62] at this
 obtain ⟨cc, hcc⟩ : ∃ s, s = cmpQ ((z : Int) : Rat) ((4611686018427387904 : Int) : Rat) := ⟨_, rfl⟩
 have CCM : Hid (∀ u v w, NumV w u ((z : Int) : Rat) → NumV w v ((4611686018427387904 : Int) : Rat) → Calls Tryz.prog 19 #[u, v] w fun e w' => e = .returned (.int .i64 cc) ∧ Ext w w') := hid fun u v w h k => by
  rw [hcc]; exact Cmp_c u v _ _ 374 w h k sz ((SmQ.int (K := 124) (by decide) (by decide)).mono (by decide)) (by decide)
 have hcv : 0 < cc ↔ 4611686018427387904 < z := by rw [hcc, cmpQ_gt, Rat.intCast_lt_intCast]
 have HX := hid hx; have HY := hid hy; have HT := hid hT
 have hd : decide (0 < cc) = false := decide_eq_false (fun h => by have := hcv.1 h; omega)
 have CI0 : Hid (∀ w, _) := hid fun w => Int_c 0 w (by decide) (by decide)
 have CMX : Hid (∀ u v w, NumV w u ((z : Int) : Rat) → NumV w v ((0 : Int) : Rat) → Calls Tryz.prog 14 #[u, v] w fun e w' => ∃ t, e = .returned t ∧ NumV w' t ((max z 0 : Int) : Rat) ∧ Ext w w') := hid fun u v w h k => by
  have := Max_c u v _ _ 374 w h k sz ((SmQ.int (K := 124) (by decide) (by decide)).mono (by decide)) (by decide)
  rwa [max0] at this
 obtain ⟨zm, hzm⟩ : ∃ s, s = max z 0 := ⟨_, rfl⟩
 rw [← hzm] at CMX ⊢
 have C64 : Hid (∀ u w, NumV w u ((zm : Int) : Rat) → Calls Tryz.prog 100 #[u] w fun e w' => e = .returned (.tuple #[.int .i64 zm, .int .i64 0]) ∧ Ext w w') := hid fun u w h => Int64_c u _ w h rfl (by show 0 ≤ zm; omega) (by show zm < _; omega)
 clear hzm
 clear hF hx hy hz bx bY sx sy s1 sd sz ez e62 hcc hcv hb hT
 obtain ⟨W0, hW0, g0, hz0, B_F, B_X, B_Y⟩ := pro3s w #[.int .i64 (E : Nat), .int .i64 (P : Nat)] #[.bool ng, .slice a n c, .slice a' n' c'] #[.bool mg, .slice d k e, .slice d' k' e'] 23 40 40
 have HE := hid g0
 have HB_F := hid B_F
 have HB_X := hid B_X
 have HB_Y := hid B_Y
 clear g0 B_F B_X B_Y 
 go_enter Tryz.func39, Tryz.ntmps39
 go_upto_region 1 with (fail)
 rw [← hW0]
 clear hW0
 have kx := HX.out.ext HE.out
 have ky := HY.out.ext HE.out
 obtain ⟨c_1, c_2⟩ := HB_F.out.c2
 obtain ⟨c_3, c_4, c_5⟩ := HB_X.out.c3
 obtain ⟨c_6, c_7, c_8⟩ := HB_Y.out.c3
 go_wp2_with fail
 clear c_1 c_2 c_3 c_4 c_5 c_6 c_7 c_8
 refine (CW.out _).mono ?_
 rintro e w1 ⟨rfl, g1⟩
 have hz_w1 := g1.size
 replace HE := hid (HE.out.trans g1)
 replace HB_F := hid (HB_F.out.ext g1)
 replace HB_X := hid (HB_X.out.ext g1)
 replace HB_Y := hid (HB_Y.out.ext g1)
 replace kx := kx.ext g1
 replace ky := ky.ext g1
 have gA := Ext.alloc w1 (.cells #[.int .i64 (E : Nat), .int .i64 (P : Nat), .int .i64 0, .int .i64 (bias E : Nat)] 81)
 go_upto_region 4 with (fail)
 clear gA
 obtain ⟨W2, hW2, g2, hy2, B_M⟩ := pro1 w1 #[.int .i64 (E : Nat), .int .i64 (P : Nat), .int .i64 0, .int .i64 (bias E : Nat)] 81
 rw [← hW2]
 clear hW2
 have hz_W2 := g2.size
 replace HE := hid (HE.out.trans g2)
 replace HB_F := hid (HB_F.out.ext g2)
 replace HB_X := hid (HB_X.out.ext g2)
 replace HB_Y := hid (HB_Y.out.ext g2)
 replace kx := kx.ext g2
 replace ky := ky.ext g2
 have HB_M := hid B_M
 clear B_M
 have HS : Hid (∀ w', Ext W2 w' → w'.cell? ⟨w1.heap.size, 0, none⟩ = some (.int .i64 (E : Nat)) ∧ w'.cell? ⟨w1.heap.size, 1, none⟩ = some (.int .i64 (P : Nat)) ∧ w'.cell? ⟨w1.heap.size, 2, none⟩ = some (.int .i64 0) ∧ w'.cell? ⟨w1.heap.size, 3, none⟩ = some (.int .i64 (bias E : Nat)) ∧ w'.cell? ⟨w.heap.size + 1, 0, none⟩ = some (.bool ng) ∧ w'.cell? ⟨w.heap.size + 1, 1, none⟩ = some (.slice a n c) ∧ w'.cell? ⟨w.heap.size + 1, 2, none⟩ = some (.slice a' n' c') ∧ w'.cell? ⟨w.heap.size + 1 + 1, 0, none⟩ = some (.bool mg) ∧ w'.cell? ⟨w.heap.size + 1 + 1, 1, none⟩ = some (.slice d k e) ∧ w'.cell? ⟨w.heap.size + 1 + 1, 2, none⟩ = some (.slice d' k' e')) := hid fun w' h => ⟨(HB_M.out.ext h).cell 0, (HB_M.out.ext h).cell 1, (HB_M.out.ext h).cell 2, (HB_M.out.ext h).cell 3, (HB_X.out.ext h).cell 0, (HB_X.out.ext h).cell 1, (HB_X.out.ext h).cell 2, (HB_Y.out.ext h).cell 0, (HB_Y.out.ext h).cell 1, (HB_Y.out.ext h).cell 2⟩
 have hlt_M : w1.heap.size < W2.heap.size := cell_lt HB_M.out
 have hlt_X : w.heap.size + 1 < W2.heap.size := cell_lt HB_X.out
 have hlt_Y : w.heap.size + 1 + 1 < W2.heap.size := cell_lt HB_Y.out
 have HSN : Hid (∀ (g : Nat) (v0 v1 v2 : Value) (w' : World), W2.heap.size ≤ g → Ext W2 w' → (((w'.setCell ⟨g, 0, none⟩ v0).setCell ⟨g, 1, none⟩ v1).setCell ⟨g, 2, none⟩ v2).cell? ⟨w1.heap.size, 0, none⟩ = some (.int .i64 (E : Nat)) ∧ (((w'.setCell ⟨g, 0, none⟩ v0).setCell ⟨g, 1, none⟩ v1).setCell ⟨g, 2, none⟩ v2).cell? ⟨w1.heap.size, 1, none⟩ = some (.int .i64 (P : Nat)) ∧ (((w'.setCell ⟨g, 0, none⟩ v0).setCell ⟨g, 1, none⟩ v1).setCell ⟨g, 2, none⟩ v2).cell? ⟨w1.heap.size, 2, none⟩ = some (.int .i64 0) ∧ (((w'.setCell ⟨g, 0, none⟩ v0).setCell ⟨g, 1, none⟩ v1).setCell ⟨g, 2, none⟩ v2).cell? ⟨w1.heap.size, 3, none⟩ = some (.int .i64 (bias E : Nat)) ∧ (((w'.setCell ⟨g, 0, none⟩ v0).setCell ⟨g, 1, none⟩ v1).setCell ⟨g, 2, none⟩ v2).cell? ⟨w.heap.size + 1, 0, none⟩ = some (.bool ng) ∧ (((w'.setCell ⟨g, 0, none⟩ v0).setCell ⟨g, 1, none⟩ v1).setCell ⟨g, 2, none⟩ v2).cell? ⟨w.heap.size + 1, 1, none⟩ = some (.slice a n c) ∧ (((w'.setCell ⟨g, 0, none⟩ v0).setCell ⟨g, 1, none⟩ v1).setCell ⟨g, 2, none⟩ v2).cell? ⟨w.heap.size + 1, 2, none⟩ = some (.slice a' n' c') ∧ (((w'.setCell ⟨g, 0, none⟩ v0).setCell ⟨g, 1, none⟩ v1).setCell ⟨g, 2, none⟩ v2).cell? ⟨w.heap.size + 1 + 1, 0, none⟩ = some (.bool mg) ∧ (((w'.setCell ⟨g, 0, none⟩ v0).setCell ⟨g, 1, none⟩ v1).setCell ⟨g, 2, none⟩ v2).cell? ⟨w.heap.size + 1 + 1, 1, none⟩ = some (.slice d k e) ∧ (((w'.setCell ⟨g, 0, none⟩ v0).setCell ⟨g, 1, none⟩ v1).setCell ⟨g, 2, none⟩ v2).cell? ⟨w.heap.size + 1 + 1, 2, none⟩ = some (.slice d' k' e')) := hid fun g v0 v1 v2 w' hg h => ⟨(cell_other (show w1.heap.size ≠ g by omega) (cell_other (show w1.heap.size ≠ g by omega) (cell_other (show w1.heap.size ≠ g by omega) ((HB_M.out.ext h).cell 0)))), (cell_other (show w1.heap.size ≠ g by omega) (cell_other (show w1.heap.size ≠ g by omega) (cell_other (show w1.heap.size ≠ g by omega) ((HB_M.out.ext h).cell 1)))), (cell_other (show w1.heap.size ≠ g by omega) (cell_other (show w1.heap.size ≠ g by omega) (cell_other (show w1.heap.size ≠ g by omega) ((HB_M.out.ext h).cell 2)))), (cell_other (show w1.heap.size ≠ g by omega) (cell_other (show w1.heap.size ≠ g by omega) (cell_other (show w1.heap.size ≠ g by omega) ((HB_M.out.ext h).cell 3)))), (cell_other (show w.heap.size + 1 ≠ g by omega) (cell_other (show w.heap.size + 1 ≠ g by omega) (cell_other (show w.heap.size + 1 ≠ g by omega) ((HB_X.out.ext h).cell 0)))), (cell_other (show w.heap.size + 1 ≠ g by omega) (cell_other (show w.heap.size + 1 ≠ g by omega) (cell_other (show w.heap.size + 1 ≠ g by omega) ((HB_X.out.ext h).cell 1)))), (cell_other (show w.heap.size + 1 ≠ g by omega) (cell_other (show w.heap.size + 1 ≠ g by omega) (cell_other (show w.heap.size + 1 ≠ g by omega) ((HB_X.out.ext h).cell 2)))), (cell_other (show w.heap.size + 1 + 1 ≠ g by omega) (cell_other (show w.heap.size + 1 + 1 ≠ g by omega) (cell_other (show w.heap.size + 1 + 1 ≠ g by omega) ((HB_Y.out.ext h).cell 0)))), (cell_other (show w.heap.size + 1 + 1 ≠ g by omega) (cell_other (show w.heap.size + 1 + 1 ≠ g by omega) (cell_other (show w.heap.size + 1 + 1 ≠ g by omega) ((HB_Y.out.ext h).cell 1)))), (cell_other (show w.heap.size + 1 + 1 ≠ g by omega) (cell_other (show w.heap.size + 1 + 1 ≠ g by omega) (cell_other (show w.heap.size + 1 + 1 ≠ g by omega) ((HB_Y.out.ext h).cell 2))))⟩
 clear hlt_M hlt_X hlt_Y
 have hb0 : Ext W2 W2.drew := Below.drew (Below.refl _ W2)
 have HNEW := hid newFacts
 go_cut [10] (fun sv wx => ∃ g : Nat, sv = .pointer (some ⟨g, 0, none⟩) ∧ Hid (Ext W2 wx) ∧ W2.heap.size ≤ g ∧ NumBox wx g (((z : Int) : Rat)))
 case first =>
  go_region_held3 (fun w' => w'.cell? ⟨w1.heap.size, 0, none⟩ = some (.int .i64 (E : Nat)) ∧ w'.cell? ⟨w1.heap.size, 1, none⟩ = some (.int .i64 (P : Nat)) ∧ w'.cell? ⟨w1.heap.size, 2, none⟩ = some (.int .i64 0) ∧ w'.cell? ⟨w1.heap.size, 3, none⟩ = some (.int .i64 (bias E : Nat)) ∧ w'.cell? ⟨w.heap.size + 1, 0, none⟩ = some (.bool ng) ∧ w'.cell? ⟨w.heap.size + 1, 1, none⟩ = some (.slice a n c) ∧ w'.cell? ⟨w.heap.size + 1, 2, none⟩ = some (.slice a' n' c') ∧ w'.cell? ⟨w.heap.size + 1 + 1, 0, none⟩ = some (.bool mg) ∧ w'.cell? ⟨w.heap.size + 1 + 1, 1, none⟩ = some (.slice d k e) ∧ w'.cell? ⟨w.heap.size + 1 + 1, 2, none⟩ = some (.slice d' k' e'))
    (first | exact HS.out _ (by assumption) | exact HS.out _ (Ext.trans (by assumption) (Ext.alloc _ _)) | exact HSN.out _ _ _ _ _ (by first | omega | (simp only [World.size_drew]; omega)) (by assumption) | exact HSN.out _ _ _ _ _ (by first | omega | (simp only [World.size_drew]; omega)) (Ext.trans (by assumption) (Ext.alloc _ _)))
   (first
     | (go_at_call 98; (with_reducible refine (CB.out _ _ (by first | exact ky.ext hb0 | exact (ky.ext hb0).ext (Ext.alloc _ _)) (HT.out.ext (HE.out.trans (by first | exact hb0 | exact (hb0.trans (Ext.alloc _ _)))))).mono ?_); rintro e x9_1 ⟨v1, rfl, m1, g1⟩; have hb1 : Ext W2 x9_1 := (by first | exact hb0.trans g1 | exact (hb0.trans (Ext.alloc _ _)).trans g1); have hs1 := hb1.size)
     | (go_at_call 98; (with_reducible refine (CA.out _ _ (by first | exact kx.ext hb1 | exact (kx.ext hb1).ext (Ext.alloc _ _)) (HT.out.ext (HE.out.trans (by first | exact hb1 | exact (hb1.trans (Ext.alloc _ _)))))).mono ?_); rintro e x9_2 ⟨v2, rfl, m2, g2⟩; have hb2 : Ext W2 x9_2 := (by first | exact hb1.trans g2 | exact (hb1.trans (Ext.alloc _ _)).trans g2); have hs2 := hb2.size)
     | (go_at_call 99; (with_reducible refine (CSU.out _ _ _ (by first | exact m1.ext g2 | exact (m1.ext g2).ext (Ext.alloc _ _) | exact (m1.ext (Ext.alloc _ _)).ext g2) (by first | exact m2 | exact (m2).ext (Ext.alloc _ _))).mono ?_); rintro e x9_3 ⟨v3, rfl, m3, g3⟩; have hb3 : Ext W2 x9_3 := (by first | exact hb2.trans g3 | exact (hb2.trans (Ext.alloc _ _)).trans g3); have hs3 := hb3.size)
     | (go_at_call 82; (with_reducible refine (CI1.out _).mono ?_); rintro e x9_4 ⟨v4, rfl, m4, g4⟩; have hb4 : Ext W2 x9_4 := (by first | exact hb3.trans g4 | exact (hb3.trans (Ext.alloc _ _)).trans g4); have hs4 := hb4.size)
     | (go_at_call 83; (with_reducible refine (CAD.out _ _ _ (by first | exact m3.ext g4 | exact (m3.ext g4).ext (Ext.alloc _ _) | exact (m3.ext (Ext.alloc _ _)).ext g4) (by first | exact m4 | exact (m4).ext (Ext.alloc _ _))).mono ?_); rintro e x9_5 ⟨v5, rfl, m5, g5⟩; have hb5 : Ext W2 x9_5 := (by first | exact hb4.trans g5 | exact (hb4.trans (Ext.alloc _ _)).trans g5); have hs5 := hb5.size; obtain ⟨ng5, a5, n5, c5, a5', n5', c5', rfl⟩ := m5.shape; (first | (have yy := HNEW.out _ _ g5; (try simp only [World.size_drew] at yy); obtain ⟨y0, y1, y2, y3, y4, y5⟩ := yy) | (have yy := HNEW.out _ _ (g4.trans g5); (try simp only [World.size_drew] at yy); obtain ⟨y0, y1, y2, y3, y4, y5⟩ := yy) | (have yy := HNEW.out _ _ ((g3.trans g4).trans g5); (try simp only [World.size_drew] at yy); obtain ⟨y0, y1, y2, y3, y4, y5⟩ := yy) | (have yy := HNEW.out _ _ (((g2.trans g3).trans g4).trans g5); (try simp only [World.size_drew] at yy); obtain ⟨y0, y1, y2, y3, y4, y5⟩ := yy) | (have yy := HNEW.out _ _ (((((Ext.undrew g1).trans g2).trans g3).trans g4).trans g5); (try simp only [World.size_drew] at yy); obtain ⟨y0, y1, y2, y3, y4, y5⟩ := yy) | (obtain ⟨y0, y1, y2, y3, y4, y5⟩ := HNEW.out x9_5 _ (Below.refl _ _)))))
  all_goals (go_wp2_with fail; go_meet; first | exact ⟨_, rfl, newNum0 hb5 m5⟩ | exact ⟨_, rfl, newNum hb5 (by first | omega | (simp only [World.size_drew]; omega)) ((Box.new _ _ _).ext g5) m5⟩ | exact ⟨_, rfl, newNum hb5 (by first | omega | (simp only [World.size_drew]; omega)) (((Box.new _ _ _).ext g4).ext g5) m5⟩ | exact ⟨_, rfl, newNum hb5 (by first | omega | (simp only [World.size_drew]; omega)) ((((Box.new _ _ _).ext g3).ext g4).ext g5) m5⟩ | exact ⟨_, rfl, newNum hb5 (by first | omega | (simp only [World.size_drew]; omega)) (((((Box.new _ _ _).ext g2).ext g3).ext g4).ext g5) m5⟩ | exact ⟨_, rfl, newNum hb5 (by first | omega | (simp only [World.size_drew]; omega)) ((((((Box.new _ _ _).ext (Ext.undrew g1)).ext g2).ext g3).ext g4).ext g5) m5⟩)
 case rest =>
  obtain ⟨gN, rfl, gx3, hg3, ng3, a3, n3, c3, a3', n3', c3', B3, kv3⟩ := hcut
  have hz_wc := gx3.out.size
  replace HE := hid (HE.out.trans gx3.out)
  replace HB_F := hid (HB_F.out.ext gx3.out)
  replace HB_X := hid (HB_X.out.ext gx3.out)
  replace HB_Y := hid (HB_Y.out.ext gx3.out)
  replace HB_M := hid (HB_M.out.ext gx3.out)
  replace kx := kx.ext gx3.out
  replace ky := ky.ext gx3.out
  have HB_N := hid B3
  clear B3 HS HSN HNEW
  go_upto_region 5 with (fail)
  have HS : Hid (∀ w', Ext wc w' → w'.cell? ⟨gN, 0, none⟩ = some (.bool ng3) ∧ w'.cell? ⟨gN, 1, none⟩ = some (.slice a3 n3 c3) ∧ w'.cell? ⟨gN, 2, none⟩ = some (.slice a3' n3' c3')) := hid fun w' h => ⟨(HB_N.out.ext h).cell 0, (HB_N.out.ext h).cell 1, (HB_N.out.ext h).cell 2⟩
  have hb0 : Ext wc wc.drew := Below.drew (Below.refl _ wc)
  refine wp_region_held_drew (S := fun w' => w'.cell? ⟨gN, 0, none⟩ = some (.bool ng3) ∧ w'.cell? ⟨gN, 1, none⟩ = some (.slice a3 n3 c3) ∧ w'.cell? ⟨gN, 2, none⟩ = some (.slice a3' n3' c3')) (by kernel_rfl) (HS.out _ hb0) (fun hHeld => ?_)
  refine wpAnyH_take (i := 0) (oi := { dst := some 30, op := Op.load 40 (Operand.tmp 10), type := 40, pos := "floats.go:459", after := #[], guard := none }) (v := ?_) rfl (by kernel_rfl) (by kernel_rfl) (by kernel_rfl) (fun _ _ _ h => h) (Or.inl ⟨by rfl, ?_⟩) (by assumption) ?_
  rotate_left
  ·intro w' hSw
   (try dsimp only at hSw)
   go_simp <;> with_reducible rfl
  try simp only [Act.put, List.setIfInBounds_toArray, List.set_cons_zero, List.set_cons_succ]
  refine wpAnyH_ready (rs := [1]) (by kernel_rfl) (by simp) ?_
  refine AllReadyH.cons (o := { dst := some 31, op := Op.call { callee := Callee.value (Operand.func 47), args := #[Operand.const (Value.int IntKind.i64 62)], argTypes := #[3] }, type := 40, pos := "floats.go:459", after := #[], guard := none }) rfl (fun K hK => ?_) AllReadyH.nil
  go_simp
  refine (CT.out _).mono ?_
  rintro e x10_1 ⟨v6, rfl, k6, g1⟩
  have hb1 : Ext wc x10_1 := hb0.trans g1
  try dsimp only
  refine hK.out _ _ (HS.out _ hb1) ?_
  clear hHeld
  intro hHeld
  clear hK K
  try simp only [Act.put, List.setIfInBounds_toArray, List.set_cons_zero, List.set_cons_succ]
  refine wpAnyH_ready (rs := [2]) (by kernel_rfl) (by simp) ?_
  refine AllReadyH.cons (o := { dst := some 32, op := Op.call { callee := Callee.value (Operand.func 19), args := #[Operand.tmp 30, Operand.tmp 31], argTypes := #[40, 40] }, type := 3, pos := "floats.go:459", after := #[{ on := 0, ground := Ground.data }, { on := 1, ground := Ground.data }, { on := 1, ground := Ground.chain }], guard := none }) rfl (fun K hK => ?_) AllReadyH.nil
  go_simp
  refine (CCM.out _ _ _ (kv3.ext hb1) k6).mono ?_
  rintro e x10_2 ⟨rfl, g2⟩
  have hb2 : Ext wc x10_2 := hb1.trans g2
  try dsimp only
  refine hK.out _ _ (HS.out _ hb2) ?_
  clear hHeld
  intro hHeld
  clear hK K
  try simp only [Act.put, List.setIfInBounds_toArray, List.set_cons_zero, List.set_cons_succ]
  refine wpAnyH_take (i := 3) (oi := { dst := some 33, op := Op.binOp BinOp.gtr 3 (Operand.tmp 32) (Operand.const (Value.int IntKind.i64 0)) 3, type := 4, pos := "floats.go:459", after := #[{ on := 2, ground := Ground.data }], guard := none }) (v := ?_) rfl (by kernel_rfl) (by kernel_rfl) (by kernel_rfl) (fun _ _ _ h => h) (Or.inl ⟨by rfl, ?_⟩) (by assumption) ?_
  rotate_left
  ·intro w' hSw
   (try dsimp only at hSw)
   go_simp <;> with_reducible rfl
  try simp only [Act.put, List.setIfInBounds_toArray, List.set_cons_zero, List.set_cons_succ]
  refine wpAnyH_done (by kernel_rfl) ?_ _
  clear HS hHeld
  have hz_x10_2 := hb2.size
  replace HE := hid (HE.out.trans hb2)
  replace HB_F := hid (HB_F.out.ext hb2)
  replace HB_X := hid (HB_X.out.ext hb2)
  replace HB_Y := hid (HB_Y.out.ext hb2)
  replace HB_M := hid (HB_M.out.ext hb2)
  replace HB_N := hid (HB_N.out.ext hb2)
  replace kx := kx.ext hb2
  replace ky := ky.ext hb2
  replace kv3 := kv3.ext hb2
  go_upto_region 7 with (fail)
  have HS : Hid (∀ w', Ext x10_2 w' → w'.cell? ⟨gN, 0, none⟩ = some (.bool ng3) ∧ w'.cell? ⟨gN, 1, none⟩ = some (.slice a3 n3 c3) ∧ w'.cell? ⟨gN, 2, none⟩ = some (.slice a3' n3' c3')) := hid fun w' h => ⟨(HB_N.out.ext h).cell 0, (HB_N.out.ext h).cell 1, (HB_N.out.ext h).cell 2⟩
  have hb0 : Ext x10_2 x10_2.drew := Below.drew (Below.refl _ x10_2)
  refine wp_region_held_drew (S := fun w' => w'.cell? ⟨gN, 0, none⟩ = some (.bool ng3) ∧ w'.cell? ⟨gN, 1, none⟩ = some (.slice a3 n3 c3) ∧ w'.cell? ⟨gN, 2, none⟩ = some (.slice a3' n3' c3')) (by kernel_rfl) (HS.out _ hb0) (fun hHeld => ?_)
  refine wpAnyH_take (i := 0) (oi := { dst := some 35, op := Op.load 40 (Operand.tmp 10), type := 40, pos := "floats.go:462", after := #[], guard := none }) (v := ?_) rfl (by kernel_rfl) (by kernel_rfl) (by kernel_rfl) (fun _ _ _ h => h) (Or.inl ⟨by rfl, ?_⟩) (by assumption) ?_
  rotate_left
  ·intro w' hSw
   (try dsimp only at hSw)
   go_simp <;> with_reducible rfl
  try simp only [Act.put, List.setIfInBounds_toArray, List.set_cons_zero, List.set_cons_succ]
  refine wpAnyH_ready (rs := [1]) (by kernel_rfl) (by simp) ?_
  refine AllReadyH.cons (o := { dst := some 36, op := Op.call { callee := Callee.value (Operand.func 82), args := #[Operand.const (Value.int IntKind.i64 0)], argTypes := #[2] }, type := 40, pos := "floats.go:462", after := #[], guard := none }) rfl (fun K hK => ?_) AllReadyH.nil
  go_simp
  refine (CI0.out _).mono ?_
  rintro e x11_1 ⟨v7, rfl, k7, g1⟩
  have hb1 : Ext x10_2 x11_1 := hb0.trans g1
  try dsimp only
  refine hK.out _ _ (HS.out _ hb1) ?_
  clear hHeld
  intro hHeld
  clear hK K
  try simp only [Act.put, List.setIfInBounds_toArray, List.set_cons_zero, List.set_cons_succ]
  refine wpAnyH_ready (rs := [2]) (by kernel_rfl) (by simp) ?_
  refine AllReadyH.cons (o := { dst := some 37, op := Op.call { callee := Callee.value (Operand.func 14), args := #[Operand.tmp 35, Operand.tmp 36], argTypes := #[40, 40] }, type := 40, pos := "floats.go:462", after := #[{ on := 0, ground := Ground.data }, { on := 1, ground := Ground.data }, { on := 1, ground := Ground.chain }], guard := none }) rfl (fun K hK => ?_) AllReadyH.nil
  go_simp
  refine (CMX.out _ _ _ (kv3.ext hb1) k7).mono ?_
  rintro e x11_2 ⟨v8, rfl, k8, g2⟩
  have hb2 : Ext x10_2 x11_2 := hb1.trans g2
  try dsimp only
  refine hK.out _ _ (HS.out _ hb2) ?_
  clear hHeld
  intro hHeld
  clear hK K
  try simp only [Act.put, List.setIfInBounds_toArray, List.set_cons_zero, List.set_cons_succ]
  refine wpAnyH_ready (rs := [3]) (by kernel_rfl) (by simp) ?_
  refine AllReadyH.cons (o := { dst := some 38, op := Op.call { callee := Callee.value (Operand.func 100), args := #[Operand.tmp 37], argTypes := #[40] }, type := 77, pos := "floats.go:462", after := #[{ on := 2, ground := Ground.data }, { on := 2, ground := Ground.chain }], guard := none }) rfl (fun K hK => ?_) AllReadyH.nil
  go_simp
  refine (C64.out _ _ k8).mono ?_
  rintro e x11_3 ⟨rfl, g3⟩
  have hb3 : Ext x10_2 x11_3 := hb2.trans g3
  try dsimp only
  refine hK.out _ _ (HS.out _ hb3) ?_
  clear hHeld
  intro hHeld
  clear hK K
  try simp only [Act.put, List.setIfInBounds_toArray, List.set_cons_zero, List.set_cons_succ]
  refine wpAnyH_take (i := 4) (oi := { dst := some 34, op := Op.move (Operand.tmp 38), type := 77, pos := "floats.go:462", after := #[{ on := 3, ground := Ground.data }], guard := none }) (v := ?_) rfl (by kernel_rfl) (by kernel_rfl) (by kernel_rfl) (fun _ _ _ h => h) (Or.inl ⟨by rfl, ?_⟩) (by assumption) ?_
  rotate_left
  ·intro w' hSw
   (try dsimp only at hSw)
   go_simp <;> with_reducible rfl
  try simp only [Act.put, List.setIfInBounds_toArray, List.set_cons_zero, List.set_cons_succ]
  refine wpAnyH_take (i := 5) (oi := { dst := some 39, op := Op.extract (Operand.tmp 34) 0, type := 2, pos := "floats.go:462", after := #[{ on := 4, ground := Ground.data }], guard := none }) (v := ?_) rfl (by kernel_rfl) (by kernel_rfl) (by kernel_rfl) (fun _ _ _ h => h) (Or.inl ⟨by rfl, ?_⟩) (by assumption) ?_
  rotate_left
  ·intro w' hSw
   (try dsimp only at hSw)
   go_simp <;> with_reducible rfl
  try simp only [Act.put, List.setIfInBounds_toArray, List.set_cons_zero, List.set_cons_succ]
  refine wpAnyH_take (i := 6) (oi := { dst := some 40, op := Op.extract (Operand.tmp 34) 1, type := 30, pos := "floats.go:462", after := #[{ on := 4, ground := Ground.data }, { on := 7, ground := Ground.gcOnly Departure.lateStores }], guard := none }) (v := ?_) rfl (by kernel_rfl) (by kernel_rfl) (by kernel_rfl) (fun _ _ _ h => h) (Or.inl ⟨by rfl, ?_⟩) (by assumption) ?_
  rotate_left
  ·intro w' hSw
   (try dsimp only at hSw)
   go_simp <;> with_reducible rfl
  try simp only [Act.put, List.setIfInBounds_toArray, List.set_cons_zero, List.set_cons_succ]
  refine wpAnyH_take (i := 7) (oi := { dst := some 11, op := Op.assign (Operand.tmp 39), type := 2, pos := "floats.go:462", after := #[{ on := 5, ground := Ground.data }, { on := 3, ground := Ground.chain }, { on := 0, ground := Ground.phase }, { on := 1, ground := Ground.phase }, { on := 2, ground := Ground.phase }, { on := 3, ground := Ground.phase }, { on := 4, ground := Ground.phase }, { on := 5, ground := Ground.phase }, { on := 6, ground := Ground.textOnly Departure.lateStores }], guard := none }) (v := ?_) rfl (by kernel_rfl) (by kernel_rfl) (by kernel_rfl) (fun _ _ _ h => h) (Or.inl ⟨by rfl, ?_⟩) (by assumption) ?_
  rotate_left
  ·intro w' hSw
   (try dsimp only at hSw)
   go_simp <;> with_reducible rfl
  try simp only [Act.put, List.setIfInBounds_toArray, List.set_cons_zero, List.set_cons_succ]
  refine wpAnyH_take (i := 8) (oi := { dst := some 12, op := Op.assign (Operand.tmp 40), type := 30, pos := "floats.go:462", after := #[{ on := 6, ground := Ground.data }, { on := 7, ground := Ground.chain }, { on := 0, ground := Ground.phase }, { on := 1, ground := Ground.phase }, { on := 2, ground := Ground.phase }, { on := 3, ground := Ground.phase }, { on := 4, ground := Ground.phase }, { on := 5, ground := Ground.phase }, { on := 6, ground := Ground.phase }, { on := 7, ground := Ground.phase }], guard := none }) (v := ?_) rfl (by kernel_rfl) (by kernel_rfl) (by kernel_rfl) (fun _ _ _ h => h) (Or.inl ⟨by rfl, ?_⟩) (by assumption) ?_
  rotate_left
  ·intro w' hSw
   (try dsimp only at hSw)
   go_simp <;> with_reducible rfl
  try simp only [Act.put, List.setIfInBounds_toArray, List.set_cons_zero, List.set_cons_succ]
  refine wpAnyH_done (by kernel_rfl) ?_ _
  clear HS hHeld
  have hz_x11_3 := hb3.size
  replace HE := hid (HE.out.trans hb3)
  replace HB_F := hid (HB_F.out.ext hb3)
  replace HB_X := hid (HB_X.out.ext hb3)
  replace HB_Y := hid (HB_Y.out.ext hb3)
  replace HB_M := hid (HB_M.out.ext hb3)
  replace HB_N := hid (HB_N.out.ext hb3)
  replace kx := kx.ext hb3
  replace ky := ky.ext hb3
  replace kv3 := kv3.ext hb3
  obtain ⟨c_12, c_13⟩ := HB_F.out.c2
  obtain ⟨c_14, c_15, c_16⟩ := HB_X.out.c3
  obtain ⟨c_17, c_18, c_19⟩ := HB_Y.out.c3
  obtain ⟨c_20, c_21, c_22, c_23⟩ := HB_M.out.c4
  obtain ⟨c_24, c_25, c_26⟩ := HB_N.out.c3
  go_wp2_with fail
  clear c_12 c_13 c_14 c_15 c_16 c_17 c_18 c_19 c_20 c_21 c_22 c_23 c_24 c_25 c_26
  refine bodyPost_ret (v := .tuple #[.int .i64 zm, .int .i64 0]) (by simp [results, Tryz.results39, go_sem]) rfl ⟨rfl, HE.out⟩
end Go.Proofs.YtopmjkkjlagfcaaGreatDoor
