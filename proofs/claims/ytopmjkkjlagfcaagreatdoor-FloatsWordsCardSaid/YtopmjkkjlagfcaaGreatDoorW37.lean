/- floats: add. -/
import Derived.Test.YtopmjkkjlagfcaaGreatDoorW34
import Derived.Test.YtopmjkkjlagfcaaGreatDoorW36
namespace Go.Proofs.YtopmjkkjlagfcaaGreatDoor
open Go.RowKit Vn
def addR (E P b m : Nat) (kx : Int) (nx : Bool) (qx : Rat) (ky : Int) (ny : Bool) (qy : Rat) (l : Int) : Nat × Nat :=
 if kx = 3 ∧ ky = 3 ∧ nx ≠ ny then (nanw E P, 1) else if kx = 3 then (infw E P nx, 0) else if ky = 3 then (infw E P ny, 0)
 else if qx + qy ≠ 0 then roundR E P b m (qx + qy) l else if kx = 1 ∧ nx = ny then (sgb E P nx, 0) else (sgb E P (decide (m = 4)), 0)
set_option maxRecDepth 100000 in
set_option maxHeartbeats 8000000 in
theorem madd_c (E P b m : Nat) (x y : Value) (kx ky : Int) (nx ny : Bool) (qx qy : Rat) (l : Int) (K : Nat) (w : World) (hF : Fmt E P) (hm : m ≤ 4) (hb : b = bias E) (hx : OpV w x kx nx qx) (hy : OpV w y ky ny qy) (sx : SmQ K qx) (sy : SmQ K qy) (hK : K ≤ 5000) (hl : qx + qy ≠ 0 → IsLog (absQ (qx + qy)) l) (hT : Tabs w) :
  Calls Tryz.prog 94 #[.agg #[.int .i64 E, .int .i64 P, .int .i64 m, .int .i64 b], x, y] w fun e w' => EndPost (addR E P b m kx nx qx ky ny qy l) w e w' := by
 obtain ⟨ng, a, n, c, a', n', c', rfl, hvx⟩ := hx
 obtain ⟨mg, d, k, e, d', k', e', rfl, hvy⟩ := hy
 have ss : SmQ (2 * K + 1) (qx + qy) := (sx.add sy).mono (by omega)
 have SX := hid sx; have SY := hid sy; have SS := hid ss; have HK := hid hK; have HL := hid hl; have HT := hid hT; have HF := hid hF; have HM := hid hm; have HB := hid hb
 have HX := hid hvx; have HY := hid hvy
 clear sx sy ss hK hl hT hF hm hb hvx hvy
 obtain ⟨W0, hW0, g0, hz0, B_M, B_X, B_Y, B_Z⟩ := pro4s w #[.int .i64 E, .int .i64 P, .int .i64 m, .int .i64 b] #[.int .i64 kx, .bool nx, .bool ng, .slice a n c, .slice a' n' c'] #[.int .i64 ky, .bool ny, .bool mg, .slice d k e, .slice d' k' e'] #[.int .u64 0, .int .u64 0] 81 112 112 29
 have HE := hid g0
 have HB_M := hid B_M
 have HB_X := hid B_X
 have HB_Y := hid B_Y
 have HB_Z := hid B_Z
 clear g0 B_M B_X B_Y B_Z 
 go_enter Tryz.func94, Tryz.ntmps94
 go_upto_region 1 with (fail)
 rw [← hW0]
 clear hW0
 by_cases hx3 : kx = 3
 ·subst hx3
  by_cases hy3 : ky = 3
  ·subst hy3
   cases nx <;> cases ny
   ·have HR : Hid (addR E P b m 3 false qx 3 false qy l = (infw E P false, 0)) := hid (by unfold addR; simp)
    obtain ⟨r0, r1, er⟩ := Word.shape (infw E P false)
    have Er := hid er
    clear er
    obtain ⟨c_1, c_2, c_3, c_4⟩ := HB_M.out.c4
    obtain ⟨c_5, c_6, c_7, c_8, c_9⟩ := HB_X.out.c5
    obtain ⟨c_10, c_11, c_12, c_13, c_14⟩ := HB_Y.out.c5
    obtain ⟨c_15, c_16⟩ := HB_Z.out.c2
    go_wp2_with fail
    clear c_1 c_2 c_3 c_4 c_5 c_6 c_7 c_8 c_9 c_10 c_11 c_12 c_13 c_14 c_15 c_16
    refine (infinite_c E P m b false _ HF.out).mono ?_
    rintro e w1 ⟨rfl, g1⟩
    have hz_w1 := g1.size
    replace HE := hid (HE.out.trans g1)
    replace HB_M := hid (HB_M.out.ext g1)
    replace HB_X := hid (HB_X.out.ext g1)
    replace HB_Y := hid (HB_Y.out.ext g1)
    replace HB_Z := hid (HB_Z.out.ext g1)
    rw [Er.out]
    obtain ⟨c_17, c_18, c_19, c_20⟩ := HB_M.out.c4
    obtain ⟨c_21, c_22, c_23, c_24, c_25⟩ := HB_X.out.c5
    obtain ⟨c_26, c_27, c_28, c_29, c_30⟩ := HB_Y.out.c5
    obtain ⟨c_31, c_32⟩ := HB_Z.out.c2
    obtain ⟨f_33, f_34⟩ := HB_Z.out.f2
    go_wp2_with fail
    clear c_17 c_18 c_19 c_20 c_21 c_22 c_23 c_24 c_25 c_26 c_27 c_28 c_29 c_30 c_31 c_32 f_33 f_34
    obtain ⟨W2, hW2, g2, q2, B2, hy2, ho2⟩ := sto2 HE.out (by omega) HB_Z.out (by decide) (.int .u64 r0) (.int .u64 r1)
    rw [← hW2]
    clear hW2
    replace HE := hid g2
    replace HB_M := hid (ho2 _ _ _ (by omega) HB_M.out)
    replace HB_X := hid (ho2 _ _ _ (by omega) HB_X.out)
    replace HB_Y := hid (ho2 _ _ _ (by omega) HB_Y.out)
    replace HB_Z := hid B2
    unfold EndPost
    rw [HR.out]
    obtain ⟨c_35, c_36⟩ := HB_Z.out.c2
    refine bodyPost_ret (v := .tuple #[.agg #[.int .u64 r0, .int .u64 r1], .int .i64 0]) (by simp [results, Tryz.results94, go_sem, c_35, c_36]) rfl ⟨by (show _ = Ending.returned (.tuple #[Word (infw E P false), .int .i64 0]); rw [Er.out]), HE.out⟩
   ·have HR : Hid (addR E P b m 3 false qx 3 true qy l = (nanw E P, 1)) := hid (by unfold addR; simp)
    obtain ⟨r0, r1, er⟩ := Word.shape (nanw E P)
    have Er := hid er
    clear er
    obtain ⟨c_1, c_2, c_3, c_4⟩ := HB_M.out.c4
    obtain ⟨c_5, c_6, c_7, c_8, c_9⟩ := HB_X.out.c5
    obtain ⟨c_10, c_11, c_12, c_13, c_14⟩ := HB_Y.out.c5
    obtain ⟨c_15, c_16⟩ := HB_Z.out.c2
    go_wp2_with fail
    clear c_1 c_2 c_3 c_4 c_5 c_6 c_7 c_8 c_9 c_10 c_11 c_12 c_13 c_14 c_15 c_16
    refine (invalid_c E P m b _ HF.out).mono ?_
    rintro e w1 ⟨rfl, g1⟩
    have hz_w1 := g1.size
    replace HE := hid (HE.out.trans g1)
    replace HB_M := hid (HB_M.out.ext g1)
    replace HB_X := hid (HB_X.out.ext g1)
    replace HB_Y := hid (HB_Y.out.ext g1)
    replace HB_Z := hid (HB_Z.out.ext g1)
    rw [Er.out]
    obtain ⟨c_17, c_18, c_19, c_20⟩ := HB_M.out.c4
    obtain ⟨c_21, c_22, c_23, c_24, c_25⟩ := HB_X.out.c5
    obtain ⟨c_26, c_27, c_28, c_29, c_30⟩ := HB_Y.out.c5
    obtain ⟨c_31, c_32⟩ := HB_Z.out.c2
    obtain ⟨f_33, f_34⟩ := HB_Z.out.f2
    go_wp2_with fail
    clear c_17 c_18 c_19 c_20 c_21 c_22 c_23 c_24 c_25 c_26 c_27 c_28 c_29 c_30 c_31 c_32 f_33 f_34
    obtain ⟨W2, hW2, g2, q2, B2, hy2, ho2⟩ := sto2 HE.out (by omega) HB_Z.out (by decide) (.int .u64 r0) (.int .u64 r1)
    rw [← hW2]
    clear hW2
    replace HE := hid g2
    replace HB_M := hid (ho2 _ _ _ (by omega) HB_M.out)
    replace HB_X := hid (ho2 _ _ _ (by omega) HB_X.out)
    replace HB_Y := hid (ho2 _ _ _ (by omega) HB_Y.out)
    replace HB_Z := hid B2
    unfold EndPost
    rw [HR.out]
    obtain ⟨c_35, c_36⟩ := HB_Z.out.c2
    refine bodyPost_ret (v := .tuple #[.agg #[.int .u64 r0, .int .u64 r1], .int .i64 1]) (by simp [results, Tryz.results94, go_sem, c_35, c_36]) rfl ⟨by (show _ = Ending.returned (.tuple #[Word (nanw E P), .int .i64 1]); rw [Er.out]), HE.out⟩
   ·have HR : Hid (addR E P b m 3 true qx 3 false qy l = (nanw E P, 1)) := hid (by unfold addR; simp)
    obtain ⟨r0, r1, er⟩ := Word.shape (nanw E P)
    have Er := hid er
    clear er
    obtain ⟨c_1, c_2, c_3, c_4⟩ := HB_M.out.c4
    obtain ⟨c_5, c_6, c_7, c_8, c_9⟩ := HB_X.out.c5
    obtain ⟨c_10, c_11, c_12, c_13, c_14⟩ := HB_Y.out.c5
    obtain ⟨c_15, c_16⟩ := HB_Z.out.c2
    go_wp2_with fail
    clear c_1 c_2 c_3 c_4 c_5 c_6 c_7 c_8 c_9 c_10 c_11 c_12 c_13 c_14 c_15 c_16
    refine (invalid_c E P m b _ HF.out).mono ?_
    rintro e w1 ⟨rfl, g1⟩
    have hz_w1 := g1.size
    replace HE := hid (HE.out.trans g1)
    replace HB_M := hid (HB_M.out.ext g1)
    replace HB_X := hid (HB_X.out.ext g1)
    replace HB_Y := hid (HB_Y.out.ext g1)
    replace HB_Z := hid (HB_Z.out.ext g1)
    rw [Er.out]
    obtain ⟨c_17, c_18, c_19, c_20⟩ := HB_M.out.c4
    obtain ⟨c_21, c_22, c_23, c_24, c_25⟩ := HB_X.out.c5
    obtain ⟨c_26, c_27, c_28, c_29, c_30⟩ := HB_Y.out.c5
    obtain ⟨c_31, c_32⟩ := HB_Z.out.c2
    obtain ⟨f_33, f_34⟩ := HB_Z.out.f2
    go_wp2_with fail
    clear c_17 c_18 c_19 c_20 c_21 c_22 c_23 c_24 c_25 c_26 c_27 c_28 c_29 c_30 c_31 c_32 f_33 f_34
    obtain ⟨W2, hW2, g2, q2, B2, hy2, ho2⟩ := sto2 HE.out (by omega) HB_Z.out (by decide) (.int .u64 r0) (.int .u64 r1)
    rw [← hW2]
    clear hW2
    replace HE := hid g2
    replace HB_M := hid (ho2 _ _ _ (by omega) HB_M.out)
    replace HB_X := hid (ho2 _ _ _ (by omega) HB_X.out)
    replace HB_Y := hid (ho2 _ _ _ (by omega) HB_Y.out)
    replace HB_Z := hid B2
    unfold EndPost
    rw [HR.out]
    obtain ⟨c_35, c_36⟩ := HB_Z.out.c2
    refine bodyPost_ret (v := .tuple #[.agg #[.int .u64 r0, .int .u64 r1], .int .i64 1]) (by simp [results, Tryz.results94, go_sem, c_35, c_36]) rfl ⟨by (show _ = Ending.returned (.tuple #[Word (nanw E P), .int .i64 1]); rw [Er.out]), HE.out⟩
   ·have HR : Hid (addR E P b m 3 true qx 3 true qy l = (infw E P true, 0)) := hid (by unfold addR; simp)
    obtain ⟨r0, r1, er⟩ := Word.shape (infw E P true)
    have Er := hid er
    clear er
    obtain ⟨c_1, c_2, c_3, c_4⟩ := HB_M.out.c4
    obtain ⟨c_5, c_6, c_7, c_8, c_9⟩ := HB_X.out.c5
    obtain ⟨c_10, c_11, c_12, c_13, c_14⟩ := HB_Y.out.c5
    obtain ⟨c_15, c_16⟩ := HB_Z.out.c2
    go_wp2_with fail
    clear c_1 c_2 c_3 c_4 c_5 c_6 c_7 c_8 c_9 c_10 c_11 c_12 c_13 c_14 c_15 c_16
    refine (infinite_c E P m b true _ HF.out).mono ?_
    rintro e w1 ⟨rfl, g1⟩
    have hz_w1 := g1.size
    replace HE := hid (HE.out.trans g1)
    replace HB_M := hid (HB_M.out.ext g1)
    replace HB_X := hid (HB_X.out.ext g1)
    replace HB_Y := hid (HB_Y.out.ext g1)
    replace HB_Z := hid (HB_Z.out.ext g1)
    rw [Er.out]
    obtain ⟨c_17, c_18, c_19, c_20⟩ := HB_M.out.c4
    obtain ⟨c_21, c_22, c_23, c_24, c_25⟩ := HB_X.out.c5
    obtain ⟨c_26, c_27, c_28, c_29, c_30⟩ := HB_Y.out.c5
    obtain ⟨c_31, c_32⟩ := HB_Z.out.c2
    obtain ⟨f_33, f_34⟩ := HB_Z.out.f2
    go_wp2_with fail
    clear c_17 c_18 c_19 c_20 c_21 c_22 c_23 c_24 c_25 c_26 c_27 c_28 c_29 c_30 c_31 c_32 f_33 f_34
    obtain ⟨W2, hW2, g2, q2, B2, hy2, ho2⟩ := sto2 HE.out (by omega) HB_Z.out (by decide) (.int .u64 r0) (.int .u64 r1)
    rw [← hW2]
    clear hW2
    replace HE := hid g2
    replace HB_M := hid (ho2 _ _ _ (by omega) HB_M.out)
    replace HB_X := hid (ho2 _ _ _ (by omega) HB_X.out)
    replace HB_Y := hid (ho2 _ _ _ (by omega) HB_Y.out)
    replace HB_Z := hid B2
    unfold EndPost
    rw [HR.out]
    obtain ⟨c_35, c_36⟩ := HB_Z.out.c2
    refine bodyPost_ret (v := .tuple #[.agg #[.int .u64 r0, .int .u64 r1], .int .i64 0]) (by simp [results, Tryz.results94, go_sem, c_35, c_36]) rfl ⟨by (show _ = Ending.returned (.tuple #[Word (infw E P true), .int .i64 0]); rw [Er.out]), HE.out⟩
  ·have hk : (ky == 3) = false := beq_eq_false_iff_ne.2 hy3
   have HR : Hid (addR E P b m 3 nx qx ky ny qy l = (infw E P nx, 0)) := hid (by unfold addR; rw [if_neg (fun h => hy3 h.2.1), if_pos rfl])
   obtain ⟨r0, r1, er⟩ := Word.shape (infw E P nx)
   have Er := hid er
   clear er hy3
   obtain ⟨c_1, c_2, c_3, c_4⟩ := HB_M.out.c4
   obtain ⟨c_5, c_6, c_7, c_8, c_9⟩ := HB_X.out.c5
   obtain ⟨c_10, c_11, c_12, c_13, c_14⟩ := HB_Y.out.c5
   obtain ⟨c_15, c_16⟩ := HB_Z.out.c2
   go_wp2_with fail
   clear c_1 c_2 c_3 c_4 c_5 c_6 c_7 c_8 c_9 c_10 c_11 c_12 c_13 c_14 c_15 c_16
   refine (infinite_c E P m b nx _ HF.out).mono ?_
   rintro e w1 ⟨rfl, g1⟩
   have hz_w1 := g1.size
   replace HE := hid (HE.out.trans g1)
   replace HB_M := hid (HB_M.out.ext g1)
   replace HB_X := hid (HB_X.out.ext g1)
   replace HB_Y := hid (HB_Y.out.ext g1)
   replace HB_Z := hid (HB_Z.out.ext g1)
   rw [Er.out]
   obtain ⟨c_17, c_18, c_19, c_20⟩ := HB_M.out.c4
   obtain ⟨c_21, c_22, c_23, c_24, c_25⟩ := HB_X.out.c5
   obtain ⟨c_26, c_27, c_28, c_29, c_30⟩ := HB_Y.out.c5
   obtain ⟨c_31, c_32⟩ := HB_Z.out.c2
   obtain ⟨f_33, f_34⟩ := HB_Z.out.f2
   go_wp2_with fail
   clear c_17 c_18 c_19 c_20 c_21 c_22 c_23 c_24 c_25 c_26 c_27 c_28 c_29 c_30 c_31 c_32 f_33 f_34
   obtain ⟨W2, hW2, g2, q2, B2, hy2, ho2⟩ := sto2 HE.out (by omega) HB_Z.out (by decide) (.int .u64 r0) (.int .u64 r1)
   rw [← hW2]
   clear hW2
   replace HE := hid g2
   replace HB_M := hid (ho2 _ _ _ (by omega) HB_M.out)
   replace HB_X := hid (ho2 _ _ _ (by omega) HB_X.out)
   replace HB_Y := hid (ho2 _ _ _ (by omega) HB_Y.out)
   replace HB_Z := hid B2
   unfold EndPost
   rw [HR.out]
   obtain ⟨c_35, c_36⟩ := HB_Z.out.c2
   refine bodyPost_ret (v := .tuple #[.agg #[.int .u64 r0, .int .u64 r1], .int .i64 0]) (by simp [results, Tryz.results94, go_sem, c_35, c_36]) rfl ⟨by (show _ = Ending.returned (.tuple #[Word (infw E P nx), .int .i64 0]); rw [Er.out]), HE.out⟩
 ·have hk : (kx == 3) = false := beq_eq_false_iff_ne.2 hx3
  by_cases hy3 : ky = 3
  ·subst hy3
   have HR : Hid (addR E P b m kx nx qx 3 ny qy l = (infw E P ny, 0)) := hid (by unfold addR; rw [if_neg (fun h => hx3 h.1), if_neg hx3, if_pos rfl])
   obtain ⟨r0, r1, er⟩ := Word.shape (infw E P ny)
   have Er := hid er
   clear er hx3
   obtain ⟨c_1, c_2, c_3, c_4⟩ := HB_M.out.c4
   obtain ⟨c_5, c_6, c_7, c_8, c_9⟩ := HB_X.out.c5
   obtain ⟨c_10, c_11, c_12, c_13, c_14⟩ := HB_Y.out.c5
   obtain ⟨c_15, c_16⟩ := HB_Z.out.c2
   go_wp2_with fail
   clear c_1 c_2 c_3 c_4 c_5 c_6 c_7 c_8 c_9 c_10 c_11 c_12 c_13 c_14 c_15 c_16
   refine (infinite_c E P m b ny _ HF.out).mono ?_
   rintro e w1 ⟨rfl, g1⟩
   have hz_w1 := g1.size
   replace HE := hid (HE.out.trans g1)
   replace HB_M := hid (HB_M.out.ext g1)
   replace HB_X := hid (HB_X.out.ext g1)
   replace HB_Y := hid (HB_Y.out.ext g1)
   replace HB_Z := hid (HB_Z.out.ext g1)
   rw [Er.out]
   obtain ⟨c_17, c_18, c_19, c_20⟩ := HB_M.out.c4
   obtain ⟨c_21, c_22, c_23, c_24, c_25⟩ := HB_X.out.c5
   obtain ⟨c_26, c_27, c_28, c_29, c_30⟩ := HB_Y.out.c5
   obtain ⟨c_31, c_32⟩ := HB_Z.out.c2
   obtain ⟨f_33, f_34⟩ := HB_Z.out.f2
   go_wp2_with fail
   clear c_17 c_18 c_19 c_20 c_21 c_22 c_23 c_24 c_25 c_26 c_27 c_28 c_29 c_30 c_31 c_32 f_33 f_34
   obtain ⟨W2, hW2, g2, q2, B2, hy2, ho2⟩ := sto2 HE.out (by omega) HB_Z.out (by decide) (.int .u64 r0) (.int .u64 r1)
   rw [← hW2]
   clear hW2
   replace HE := hid g2
   replace HB_M := hid (ho2 _ _ _ (by omega) HB_M.out)
   replace HB_X := hid (ho2 _ _ _ (by omega) HB_X.out)
   replace HB_Y := hid (ho2 _ _ _ (by omega) HB_Y.out)
   replace HB_Z := hid B2
   unfold EndPost
   rw [HR.out]
   obtain ⟨c_35, c_36⟩ := HB_Z.out.c2
   refine bodyPost_ret (v := .tuple #[.agg #[.int .u64 r0, .int .u64 r1], .int .i64 0]) (by simp [results, Tryz.results94, go_sem, c_35, c_36]) rfl ⟨by (show _ = Ending.returned (.tuple #[Word (infw E P ny), .int .i64 0]); rw [Er.out]), HE.out⟩
  ·have hk2 : (ky == 3) = false := beq_eq_false_iff_ne.2 hy3
   have HR0 : Hid (addR E P b m kx nx qx ky ny qy l = if qx + qy ≠ 0 then roundR E P b m (qx + qy) l else if kx = 1 ∧ nx = ny then (sgb E P nx, 0) else (sgb E P (decide (m = 4)), 0)) := hid (by unfold addR; rw [if_neg (fun h => hx3 h.1), if_neg hx3, if_neg hy3])
   clear hx3 hy3
   have hvx := HX.out.ext HE.out
   have hvy := HY.out.ext HE.out
   obtain ⟨c_1, c_2, c_3, c_4⟩ := HB_M.out.c4
   obtain ⟨c_5, c_6, c_7, c_8, c_9⟩ := HB_X.out.c5
   obtain ⟨c_10, c_11, c_12, c_13, c_14⟩ := HB_Y.out.c5
   obtain ⟨c_15, c_16⟩ := HB_Z.out.c2
   go_wp2_with fail
   clear c_1 c_2 c_3 c_4 c_5 c_6 c_7 c_8 c_9 c_10 c_11 c_12 c_13 c_14 c_15 c_16
   refine (Add_c _ _ qx qy K _ hvx hvy SX.out SY.out (by have := HK.out; omega)).mono ?_
   rintro e w1 ⟨v1, rfl, k1, g1⟩
   have hz_w1 := g1.size
   replace HE := hid (HE.out.trans g1)
   replace HB_M := hid (HB_M.out.ext g1)
   replace HB_X := hid (HB_X.out.ext g1)
   replace HB_Y := hid (HB_Y.out.ext g1)
   replace HB_Z := hid (HB_Z.out.ext g1)
   obtain ⟨ngq17, aq17, nq17, cq17, aq17', nq17', cq17', rfl⟩ := k1.shape
   have gA := Ext.alloc w1 (.cells #[.bool ngq17, .slice aq17 nq17 cq17, .slice aq17' nq17' cq17'] 40)
   obtain ⟨c_18, c_19, c_20, c_21⟩ := (HB_M.out.ext gA).c4
   obtain ⟨c_22, c_23, c_24, c_25, c_26⟩ := (HB_X.out.ext gA).c5
   obtain ⟨c_27, c_28, c_29, c_30, c_31⟩ := (HB_Y.out.ext gA).c5
   obtain ⟨c_32, c_33⟩ := (HB_Z.out.ext gA).c2
   go_wp2_with fail
   clear gA c_18 c_19 c_20 c_21 c_22 c_23 c_24 c_25 c_26 c_27 c_28 c_29 c_30 c_31 c_32 c_33
   obtain ⟨W2, hW2, g2, hy2, B_S⟩ := pro1 w1 #[.bool ngq17, .slice aq17 nq17 cq17, .slice aq17' nq17' cq17'] 40
   rw [← hW2]
   clear hW2
   have hz_W2 := g2.size
   replace HE := hid (HE.out.trans g2)
   replace HB_M := hid (HB_M.out.ext g2)
   replace HB_X := hid (HB_X.out.ext g2)
   replace HB_Y := hid (HB_Y.out.ext g2)
   replace HB_Z := hid (HB_Z.out.ext g2)
   replace k1 := k1.ext g2
   have HB_S := hid B_S
   clear B_S
   by_cases hs : (qx + qy).num = 0
   ·have h0 : qx + qy = 0 := Rat.num_eq_zero.1 hs
    have HR1 : Hid (addR E P b m kx nx qx ky ny qy l = if kx = 1 ∧ nx = ny then (sgb E P nx, 0) else (sgb E P (decide (m = 4)), 0)) := hid (by rw [HR0.out, if_neg (fun h => h h0)])
    have Hs : Hid ((qx + qy).num.sign = 0) := hid (by rw [hs]; rfl)
    clear hs h0
    refine (sign_c _ _ _ k1).mono ?_
    rintro e w3 ⟨rfl, g3⟩
    have hz_w3 := g3.size
    replace HE := hid (HE.out.trans g3)
    replace HB_M := hid (HB_M.out.ext g3)
    replace HB_X := hid (HB_X.out.ext g3)
    replace HB_Y := hid (HB_Y.out.ext g3)
    replace HB_Z := hid (HB_Z.out.ext g3)
    replace HB_S := hid (HB_S.out.ext g3)
    replace k1 := k1.ext g3
    rw [Hs.out]
    by_cases hx1 : kx = 1
    ·subst hx1
     cases nx <;> cases ny
     ·have HR : Hid (addR E P b m 1 false qx ky false qy l = (sgb E P false, 0)) := hid (by rw [HR1.out]; simp)
      obtain ⟨r0, r1, er⟩ := Word.shape (sgb E P false)
      have Er := hid er
      clear er
      obtain ⟨c_34, c_35, c_36, c_37⟩ := HB_M.out.c4
      obtain ⟨c_38, c_39, c_40, c_41, c_42⟩ := HB_X.out.c5
      obtain ⟨c_43, c_44, c_45, c_46, c_47⟩ := HB_Y.out.c5
      obtain ⟨c_48, c_49⟩ := HB_Z.out.c2
      obtain ⟨c_50, c_51, c_52⟩ := HB_S.out.c3
      go_wp2_with fail
      clear c_34 c_35 c_36 c_37 c_38 c_39 c_40 c_41 c_42 c_43 c_44 c_45 c_46 c_47 c_48 c_49 c_50 c_51 c_52
      refine (zero_c E P m b false _ HF.out).mono ?_
      rintro e w4 ⟨rfl, g4⟩
      have hz_w4 := g4.size
      replace HE := hid (HE.out.trans g4)
      replace HB_M := hid (HB_M.out.ext g4)
      replace HB_X := hid (HB_X.out.ext g4)
      replace HB_Y := hid (HB_Y.out.ext g4)
      replace HB_Z := hid (HB_Z.out.ext g4)
      replace HB_S := hid (HB_S.out.ext g4)
      replace k1 := k1.ext g4
      rw [Er.out]
      obtain ⟨c_53, c_54, c_55, c_56⟩ := HB_M.out.c4
      obtain ⟨c_57, c_58, c_59, c_60, c_61⟩ := HB_X.out.c5
      obtain ⟨c_62, c_63, c_64, c_65, c_66⟩ := HB_Y.out.c5
      obtain ⟨c_67, c_68⟩ := HB_Z.out.c2
      obtain ⟨c_69, c_70, c_71⟩ := HB_S.out.c3
      obtain ⟨f_72, f_73⟩ := HB_Z.out.f2
      go_wp2_with fail
      clear c_53 c_54 c_55 c_56 c_57 c_58 c_59 c_60 c_61 c_62 c_63 c_64 c_65 c_66 c_67 c_68 c_69 c_70 c_71 f_72 f_73
      obtain ⟨W5, hW5, g5, q5, B5, hy5, ho5⟩ := sto2 HE.out (by omega) HB_Z.out (by decide) (.int .u64 r0) (.int .u64 r1)
      rw [← hW5]
      clear hW5
      replace HE := hid g5
      replace HB_M := hid (ho5 _ _ _ (by omega) HB_M.out)
      replace HB_X := hid (ho5 _ _ _ (by omega) HB_X.out)
      replace HB_Y := hid (ho5 _ _ _ (by omega) HB_Y.out)
      replace HB_S := hid (ho5 _ _ _ (by omega) HB_S.out)
      replace HB_Z := hid B5
      replace k1 := k1.keep q5
      unfold EndPost
      rw [HR.out]
      obtain ⟨c_74, c_75⟩ := HB_Z.out.c2
      refine bodyPost_ret (v := .tuple #[.agg #[.int .u64 r0, .int .u64 r1], .int .i64 0]) (by simp [results, Tryz.results94, go_sem, c_74, c_75]) rfl ⟨by (show _ = Ending.returned (.tuple #[Word (sgb E P false), .int .i64 0]); rw [Er.out]), HE.out⟩
     ·have HR : Hid (addR E P b m 1 false qx ky true qy l = (sgb E P (decide (m = 4)), 0)) := hid (by rw [HR1.out]; simp)
      obtain ⟨r0, r1, er⟩ := Word.shape (sgb E P (decide (m = 4)))
      have Er := hid er
      clear er
      have hm4 : ((m : Int) == 4) = decide (m = 4) := by by_cases h : m = 4 <;> simp [h] <;> omega
      have zm : Hid (∀ w, _) := hid fun w => zero_c E P m b (decide (m = 4)) w HF.out
      obtain ⟨c_34, c_35, c_36, c_37⟩ := HB_M.out.c4
      obtain ⟨c_38, c_39, c_40, c_41, c_42⟩ := HB_X.out.c5
      obtain ⟨c_43, c_44, c_45, c_46, c_47⟩ := HB_Y.out.c5
      obtain ⟨c_48, c_49⟩ := HB_Z.out.c2
      obtain ⟨c_50, c_51, c_52⟩ := HB_S.out.c3
      go_wp2_with fail
      clear c_34 c_35 c_36 c_37 c_38 c_39 c_40 c_41 c_42 c_43 c_44 c_45 c_46 c_47 c_48 c_49 c_50 c_51 c_52
      refine (zm.out _).mono ?_
      rintro e w4 ⟨rfl, g4⟩
      have hz_w4 := g4.size
      replace HE := hid (HE.out.trans g4)
      replace HB_M := hid (HB_M.out.ext g4)
      replace HB_X := hid (HB_X.out.ext g4)
      replace HB_Y := hid (HB_Y.out.ext g4)
      replace HB_Z := hid (HB_Z.out.ext g4)
      replace HB_S := hid (HB_S.out.ext g4)
      replace k1 := k1.ext g4
      rw [Er.out]
      obtain ⟨c_53, c_54, c_55, c_56⟩ := HB_M.out.c4
      obtain ⟨c_57, c_58, c_59, c_60, c_61⟩ := HB_X.out.c5
      obtain ⟨c_62, c_63, c_64, c_65, c_66⟩ := HB_Y.out.c5
      obtain ⟨c_67, c_68⟩ := HB_Z.out.c2
      obtain ⟨c_69, c_70, c_71⟩ := HB_S.out.c3
      obtain ⟨f_72, f_73⟩ := HB_Z.out.f2
      go_wp2_with fail
      clear c_53 c_54 c_55 c_56 c_57 c_58 c_59 c_60 c_61 c_62 c_63 c_64 c_65 c_66 c_67 c_68 c_69 c_70 c_71 f_72 f_73
      obtain ⟨W5, hW5, g5, q5, B5, hy5, ho5⟩ := sto2 HE.out (by omega) HB_Z.out (by decide) (.int .u64 r0) (.int .u64 r1)
      rw [← hW5]
      clear hW5
      replace HE := hid g5
      replace HB_M := hid (ho5 _ _ _ (by omega) HB_M.out)
      replace HB_X := hid (ho5 _ _ _ (by omega) HB_X.out)
      replace HB_Y := hid (ho5 _ _ _ (by omega) HB_Y.out)
      replace HB_S := hid (ho5 _ _ _ (by omega) HB_S.out)
      replace HB_Z := hid B5
      replace k1 := k1.keep q5
      unfold EndPost
      rw [HR.out]
      obtain ⟨c_74, c_75⟩ := HB_Z.out.c2
      refine bodyPost_ret (v := .tuple #[.agg #[.int .u64 r0, .int .u64 r1], .int .i64 0]) (by simp [results, Tryz.results94, go_sem, c_74, c_75]) rfl ⟨by (show _ = Ending.returned (.tuple #[Word (sgb E P (decide (m = 4))), .int .i64 0]); rw [Er.out]), HE.out⟩
     ·have HR : Hid (addR E P b m 1 true qx ky false qy l = (sgb E P (decide (m = 4)), 0)) := hid (by rw [HR1.out]; simp)
      obtain ⟨r0, r1, er⟩ := Word.shape (sgb E P (decide (m = 4)))
      have Er := hid er
      clear er
      have hm4 : ((m : Int) == 4) = decide (m = 4) := by by_cases h : m = 4 <;> simp [h] <;> omega
      have zm : Hid (∀ w, _) := hid fun w => zero_c E P m b (decide (m = 4)) w HF.out
      obtain ⟨c_34, c_35, c_36, c_37⟩ := HB_M.out.c4
      obtain ⟨c_38, c_39, c_40, c_41, c_42⟩ := HB_X.out.c5
      obtain ⟨c_43, c_44, c_45, c_46, c_47⟩ := HB_Y.out.c5
      obtain ⟨c_48, c_49⟩ := HB_Z.out.c2
      obtain ⟨c_50, c_51, c_52⟩ := HB_S.out.c3
      go_wp2_with fail
      clear c_34 c_35 c_36 c_37 c_38 c_39 c_40 c_41 c_42 c_43 c_44 c_45 c_46 c_47 c_48 c_49 c_50 c_51 c_52
      refine (zm.out _).mono ?_
      rintro e w4 ⟨rfl, g4⟩
      have hz_w4 := g4.size
      replace HE := hid (HE.out.trans g4)
      replace HB_M := hid (HB_M.out.ext g4)
      replace HB_X := hid (HB_X.out.ext g4)
      replace HB_Y := hid (HB_Y.out.ext g4)
      replace HB_Z := hid (HB_Z.out.ext g4)
      replace HB_S := hid (HB_S.out.ext g4)
      replace k1 := k1.ext g4
      rw [Er.out]
      obtain ⟨c_53, c_54, c_55, c_56⟩ := HB_M.out.c4
      obtain ⟨c_57, c_58, c_59, c_60, c_61⟩ := HB_X.out.c5
      obtain ⟨c_62, c_63, c_64, c_65, c_66⟩ := HB_Y.out.c5
      obtain ⟨c_67, c_68⟩ := HB_Z.out.c2
      obtain ⟨c_69, c_70, c_71⟩ := HB_S.out.c3
      obtain ⟨f_72, f_73⟩ := HB_Z.out.f2
      go_wp2_with fail
      clear c_53 c_54 c_55 c_56 c_57 c_58 c_59 c_60 c_61 c_62 c_63 c_64 c_65 c_66 c_67 c_68 c_69 c_70 c_71 f_72 f_73
      obtain ⟨W5, hW5, g5, q5, B5, hy5, ho5⟩ := sto2 HE.out (by omega) HB_Z.out (by decide) (.int .u64 r0) (.int .u64 r1)
      rw [← hW5]
      clear hW5
      replace HE := hid g5
      replace HB_M := hid (ho5 _ _ _ (by omega) HB_M.out)
      replace HB_X := hid (ho5 _ _ _ (by omega) HB_X.out)
      replace HB_Y := hid (ho5 _ _ _ (by omega) HB_Y.out)
      replace HB_S := hid (ho5 _ _ _ (by omega) HB_S.out)
      replace HB_Z := hid B5
      replace k1 := k1.keep q5
      unfold EndPost
      rw [HR.out]
      obtain ⟨c_74, c_75⟩ := HB_Z.out.c2
      refine bodyPost_ret (v := .tuple #[.agg #[.int .u64 r0, .int .u64 r1], .int .i64 0]) (by simp [results, Tryz.results94, go_sem, c_74, c_75]) rfl ⟨by (show _ = Ending.returned (.tuple #[Word (sgb E P (decide (m = 4))), .int .i64 0]); rw [Er.out]), HE.out⟩
     ·have HR : Hid (addR E P b m 1 true qx ky true qy l = (sgb E P true, 0)) := hid (by rw [HR1.out]; simp)
      obtain ⟨r0, r1, er⟩ := Word.shape (sgb E P true)
      have Er := hid er
      clear er
      obtain ⟨c_34, c_35, c_36, c_37⟩ := HB_M.out.c4
      obtain ⟨c_38, c_39, c_40, c_41, c_42⟩ := HB_X.out.c5
      obtain ⟨c_43, c_44, c_45, c_46, c_47⟩ := HB_Y.out.c5
      obtain ⟨c_48, c_49⟩ := HB_Z.out.c2
      obtain ⟨c_50, c_51, c_52⟩ := HB_S.out.c3
      go_wp2_with fail
      clear c_34 c_35 c_36 c_37 c_38 c_39 c_40 c_41 c_42 c_43 c_44 c_45 c_46 c_47 c_48 c_49 c_50 c_51 c_52
      refine (zero_c E P m b true _ HF.out).mono ?_
      rintro e w4 ⟨rfl, g4⟩
      have hz_w4 := g4.size
      replace HE := hid (HE.out.trans g4)
      replace HB_M := hid (HB_M.out.ext g4)
      replace HB_X := hid (HB_X.out.ext g4)
      replace HB_Y := hid (HB_Y.out.ext g4)
      replace HB_Z := hid (HB_Z.out.ext g4)
      replace HB_S := hid (HB_S.out.ext g4)
      replace k1 := k1.ext g4
      rw [Er.out]
      obtain ⟨c_53, c_54, c_55, c_56⟩ := HB_M.out.c4
      obtain ⟨c_57, c_58, c_59, c_60, c_61⟩ := HB_X.out.c5
      obtain ⟨c_62, c_63, c_64, c_65, c_66⟩ := HB_Y.out.c5
      obtain ⟨c_67, c_68⟩ := HB_Z.out.c2
      obtain ⟨c_69, c_70, c_71⟩ := HB_S.out.c3
      obtain ⟨f_72, f_73⟩ := HB_Z.out.f2
      go_wp2_with fail
      clear c_53 c_54 c_55 c_56 c_57 c_58 c_59 c_60 c_61 c_62 c_63 c_64 c_65 c_66 c_67 c_68 c_69 c_70 c_71 f_72 f_73
      obtain ⟨W5, hW5, g5, q5, B5, hy5, ho5⟩ := sto2 HE.out (by omega) HB_Z.out (by decide) (.int .u64 r0) (.int .u64 r1)
      rw [← hW5]
      clear hW5
      replace HE := hid g5
      replace HB_M := hid (ho5 _ _ _ (by omega) HB_M.out)
      replace HB_X := hid (ho5 _ _ _ (by omega) HB_X.out)
      replace HB_Y := hid (ho5 _ _ _ (by omega) HB_Y.out)
      replace HB_S := hid (ho5 _ _ _ (by omega) HB_S.out)
      replace HB_Z := hid B5
      replace k1 := k1.keep q5
      unfold EndPost
      rw [HR.out]
      obtain ⟨c_74, c_75⟩ := HB_Z.out.c2
      refine bodyPost_ret (v := .tuple #[.agg #[.int .u64 r0, .int .u64 r1], .int .i64 0]) (by simp [results, Tryz.results94, go_sem, c_74, c_75]) rfl ⟨by (show _ = Ending.returned (.tuple #[Word (sgb E P true), .int .i64 0]); rw [Er.out]), HE.out⟩
    ·have hk1 : (kx == 1) = false := beq_eq_false_iff_ne.2 hx1
     have HR : Hid (addR E P b m kx nx qx ky ny qy l = (sgb E P (decide (m = 4)), 0)) := hid (by rw [HR1.out, if_neg (fun h => hx1 h.1)])
     obtain ⟨r0, r1, er⟩ := Word.shape (sgb E P (decide (m = 4)))
     have Er := hid er
     have hm4 : ((m : Int) == 4) = decide (m = 4) := by by_cases h : m = 4 <;> simp [h] <;> omega
     have zm : Hid (∀ w, _) := hid fun w => zero_c E P m b (decide (m = 4)) w HF.out
     clear er hx1
     obtain ⟨c_34, c_35, c_36, c_37⟩ := HB_M.out.c4
     obtain ⟨c_38, c_39, c_40, c_41, c_42⟩ := HB_X.out.c5
     obtain ⟨c_43, c_44, c_45, c_46, c_47⟩ := HB_Y.out.c5
     obtain ⟨c_48, c_49⟩ := HB_Z.out.c2
     obtain ⟨c_50, c_51, c_52⟩ := HB_S.out.c3
     go_wp2_with fail
     clear c_34 c_35 c_36 c_37 c_38 c_39 c_40 c_41 c_42 c_43 c_44 c_45 c_46 c_47 c_48 c_49 c_50 c_51 c_52
     refine (zm.out _).mono ?_
     rintro e w4 ⟨rfl, g4⟩
     have hz_w4 := g4.size
     replace HE := hid (HE.out.trans g4)
     replace HB_M := hid (HB_M.out.ext g4)
     replace HB_X := hid (HB_X.out.ext g4)
     replace HB_Y := hid (HB_Y.out.ext g4)
     replace HB_Z := hid (HB_Z.out.ext g4)
     replace HB_S := hid (HB_S.out.ext g4)
     replace k1 := k1.ext g4
     rw [Er.out]
     obtain ⟨c_53, c_54, c_55, c_56⟩ := HB_M.out.c4
     obtain ⟨c_57, c_58, c_59, c_60, c_61⟩ := HB_X.out.c5
     obtain ⟨c_62, c_63, c_64, c_65, c_66⟩ := HB_Y.out.c5
     obtain ⟨c_67, c_68⟩ := HB_Z.out.c2
     obtain ⟨c_69, c_70, c_71⟩ := HB_S.out.c3
     obtain ⟨f_72, f_73⟩ := HB_Z.out.f2
     go_wp2_with fail
     clear c_53 c_54 c_55 c_56 c_57 c_58 c_59 c_60 c_61 c_62 c_63 c_64 c_65 c_66 c_67 c_68 c_69 c_70 c_71 f_72 f_73
     obtain ⟨W5, hW5, g5, q5, B5, hy5, ho5⟩ := sto2 HE.out (by omega) HB_Z.out (by decide) (.int .u64 r0) (.int .u64 r1)
     rw [← hW5]
     clear hW5
     replace HE := hid g5
     replace HB_M := hid (ho5 _ _ _ (by omega) HB_M.out)
     replace HB_X := hid (ho5 _ _ _ (by omega) HB_X.out)
     replace HB_Y := hid (ho5 _ _ _ (by omega) HB_Y.out)
     replace HB_S := hid (ho5 _ _ _ (by omega) HB_S.out)
     replace HB_Z := hid B5
     replace k1 := k1.keep q5
     unfold EndPost
     rw [HR.out]
     obtain ⟨c_74, c_75⟩ := HB_Z.out.c2
     refine bodyPost_ret (v := .tuple #[.agg #[.int .u64 r0, .int .u64 r1], .int .i64 0]) (by simp [results, Tryz.results94, go_sem, c_74, c_75]) rfl ⟨by (show _ = Ending.returned (.tuple #[Word (sgb E P (decide (m = 4))), .int .i64 0]); rw [Er.out]), HE.out⟩
   ·have h0 : qx + qy ≠ 0 := fun h => hs (by rw [h]; rfl)
    have HR : Hid (addR E P b m kx nx qx ky ny qy l = roundR E P b m (qx + qy) l) := hid (by rw [HR0.out, if_pos h0])
    have HS : Hid ((qx + qy).num ≠ 0) := hid hs
    have hs0 : ((qx + qy).num.sign == 0) = false := beq_eq_false_iff_ne.2 (fun h => hs (Int.sign_eq_zero_iff_zero.1 h))
    have HL2 := hid (HL.out h0)
    obtain ⟨r0, r1, er⟩ := Word.shape (roundR E P b m (qx + qy) l).1
    have Er := hid er
    clear er hs h0
    refine (sign_c _ _ _ k1).mono ?_
    rintro e w3 ⟨rfl, g3⟩
    have hz_w3 := g3.size
    replace HE := hid (HE.out.trans g3)
    replace HB_M := hid (HB_M.out.ext g3)
    replace HB_X := hid (HB_X.out.ext g3)
    replace HB_Y := hid (HB_Y.out.ext g3)
    replace HB_Z := hid (HB_Z.out.ext g3)
    replace HB_S := hid (HB_S.out.ext g3)
    replace k1 := k1.ext g3
    obtain ⟨c_34, c_35, c_36, c_37⟩ := HB_M.out.c4
    obtain ⟨c_38, c_39, c_40, c_41, c_42⟩ := HB_X.out.c5
    obtain ⟨c_43, c_44, c_45, c_46, c_47⟩ := HB_Y.out.c5
    obtain ⟨c_48, c_49⟩ := HB_Z.out.c2
    obtain ⟨c_50, c_51, c_52⟩ := HB_S.out.c3
    go_wp2_with fail
    clear c_34 c_35 c_36 c_37 c_38 c_39 c_40 c_41 c_42 c_43 c_44 c_45 c_46 c_47 c_48 c_49 c_50 c_51 c_52
    refine (round_c E P b m _ (qx + qy) l (2 * K + 1) _ HF.out HM.out HB.out k1 SS.out (by have := HK.out; omega) HS.out HL2.out (HT.out.ext HE.out)).mono ?_
    rintro e w4 ⟨rfl, g4⟩
    have hz_w4 := g4.size
    replace HE := hid (HE.out.trans g4)
    replace HB_M := hid (HB_M.out.ext g4)
    replace HB_X := hid (HB_X.out.ext g4)
    replace HB_Y := hid (HB_Y.out.ext g4)
    replace HB_Z := hid (HB_Z.out.ext g4)
    replace HB_S := hid (HB_S.out.ext g4)
    replace k1 := k1.ext g4
    rw [Er.out]
    obtain ⟨c_53, c_54, c_55, c_56⟩ := HB_M.out.c4
    obtain ⟨c_57, c_58, c_59, c_60, c_61⟩ := HB_X.out.c5
    obtain ⟨c_62, c_63, c_64, c_65, c_66⟩ := HB_Y.out.c5
    obtain ⟨c_67, c_68⟩ := HB_Z.out.c2
    obtain ⟨c_69, c_70, c_71⟩ := HB_S.out.c3
    obtain ⟨f_72, f_73⟩ := HB_Z.out.f2
    go_wp2_with fail
    clear c_53 c_54 c_55 c_56 c_57 c_58 c_59 c_60 c_61 c_62 c_63 c_64 c_65 c_66 c_67 c_68 c_69 c_70 c_71 f_72 f_73
    obtain ⟨W5, hW5, g5, q5, B5, hy5, ho5⟩ := sto2 HE.out (by omega) HB_Z.out (by decide) (.int .u64 r0) (.int .u64 r1)
    rw [← hW5]
    clear hW5
    replace HE := hid g5
    replace HB_M := hid (ho5 _ _ _ (by omega) HB_M.out)
    replace HB_X := hid (ho5 _ _ _ (by omega) HB_X.out)
    replace HB_Y := hid (ho5 _ _ _ (by omega) HB_Y.out)
    replace HB_S := hid (ho5 _ _ _ (by omega) HB_S.out)
    replace HB_Z := hid B5
    replace k1 := k1.keep q5
    unfold EndPost
    rw [HR.out]
    obtain ⟨c_74, c_75⟩ := HB_Z.out.c2
    refine bodyPost_ret (v := .tuple #[.agg #[.int .u64 r0, .int .u64 r1], .int .i64 ((roundR E P b m (qx + qy) l).2 : Nat)]) (by simp [results, Tryz.results94, go_sem, c_74, c_75]) rfl ⟨by rw [Er.out], HE.out⟩
end Go.Proofs.YtopmjkkjlagfcaaGreatDoor
