/- floats: div. -/
import Derived.Test.YtpdjenblkgaffaaGreatDoorM39
namespace Go.Proofs.YtpdjenblkgaffaaGreatDoor
open Go.RowKit Vn

/-- the word and the flags of a quotient of operands that are no NaN. -/
def divR (E P b m : Nat) (kx : Int) (nx : Bool) (qx : Rat) (ky : Int) (ny : Bool) (qy : Rat) (l : Int) : Nat × Nat :=
  if kx = ky ∧ kx ≠ 2 then (nanw E P, 1) else if kx = 3 then (infw E P (!(nx == ny)), 0) else if ky = 1 then (infw E P (!(nx == ny)), 2) else if kx = 1 ∨ ky = 3 then (sgb E P (!(nx == ny)), 0) else rnd E P b m (qx / qy) l

set_option maxRecDepth 100000 in
set_option maxHeartbeats 4000000 in
theorem mdiv_11 (E P b m : Nat) (x y : Value) (nx ny : Bool) (qx qy : Rat) (l : Int) (w : World) (hF : Fmt E P) (hx : OpV w x 1 nx qx) (hy : OpV w y 1 ny qy) :
   Calls Tryz.prog 54 #[.agg #[.int .i64 E, .int .i64 P, .int .i64 m, .int .i64 b], x, y] w fun e w' => EndPost (divR E P b m 1 nx qx 1 ny qy l) w e w' := by
  obtain ⟨ng, a, n, c, a', n', c', rfl, hvx⟩ := hx
  obtain ⟨mg, d, k, e, d', k', e', rfl, hvy⟩ := hy
  have HR : Hid (divR E P b m 1 nx qx 1 ny qy l = (nanw E P, 1)) := hid (by unfold divR; rw [if_pos ⟨rfl, by decide⟩])
  obtain ⟨r0, r1, er⟩ := Word.shape (nanw E P)
  have CC : Hid (∀ w, _) := hid fun w => invalid_c E P m b w hF
  rw [er] at CC
  have Er := hid er
  clear hvx hvy hF er
  obtain ⟨W0, hW0, g0, hz0, B_M, B_X, B_Y, B_Z⟩ := pro4s w #[.int .i64 E, .int .i64 P, .int .i64 m, .int .i64 b] #[.int .i64 1, .bool nx, .bool ng, .slice a n c, .slice a' n' c'] #[.int .i64 1, .bool ny, .bool mg, .slice d k e, .slice d' k' e'] #[.int .u64 0, .int .u64 0] 63 74 74 26
  have HE := hid g0
  have HB_M := hid B_M
  have HB_X := hid B_X
  have HB_Y := hid B_Y
  have HB_Z := hid B_Z
  clear g0 B_M B_X B_Y B_Z 
  go_enter Tryz.func54, Tryz.ntmps54
  go_upto_region 1 with (fail)
  rw [← hW0]
  clear hW0
  obtain ⟨c_1, c_2, c_3, c_4⟩ := HB_M.out.c4
  obtain ⟨c_5, c_6, c_7, c_8, c_9⟩ := HB_X.out.c5
  obtain ⟨c_10, c_11, c_12, c_13, c_14⟩ := HB_Y.out.c5
  obtain ⟨c_15, c_16⟩ := HB_Z.out.c2
  go_wp2_with fail
  clear c_1 c_2 c_3 c_4 c_5 c_6 c_7 c_8 c_9 c_10 c_11 c_12 c_13 c_14 c_15 c_16
  refine (CC.out _).mono ?_
  rintro e w1 ⟨rfl, g1⟩
  have hz_w1 := g1.size
  replace HE := hid (HE.out.trans g1)
  replace HB_M := hid (HB_M.out.ext g1)
  replace HB_X := hid (HB_X.out.ext g1)
  replace HB_Y := hid (HB_Y.out.ext g1)
  replace HB_Z := hid (HB_Z.out.ext g1)
  obtain ⟨c_17, c_18⟩ := HB_Z.out.c2
  obtain ⟨f_19, f_20⟩ := HB_Z.out.f2
  go_wp2_with fail
  clear c_17 c_18 f_19 f_20
  obtain ⟨W2, hW2, g2, q2, B2, hy2, ho2⟩ := sto2 HE.out (by omega) HB_Z.out (by decide) (.int .u64 r0) (.int .u64 r1)
  rw [← hW2]
  clear hW2
  replace HE := hid g2
  replace HB_M := hid (ho2 _ _ _ (by omega) HB_M.out)
  replace HB_X := hid (ho2 _ _ _ (by omega) HB_X.out)
  replace HB_Y := hid (ho2 _ _ _ (by omega) HB_Y.out)
  replace HB_Z := hid B2
  unfold EndPost
  rw [HR.out]
  obtain ⟨c_21, c_22⟩ := HB_Z.out.c2
  refine bodyPost_ret (v := .tuple #[.agg #[.int .u64 r0, .int .u64 r1], .int .i64 1]) (by simp [results, Tryz.results54, go_sem, c_21, c_22]) rfl ⟨by (show _ = Ending.returned (.tuple #[Word (nanw E P), .int .i64 1]); rw [Er.out]), HE.out⟩
set_option maxRecDepth 100000 in
set_option maxHeartbeats 4000000 in
theorem mdiv_12 (E P b m : Nat) (x y : Value) (nx ny : Bool) (qx qy : Rat) (l : Int) (w : World) (hF : Fmt E P) (hx : OpV w x 1 nx qx) (hy : OpV w y 2 ny qy) :
   Calls Tryz.prog 54 #[.agg #[.int .i64 E, .int .i64 P, .int .i64 m, .int .i64 b], x, y] w fun e w' => EndPost (divR E P b m 1 nx qx 2 ny qy l) w e w' := by
  obtain ⟨ng, a, n, c, a', n', c', rfl, hvx⟩ := hx
  obtain ⟨mg, d, k, e, d', k', e', rfl, hvy⟩ := hy
  have HR : Hid (divR E P b m 1 nx qx 2 ny qy l = (sgb E P (!(nx == ny)), 0)) := hid (by unfold divR; rw [if_neg (by decide), if_neg (by decide), if_neg (by decide), if_pos (by decide)])
  obtain ⟨r0, r1, er⟩ := Word.shape (sgb E P (!(nx == ny)))
  have CC : Hid (∀ w, _) := hid fun w => zero_c E P m b (!(nx == ny)) w hF
  rw [er] at CC
  have Er := hid er
  clear hvx hvy hF er
  obtain ⟨W0, hW0, g0, hz0, B_M, B_X, B_Y, B_Z⟩ := pro4s w #[.int .i64 E, .int .i64 P, .int .i64 m, .int .i64 b] #[.int .i64 1, .bool nx, .bool ng, .slice a n c, .slice a' n' c'] #[.int .i64 2, .bool ny, .bool mg, .slice d k e, .slice d' k' e'] #[.int .u64 0, .int .u64 0] 63 74 74 26
  have HE := hid g0
  have HB_M := hid B_M
  have HB_X := hid B_X
  have HB_Y := hid B_Y
  have HB_Z := hid B_Z
  clear g0 B_M B_X B_Y B_Z 
  go_enter Tryz.func54, Tryz.ntmps54
  go_upto_region 1 with (fail)
  rw [← hW0]
  clear hW0
  obtain ⟨c_1, c_2, c_3, c_4⟩ := HB_M.out.c4
  obtain ⟨c_5, c_6, c_7, c_8, c_9⟩ := HB_X.out.c5
  obtain ⟨c_10, c_11, c_12, c_13, c_14⟩ := HB_Y.out.c5
  obtain ⟨c_15, c_16⟩ := HB_Z.out.c2
  go_wp2_with fail
  clear c_1 c_2 c_3 c_4 c_5 c_6 c_7 c_8 c_9 c_10 c_11 c_12 c_13 c_14 c_15 c_16
  refine (CC.out _).mono ?_
  rintro e w1 ⟨rfl, g1⟩
  have hz_w1 := g1.size
  replace HE := hid (HE.out.trans g1)
  replace HB_M := hid (HB_M.out.ext g1)
  replace HB_X := hid (HB_X.out.ext g1)
  replace HB_Y := hid (HB_Y.out.ext g1)
  replace HB_Z := hid (HB_Z.out.ext g1)
  obtain ⟨c_17, c_18⟩ := HB_Z.out.c2
  obtain ⟨f_19, f_20⟩ := HB_Z.out.f2
  go_wp2_with fail
  clear c_17 c_18 f_19 f_20
  obtain ⟨W2, hW2, g2, q2, B2, hy2, ho2⟩ := sto2 HE.out (by omega) HB_Z.out (by decide) (.int .u64 r0) (.int .u64 r1)
  rw [← hW2]
  clear hW2
  replace HE := hid g2
  replace HB_M := hid (ho2 _ _ _ (by omega) HB_M.out)
  replace HB_X := hid (ho2 _ _ _ (by omega) HB_X.out)
  replace HB_Y := hid (ho2 _ _ _ (by omega) HB_Y.out)
  replace HB_Z := hid B2
  unfold EndPost
  rw [HR.out]
  obtain ⟨c_21, c_22⟩ := HB_Z.out.c2
  refine bodyPost_ret (v := .tuple #[.agg #[.int .u64 r0, .int .u64 r1], .int .i64 0]) (by simp [results, Tryz.results54, go_sem, c_21, c_22]) rfl ⟨by (show _ = Ending.returned (.tuple #[Word (sgb E P (!(nx == ny))), .int .i64 0]); rw [Er.out]), HE.out⟩
set_option maxRecDepth 100000 in
set_option maxHeartbeats 4000000 in
theorem mdiv_13 (E P b m : Nat) (x y : Value) (nx ny : Bool) (qx qy : Rat) (l : Int) (w : World) (hF : Fmt E P) (hx : OpV w x 1 nx qx) (hy : OpV w y 3 ny qy) :
   Calls Tryz.prog 54 #[.agg #[.int .i64 E, .int .i64 P, .int .i64 m, .int .i64 b], x, y] w fun e w' => EndPost (divR E P b m 1 nx qx 3 ny qy l) w e w' := by
  obtain ⟨ng, a, n, c, a', n', c', rfl, hvx⟩ := hx
  obtain ⟨mg, d, k, e, d', k', e', rfl, hvy⟩ := hy
  have HR : Hid (divR E P b m 1 nx qx 3 ny qy l = (sgb E P (!(nx == ny)), 0)) := hid (by unfold divR; rw [if_neg (by decide), if_neg (by decide), if_neg (by decide), if_pos (by decide)])
  obtain ⟨r0, r1, er⟩ := Word.shape (sgb E P (!(nx == ny)))
  have CC : Hid (∀ w, _) := hid fun w => zero_c E P m b (!(nx == ny)) w hF
  rw [er] at CC
  have Er := hid er
  clear hvx hvy hF er
  obtain ⟨W0, hW0, g0, hz0, B_M, B_X, B_Y, B_Z⟩ := pro4s w #[.int .i64 E, .int .i64 P, .int .i64 m, .int .i64 b] #[.int .i64 1, .bool nx, .bool ng, .slice a n c, .slice a' n' c'] #[.int .i64 3, .bool ny, .bool mg, .slice d k e, .slice d' k' e'] #[.int .u64 0, .int .u64 0] 63 74 74 26
  have HE := hid g0
  have HB_M := hid B_M
  have HB_X := hid B_X
  have HB_Y := hid B_Y
  have HB_Z := hid B_Z
  clear g0 B_M B_X B_Y B_Z 
  go_enter Tryz.func54, Tryz.ntmps54
  go_upto_region 1 with (fail)
  rw [← hW0]
  clear hW0
  obtain ⟨c_1, c_2, c_3, c_4⟩ := HB_M.out.c4
  obtain ⟨c_5, c_6, c_7, c_8, c_9⟩ := HB_X.out.c5
  obtain ⟨c_10, c_11, c_12, c_13, c_14⟩ := HB_Y.out.c5
  obtain ⟨c_15, c_16⟩ := HB_Z.out.c2
  go_wp2_with fail
  clear c_1 c_2 c_3 c_4 c_5 c_6 c_7 c_8 c_9 c_10 c_11 c_12 c_13 c_14 c_15 c_16
  refine (CC.out _).mono ?_
  rintro e w1 ⟨rfl, g1⟩
  have hz_w1 := g1.size
  replace HE := hid (HE.out.trans g1)
  replace HB_M := hid (HB_M.out.ext g1)
  replace HB_X := hid (HB_X.out.ext g1)
  replace HB_Y := hid (HB_Y.out.ext g1)
  replace HB_Z := hid (HB_Z.out.ext g1)
  obtain ⟨c_17, c_18⟩ := HB_Z.out.c2
  obtain ⟨f_19, f_20⟩ := HB_Z.out.f2
  go_wp2_with fail
  clear c_17 c_18 f_19 f_20
  obtain ⟨W2, hW2, g2, q2, B2, hy2, ho2⟩ := sto2 HE.out (by omega) HB_Z.out (by decide) (.int .u64 r0) (.int .u64 r1)
  rw [← hW2]
  clear hW2
  replace HE := hid g2
  replace HB_M := hid (ho2 _ _ _ (by omega) HB_M.out)
  replace HB_X := hid (ho2 _ _ _ (by omega) HB_X.out)
  replace HB_Y := hid (ho2 _ _ _ (by omega) HB_Y.out)
  replace HB_Z := hid B2
  unfold EndPost
  rw [HR.out]
  obtain ⟨c_21, c_22⟩ := HB_Z.out.c2
  refine bodyPost_ret (v := .tuple #[.agg #[.int .u64 r0, .int .u64 r1], .int .i64 0]) (by simp [results, Tryz.results54, go_sem, c_21, c_22]) rfl ⟨by (show _ = Ending.returned (.tuple #[Word (sgb E P (!(nx == ny))), .int .i64 0]); rw [Er.out]), HE.out⟩
set_option maxRecDepth 100000 in
set_option maxHeartbeats 4000000 in
theorem mdiv_21 (E P b m : Nat) (x y : Value) (nx ny : Bool) (qx qy : Rat) (l : Int) (w : World) (hF : Fmt E P) (hx : OpV w x 2 nx qx) (hy : OpV w y 1 ny qy) :
   Calls Tryz.prog 54 #[.agg #[.int .i64 E, .int .i64 P, .int .i64 m, .int .i64 b], x, y] w fun e w' => EndPost (divR E P b m 2 nx qx 1 ny qy l) w e w' := by
  obtain ⟨ng, a, n, c, a', n', c', rfl, hvx⟩ := hx
  obtain ⟨mg, d, k, e, d', k', e', rfl, hvy⟩ := hy
  have HR : Hid (divR E P b m 2 nx qx 1 ny qy l = (infw E P (!(nx == ny)), 2)) := hid (by unfold divR; rw [if_neg (by decide), if_neg (by decide), if_pos rfl])
  obtain ⟨r0, r1, er⟩ := Word.shape (infw E P (!(nx == ny)))
  have CC : Hid (∀ w, _) := hid fun w => infinite_c E P m b (!(nx == ny)) w hF
  rw [er] at CC
  have Er := hid er
  clear hvx hvy hF er
  obtain ⟨W0, hW0, g0, hz0, B_M, B_X, B_Y, B_Z⟩ := pro4s w #[.int .i64 E, .int .i64 P, .int .i64 m, .int .i64 b] #[.int .i64 2, .bool nx, .bool ng, .slice a n c, .slice a' n' c'] #[.int .i64 1, .bool ny, .bool mg, .slice d k e, .slice d' k' e'] #[.int .u64 0, .int .u64 0] 63 74 74 26
  have HE := hid g0
  have HB_M := hid B_M
  have HB_X := hid B_X
  have HB_Y := hid B_Y
  have HB_Z := hid B_Z
  clear g0 B_M B_X B_Y B_Z 
  go_enter Tryz.func54, Tryz.ntmps54
  go_upto_region 1 with (fail)
  rw [← hW0]
  clear hW0
  obtain ⟨c_1, c_2, c_3, c_4⟩ := HB_M.out.c4
  obtain ⟨c_5, c_6, c_7, c_8, c_9⟩ := HB_X.out.c5
  obtain ⟨c_10, c_11, c_12, c_13, c_14⟩ := HB_Y.out.c5
  obtain ⟨c_15, c_16⟩ := HB_Z.out.c2
  go_wp2_with fail
  clear c_1 c_2 c_3 c_4 c_5 c_6 c_7 c_8 c_9 c_10 c_11 c_12 c_13 c_14 c_15 c_16
  refine (CC.out _).mono ?_
  rintro e w1 ⟨rfl, g1⟩
  have hz_w1 := g1.size
  replace HE := hid (HE.out.trans g1)
  replace HB_M := hid (HB_M.out.ext g1)
  replace HB_X := hid (HB_X.out.ext g1)
  replace HB_Y := hid (HB_Y.out.ext g1)
  replace HB_Z := hid (HB_Z.out.ext g1)
  obtain ⟨c_17, c_18⟩ := HB_Z.out.c2
  obtain ⟨f_19, f_20⟩ := HB_Z.out.f2
  go_wp2_with fail
  clear c_17 c_18 f_19 f_20
  obtain ⟨W2, hW2, g2, q2, B2, hy2, ho2⟩ := sto2 HE.out (by omega) HB_Z.out (by decide) (.int .u64 r0) (.int .u64 r1)
  rw [← hW2]
  clear hW2
  replace HE := hid g2
  replace HB_M := hid (ho2 _ _ _ (by omega) HB_M.out)
  replace HB_X := hid (ho2 _ _ _ (by omega) HB_X.out)
  replace HB_Y := hid (ho2 _ _ _ (by omega) HB_Y.out)
  replace HB_Z := hid B2
  unfold EndPost
  rw [HR.out]
  obtain ⟨c_21, c_22⟩ := HB_Z.out.c2
  refine bodyPost_ret (v := .tuple #[.agg #[.int .u64 r0, .int .u64 r1], .int .i64 2]) (by simp [results, Tryz.results54, go_sem, c_21, c_22]) rfl ⟨by (show _ = Ending.returned (.tuple #[Word (infw E P (!(nx == ny))), .int .i64 2]); rw [Er.out]), HE.out⟩
set_option maxRecDepth 100000 in
set_option maxHeartbeats 4000000 in
theorem mdiv_22 (E P b m : Nat) (x y : Value) (nx ny : Bool) (qx qy : Rat) (l : Int) (K : Nat) (w : World) (hF : Fmt E P) (hx : OpV w x 2 nx qx) (hy : OpV w y 2 ny qy) (hm : m ≤ 4) (hb : b = bias E) (sx : SmQ K qx) (sy : SmQ K qy) (hK : K ≤ 5000) (hy0 : qy ≠ 0) (hl : qx / qy ≠ 0 → IsLog (absQ (qx / qy)) l) (hT : Tabs w) :
   Calls Tryz.prog 54 #[.agg #[.int .i64 E, .int .i64 P, .int .i64 m, .int .i64 b], x, y] w fun e w' => EndPost (divR E P b m 2 nx qx 2 ny qy l) w e w' := by
  obtain ⟨ng, a, n, c, a', n', c', rfl, hvx⟩ := hx
  obtain ⟨mg, d, k, e, d', k', e', rfl, hvy⟩ := hy
  have HR : Hid (divR E P b m 2 nx qx 2 ny qy l = rnd E P b m (qx / qy) l) := hid (by unfold divR; rw [if_neg (by decide), if_neg (by decide), if_neg (by decide), if_neg (by decide)])
  obtain ⟨r0, r1, er⟩ := Word.shape (rnd E P b m (qx / qy) l).1
  have HX := hid hvx; have HY := hid hvy; have HT := hid hT
  have CQ : Hid (∀ u v w, NumV w u qx → NumV w v qy → Calls Tryz.prog 46 #[u, v] w fun e w' => ∃ z, e = .returned (.tuple #[z, .int .i64 0]) ∧ NumV w' z (qx / qy) ∧ Ext w w') := hid fun u v w h k => quo_some u v qx qy K w h k sx sy (by omega) hy0
  have sq : SmQ 12000 (qx / qy) := (sx.div sy hy0).mono (by omega)
  have CR : Hid (∀ v w, NumV w v (qx / qy) → Tabs w → Calls Tryz.prog 44 #[.agg #[.int .i64 E, .int .i64 P, .int .i64 m, .int .i64 b], v] w fun e w' => e = .returned (.tuple #[.agg #[.int .u64 r0, .int .u64 r1], .int .i64 ((rnd E P b m (qx / qy) l).2 : Nat)]) ∧ Ext w w') := hid fun v w h hT => by
    have := rnd_c E P b m v (qx / qy) l 12000 w hF hm hb h sq (by decide) hl hT
    unfold EndPost at this
    rwa [er] at this
  have Er := hid er
  clear hvx hvy hT sx sy hy0 hl hF hm hb er sq
  obtain ⟨W0, hW0, g0, hz0, B_M, B_X, B_Y, B_Z⟩ := pro4s w #[.int .i64 E, .int .i64 P, .int .i64 m, .int .i64 b] #[.int .i64 2, .bool nx, .bool ng, .slice a n c, .slice a' n' c'] #[.int .i64 2, .bool ny, .bool mg, .slice d k e, .slice d' k' e'] #[.int .u64 0, .int .u64 0] 63 74 74 26
  have HE := hid g0
  have HB_M := hid B_M
  have HB_X := hid B_X
  have HB_Y := hid B_Y
  have HB_Z := hid B_Z
  clear g0 B_M B_X B_Y B_Z 
  go_enter Tryz.func54, Tryz.ntmps54
  go_upto_region 1 with (fail)
  rw [← hW0]
  clear hW0
  have hvx := HX.out.ext HE.out
  have hvy := HY.out.ext HE.out
  obtain ⟨c_1, c_2, c_3, c_4⟩ := HB_M.out.c4
  obtain ⟨c_5, c_6, c_7, c_8, c_9⟩ := HB_X.out.c5
  obtain ⟨c_10, c_11, c_12, c_13, c_14⟩ := HB_Y.out.c5
  obtain ⟨c_15, c_16⟩ := HB_Z.out.c2
  go_wp2_with fail
  clear c_1 c_2 c_3 c_4 c_5 c_6 c_7 c_8 c_9 c_10 c_11 c_12 c_13 c_14 c_15 c_16
  refine (CQ.out _ _ _ hvx hvy).mono ?_
  rintro e w1 ⟨v3, rfl, k3, g1⟩
  have hz_w1 := g1.size
  replace HE := hid (HE.out.trans g1)
  replace HB_M := hid (HB_M.out.ext g1)
  replace HB_X := hid (HB_X.out.ext g1)
  replace HB_Y := hid (HB_Y.out.ext g1)
  replace HB_Z := hid (HB_Z.out.ext g1)
  replace hvx := hvx.ext g1
  replace hvy := hvy.ext g1
  obtain ⟨ngq17, aq17, nq17, cq17, aq17', nq17', cq17', rfl⟩ := k3.shape
  have gA := Ext.alloc w1 (.cells #[.bool ngq17, .slice aq17 nq17 cq17, .slice aq17' nq17' cq17'] 32)
  obtain ⟨c_18, c_19, c_20, c_21⟩ := (HB_M.out.ext gA).c4
  obtain ⟨c_22, c_23, c_24, c_25, c_26⟩ := (HB_X.out.ext gA).c5
  obtain ⟨c_27, c_28, c_29, c_30, c_31⟩ := (HB_Y.out.ext gA).c5
  obtain ⟨c_32, c_33⟩ := (HB_Z.out.ext gA).c2
  go_wp2_with fail
  clear gA c_18 c_19 c_20 c_21 c_22 c_23 c_24 c_25 c_26 c_27 c_28 c_29 c_30 c_31 c_32 c_33
  obtain ⟨W2, hW2, g2, hy2, B_Q⟩ := pro1 w1 #[.bool ngq17, .slice aq17 nq17 cq17, .slice aq17' nq17' cq17'] 32
  rw [← hW2]
  clear hW2
  have hz_W2 := g2.size
  replace HE := hid (HE.out.trans g2)
  replace HB_M := hid (HB_M.out.ext g2)
  replace HB_X := hid (HB_X.out.ext g2)
  replace HB_Y := hid (HB_Y.out.ext g2)
  replace HB_Z := hid (HB_Z.out.ext g2)
  replace hvx := hvx.ext g2
  replace hvy := hvy.ext g2
  replace k3 := k3.ext g2
  have HB_Q := hid B_Q
  clear B_Q
  refine (CR.out _ _ k3 (HT.out.ext HE.out)).mono ?_
  rintro e w3 ⟨rfl, g3⟩
  have hz_w3 := g3.size
  replace HE := hid (HE.out.trans g3)
  replace HB_M := hid (HB_M.out.ext g3)
  replace HB_X := hid (HB_X.out.ext g3)
  replace HB_Y := hid (HB_Y.out.ext g3)
  replace HB_Z := hid (HB_Z.out.ext g3)
  replace HB_Q := hid (HB_Q.out.ext g3)
  replace hvx := hvx.ext g3
  replace hvy := hvy.ext g3
  replace k3 := k3.ext g3
  obtain ⟨c_34, c_35⟩ := HB_Z.out.c2
  obtain ⟨f_36, f_37⟩ := HB_Z.out.f2
  go_wp2_with fail
  clear c_34 c_35 f_36 f_37
  obtain ⟨W4, hW4, g4, q4, B4, hy4, ho4⟩ := sto2 HE.out (by omega) HB_Z.out (by decide) (.int .u64 r0) (.int .u64 r1)
  rw [← hW4]
  clear hW4
  replace HE := hid g4
  replace HB_M := hid (ho4 _ _ _ (by omega) HB_M.out)
  replace HB_X := hid (ho4 _ _ _ (by omega) HB_X.out)
  replace HB_Y := hid (ho4 _ _ _ (by omega) HB_Y.out)
  replace HB_Q := hid (ho4 _ _ _ (by omega) HB_Q.out)
  replace HB_Z := hid B4
  replace hvx := hvx.keep q4
  replace hvy := hvy.keep q4
  replace k3 := k3.keep q4
  unfold EndPost
  rw [HR.out]
  obtain ⟨c_38, c_39⟩ := HB_Z.out.c2
  refine bodyPost_ret (v := .tuple #[.agg #[.int .u64 r0, .int .u64 r1], .int .i64 ((rnd E P b m (qx / qy) l).2 : Nat)]) (by simp [results, Tryz.results54, go_sem, c_38, c_39]) rfl ⟨by (show _ = Ending.returned (.tuple #[Word ((rnd E P b m (qx / qy) l).1), .int .i64 ((rnd E P b m (qx / qy) l).2 : Nat)]); rw [Er.out]), HE.out⟩
set_option maxRecDepth 100000 in
set_option maxHeartbeats 4000000 in
theorem mdiv_23 (E P b m : Nat) (x y : Value) (nx ny : Bool) (qx qy : Rat) (l : Int) (w : World) (hF : Fmt E P) (hx : OpV w x 2 nx qx) (hy : OpV w y 3 ny qy) :
   Calls Tryz.prog 54 #[.agg #[.int .i64 E, .int .i64 P, .int .i64 m, .int .i64 b], x, y] w fun e w' => EndPost (divR E P b m 2 nx qx 3 ny qy l) w e w' := by
  obtain ⟨ng, a, n, c, a', n', c', rfl, hvx⟩ := hx
  obtain ⟨mg, d, k, e, d', k', e', rfl, hvy⟩ := hy
  have HR : Hid (divR E P b m 2 nx qx 3 ny qy l = (sgb E P (!(nx == ny)), 0)) := hid (by unfold divR; rw [if_neg (by decide), if_neg (by decide), if_neg (by decide), if_pos (by decide)])
  obtain ⟨r0, r1, er⟩ := Word.shape (sgb E P (!(nx == ny)))
  have CC : Hid (∀ w, _) := hid fun w => zero_c E P m b (!(nx == ny)) w hF
  rw [er] at CC
  have Er := hid er
  clear hvx hvy hF er
  obtain ⟨W0, hW0, g0, hz0, B_M, B_X, B_Y, B_Z⟩ := pro4s w #[.int .i64 E, .int .i64 P, .int .i64 m, .int .i64 b] #[.int .i64 2, .bool nx, .bool ng, .slice a n c, .slice a' n' c'] #[.int .i64 3, .bool ny, .bool mg, .slice d k e, .slice d' k' e'] #[.int .u64 0, .int .u64 0] 63 74 74 26
  have HE := hid g0
  have HB_M := hid B_M
  have HB_X := hid B_X
  have HB_Y := hid B_Y
  have HB_Z := hid B_Z
  clear g0 B_M B_X B_Y B_Z 
  go_enter Tryz.func54, Tryz.ntmps54
  go_upto_region 1 with (fail)
  rw [← hW0]
  clear hW0
  obtain ⟨c_1, c_2, c_3, c_4⟩ := HB_M.out.c4
  obtain ⟨c_5, c_6, c_7, c_8, c_9⟩ := HB_X.out.c5
  obtain ⟨c_10, c_11, c_12, c_13, c_14⟩ := HB_Y.out.c5
  obtain ⟨c_15, c_16⟩ := HB_Z.out.c2
  go_wp2_with fail
  clear c_1 c_2 c_3 c_4 c_5 c_6 c_7 c_8 c_9 c_10 c_11 c_12 c_13 c_14 c_15 c_16
  refine (CC.out _).mono ?_
  rintro e w1 ⟨rfl, g1⟩
  have hz_w1 := g1.size
  replace HE := hid (HE.out.trans g1)
  replace HB_M := hid (HB_M.out.ext g1)
  replace HB_X := hid (HB_X.out.ext g1)
  replace HB_Y := hid (HB_Y.out.ext g1)
  replace HB_Z := hid (HB_Z.out.ext g1)
  obtain ⟨c_17, c_18⟩ := HB_Z.out.c2
  obtain ⟨f_19, f_20⟩ := HB_Z.out.f2
  go_wp2_with fail
  clear c_17 c_18 f_19 f_20
  obtain ⟨W2, hW2, g2, q2, B2, hy2, ho2⟩ := sto2 HE.out (by omega) HB_Z.out (by decide) (.int .u64 r0) (.int .u64 r1)
  rw [← hW2]
  clear hW2
  replace HE := hid g2
  replace HB_M := hid (ho2 _ _ _ (by omega) HB_M.out)
  replace HB_X := hid (ho2 _ _ _ (by omega) HB_X.out)
  replace HB_Y := hid (ho2 _ _ _ (by omega) HB_Y.out)
  replace HB_Z := hid B2
  unfold EndPost
  rw [HR.out]
  obtain ⟨c_21, c_22⟩ := HB_Z.out.c2
  refine bodyPost_ret (v := .tuple #[.agg #[.int .u64 r0, .int .u64 r1], .int .i64 0]) (by simp [results, Tryz.results54, go_sem, c_21, c_22]) rfl ⟨by (show _ = Ending.returned (.tuple #[Word (sgb E P (!(nx == ny))), .int .i64 0]); rw [Er.out]), HE.out⟩
set_option maxRecDepth 100000 in
set_option maxHeartbeats 4000000 in
theorem mdiv_31 (E P b m : Nat) (x y : Value) (nx ny : Bool) (qx qy : Rat) (l : Int) (w : World) (hF : Fmt E P) (hx : OpV w x 3 nx qx) (hy : OpV w y 1 ny qy) :
   Calls Tryz.prog 54 #[.agg #[.int .i64 E, .int .i64 P, .int .i64 m, .int .i64 b], x, y] w fun e w' => EndPost (divR E P b m 3 nx qx 1 ny qy l) w e w' := by
  obtain ⟨ng, a, n, c, a', n', c', rfl, hvx⟩ := hx
  obtain ⟨mg, d, k, e, d', k', e', rfl, hvy⟩ := hy
  have HR : Hid (divR E P b m 3 nx qx 1 ny qy l = (infw E P (!(nx == ny)), 0)) := hid (by unfold divR; rw [if_neg (by decide), if_pos rfl])
  obtain ⟨r0, r1, er⟩ := Word.shape (infw E P (!(nx == ny)))
  have CC : Hid (∀ w, _) := hid fun w => infinite_c E P m b (!(nx == ny)) w hF
  rw [er] at CC
  have Er := hid er
  clear hvx hvy hF er
  obtain ⟨W0, hW0, g0, hz0, B_M, B_X, B_Y, B_Z⟩ := pro4s w #[.int .i64 E, .int .i64 P, .int .i64 m, .int .i64 b] #[.int .i64 3, .bool nx, .bool ng, .slice a n c, .slice a' n' c'] #[.int .i64 1, .bool ny, .bool mg, .slice d k e, .slice d' k' e'] #[.int .u64 0, .int .u64 0] 63 74 74 26
  have HE := hid g0
  have HB_M := hid B_M
  have HB_X := hid B_X
  have HB_Y := hid B_Y
  have HB_Z := hid B_Z
  clear g0 B_M B_X B_Y B_Z 
  go_enter Tryz.func54, Tryz.ntmps54
  go_upto_region 1 with (fail)
  rw [← hW0]
  clear hW0
  obtain ⟨c_1, c_2, c_3, c_4⟩ := HB_M.out.c4
  obtain ⟨c_5, c_6, c_7, c_8, c_9⟩ := HB_X.out.c5
  obtain ⟨c_10, c_11, c_12, c_13, c_14⟩ := HB_Y.out.c5
  obtain ⟨c_15, c_16⟩ := HB_Z.out.c2
  go_wp2_with fail
  clear c_1 c_2 c_3 c_4 c_5 c_6 c_7 c_8 c_9 c_10 c_11 c_12 c_13 c_14 c_15 c_16
  refine (CC.out _).mono ?_
  rintro e w1 ⟨rfl, g1⟩
  have hz_w1 := g1.size
  replace HE := hid (HE.out.trans g1)
  replace HB_M := hid (HB_M.out.ext g1)
  replace HB_X := hid (HB_X.out.ext g1)
  replace HB_Y := hid (HB_Y.out.ext g1)
  replace HB_Z := hid (HB_Z.out.ext g1)
  obtain ⟨c_17, c_18⟩ := HB_Z.out.c2
  obtain ⟨f_19, f_20⟩ := HB_Z.out.f2
  go_wp2_with fail
  clear c_17 c_18 f_19 f_20
  obtain ⟨W2, hW2, g2, q2, B2, hy2, ho2⟩ := sto2 HE.out (by omega) HB_Z.out (by decide) (.int .u64 r0) (.int .u64 r1)
  rw [← hW2]
  clear hW2
  replace HE := hid g2
  replace HB_M := hid (ho2 _ _ _ (by omega) HB_M.out)
  replace HB_X := hid (ho2 _ _ _ (by omega) HB_X.out)
  replace HB_Y := hid (ho2 _ _ _ (by omega) HB_Y.out)
  replace HB_Z := hid B2
  unfold EndPost
  rw [HR.out]
  obtain ⟨c_21, c_22⟩ := HB_Z.out.c2
  refine bodyPost_ret (v := .tuple #[.agg #[.int .u64 r0, .int .u64 r1], .int .i64 0]) (by simp [results, Tryz.results54, go_sem, c_21, c_22]) rfl ⟨by (show _ = Ending.returned (.tuple #[Word (infw E P (!(nx == ny))), .int .i64 0]); rw [Er.out]), HE.out⟩
set_option maxRecDepth 100000 in
set_option maxHeartbeats 4000000 in
theorem mdiv_32 (E P b m : Nat) (x y : Value) (nx ny : Bool) (qx qy : Rat) (l : Int) (w : World) (hF : Fmt E P) (hx : OpV w x 3 nx qx) (hy : OpV w y 2 ny qy) :
   Calls Tryz.prog 54 #[.agg #[.int .i64 E, .int .i64 P, .int .i64 m, .int .i64 b], x, y] w fun e w' => EndPost (divR E P b m 3 nx qx 2 ny qy l) w e w' := by
  obtain ⟨ng, a, n, c, a', n', c', rfl, hvx⟩ := hx
  obtain ⟨mg, d, k, e, d', k', e', rfl, hvy⟩ := hy
  have HR : Hid (divR E P b m 3 nx qx 2 ny qy l = (infw E P (!(nx == ny)), 0)) := hid (by unfold divR; rw [if_neg (by decide), if_pos rfl])
  obtain ⟨r0, r1, er⟩ := Word.shape (infw E P (!(nx == ny)))
  have CC : Hid (∀ w, _) := hid fun w => infinite_c E P m b (!(nx == ny)) w hF
  rw [er] at CC
  have Er := hid er
  clear hvx hvy hF er
  obtain ⟨W0, hW0, g0, hz0, B_M, B_X, B_Y, B_Z⟩ := pro4s w #[.int .i64 E, .int .i64 P, .int .i64 m, .int .i64 b] #[.int .i64 3, .bool nx, .bool ng, .slice a n c, .slice a' n' c'] #[.int .i64 2, .bool ny, .bool mg, .slice d k e, .slice d' k' e'] #[.int .u64 0, .int .u64 0] 63 74 74 26
  have HE := hid g0
  have HB_M := hid B_M
  have HB_X := hid B_X
  have HB_Y := hid B_Y
  have HB_Z := hid B_Z
  clear g0 B_M B_X B_Y B_Z 
  go_enter Tryz.func54, Tryz.ntmps54
  go_upto_region 1 with (fail)
  rw [← hW0]
  clear hW0
  obtain ⟨c_1, c_2, c_3, c_4⟩ := HB_M.out.c4
  obtain ⟨c_5, c_6, c_7, c_8, c_9⟩ := HB_X.out.c5
  obtain ⟨c_10, c_11, c_12, c_13, c_14⟩ := HB_Y.out.c5
  obtain ⟨c_15, c_16⟩ := HB_Z.out.c2
  go_wp2_with fail
  clear c_1 c_2 c_3 c_4 c_5 c_6 c_7 c_8 c_9 c_10 c_11 c_12 c_13 c_14 c_15 c_16
  refine (CC.out _).mono ?_
  rintro e w1 ⟨rfl, g1⟩
  have hz_w1 := g1.size
  replace HE := hid (HE.out.trans g1)
  replace HB_M := hid (HB_M.out.ext g1)
  replace HB_X := hid (HB_X.out.ext g1)
  replace HB_Y := hid (HB_Y.out.ext g1)
  replace HB_Z := hid (HB_Z.out.ext g1)
  obtain ⟨c_17, c_18⟩ := HB_Z.out.c2
  obtain ⟨f_19, f_20⟩ := HB_Z.out.f2
  go_wp2_with fail
  clear c_17 c_18 f_19 f_20
  obtain ⟨W2, hW2, g2, q2, B2, hy2, ho2⟩ := sto2 HE.out (by omega) HB_Z.out (by decide) (.int .u64 r0) (.int .u64 r1)
  rw [← hW2]
  clear hW2
  replace HE := hid g2
  replace HB_M := hid (ho2 _ _ _ (by omega) HB_M.out)
  replace HB_X := hid (ho2 _ _ _ (by omega) HB_X.out)
  replace HB_Y := hid (ho2 _ _ _ (by omega) HB_Y.out)
  replace HB_Z := hid B2
  unfold EndPost
  rw [HR.out]
  obtain ⟨c_21, c_22⟩ := HB_Z.out.c2
  refine bodyPost_ret (v := .tuple #[.agg #[.int .u64 r0, .int .u64 r1], .int .i64 0]) (by simp [results, Tryz.results54, go_sem, c_21, c_22]) rfl ⟨by (show _ = Ending.returned (.tuple #[Word (infw E P (!(nx == ny))), .int .i64 0]); rw [Er.out]), HE.out⟩
set_option maxRecDepth 100000 in
set_option maxHeartbeats 4000000 in
theorem mdiv_33 (E P b m : Nat) (x y : Value) (nx ny : Bool) (qx qy : Rat) (l : Int) (w : World) (hF : Fmt E P) (hx : OpV w x 3 nx qx) (hy : OpV w y 3 ny qy) :
   Calls Tryz.prog 54 #[.agg #[.int .i64 E, .int .i64 P, .int .i64 m, .int .i64 b], x, y] w fun e w' => EndPost (divR E P b m 3 nx qx 3 ny qy l) w e w' := by
  obtain ⟨ng, a, n, c, a', n', c', rfl, hvx⟩ := hx
  obtain ⟨mg, d, k, e, d', k', e', rfl, hvy⟩ := hy
  have HR : Hid (divR E P b m 3 nx qx 3 ny qy l = (nanw E P, 1)) := hid (by unfold divR; rw [if_pos ⟨rfl, by decide⟩])
  obtain ⟨r0, r1, er⟩ := Word.shape (nanw E P)
  have CC : Hid (∀ w, _) := hid fun w => invalid_c E P m b w hF
  rw [er] at CC
  have Er := hid er
  clear hvx hvy hF er
  obtain ⟨W0, hW0, g0, hz0, B_M, B_X, B_Y, B_Z⟩ := pro4s w #[.int .i64 E, .int .i64 P, .int .i64 m, .int .i64 b] #[.int .i64 3, .bool nx, .bool ng, .slice a n c, .slice a' n' c'] #[.int .i64 3, .bool ny, .bool mg, .slice d k e, .slice d' k' e'] #[.int .u64 0, .int .u64 0] 63 74 74 26
  have HE := hid g0
  have HB_M := hid B_M
  have HB_X := hid B_X
  have HB_Y := hid B_Y
  have HB_Z := hid B_Z
  clear g0 B_M B_X B_Y B_Z 
  go_enter Tryz.func54, Tryz.ntmps54
  go_upto_region 1 with (fail)
  rw [← hW0]
  clear hW0
  obtain ⟨c_1, c_2, c_3, c_4⟩ := HB_M.out.c4
  obtain ⟨c_5, c_6, c_7, c_8, c_9⟩ := HB_X.out.c5
  obtain ⟨c_10, c_11, c_12, c_13, c_14⟩ := HB_Y.out.c5
  obtain ⟨c_15, c_16⟩ := HB_Z.out.c2
  go_wp2_with fail
  clear c_1 c_2 c_3 c_4 c_5 c_6 c_7 c_8 c_9 c_10 c_11 c_12 c_13 c_14 c_15 c_16
  refine (CC.out _).mono ?_
  rintro e w1 ⟨rfl, g1⟩
  have hz_w1 := g1.size
  replace HE := hid (HE.out.trans g1)
  replace HB_M := hid (HB_M.out.ext g1)
  replace HB_X := hid (HB_X.out.ext g1)
  replace HB_Y := hid (HB_Y.out.ext g1)
  replace HB_Z := hid (HB_Z.out.ext g1)
  obtain ⟨c_17, c_18⟩ := HB_Z.out.c2
  obtain ⟨f_19, f_20⟩ := HB_Z.out.f2
  go_wp2_with fail
  clear c_17 c_18 f_19 f_20
  obtain ⟨W2, hW2, g2, q2, B2, hy2, ho2⟩ := sto2 HE.out (by omega) HB_Z.out (by decide) (.int .u64 r0) (.int .u64 r1)
  rw [← hW2]
  clear hW2
  replace HE := hid g2
  replace HB_M := hid (ho2 _ _ _ (by omega) HB_M.out)
  replace HB_X := hid (ho2 _ _ _ (by omega) HB_X.out)
  replace HB_Y := hid (ho2 _ _ _ (by omega) HB_Y.out)
  replace HB_Z := hid B2
  unfold EndPost
  rw [HR.out]
  obtain ⟨c_21, c_22⟩ := HB_Z.out.c2
  refine bodyPost_ret (v := .tuple #[.agg #[.int .u64 r0, .int .u64 r1], .int .i64 1]) (by simp [results, Tryz.results54, go_sem, c_21, c_22]) rfl ⟨by (show _ = Ending.returned (.tuple #[Word (nanw E P), .int .i64 1]); rw [Er.out]), HE.out⟩

theorem mdiv_c (E P b m : Nat) (x y : Value) (kx ky : Int) (nx ny : Bool) (qx qy : Rat) (l : Int) (K : Nat) (w : World) (hF : Fmt E P) (hm : m ≤ 4) (hb : b = bias E) (hx : OpV w x kx nx qx) (hy : OpV w y ky ny qy) (hkx : kx = 1 ∨ kx = 2 ∨ kx = 3) (hky : ky = 1 ∨ ky = 2 ∨ ky = 3) (sx : SmQ K qx) (sy : SmQ K qy) (hK : K ≤ 5000) (hy0 : ky = 2 → qy ≠ 0) (hl : qx / qy ≠ 0 → IsLog (absQ (qx / qy)) l) (hT : Tabs w) :
   Calls Tryz.prog 54 #[.agg #[.int .i64 E, .int .i64 P, .int .i64 m, .int .i64 b], x, y] w fun e w' => EndPost (divR E P b m kx nx qx ky ny qy l) w e w' := by
  rcases hkx with rfl | rfl | rfl <;> rcases hky with rfl | rfl | rfl
  · exact mdiv_11 E P b m x y nx ny qx qy l w hF hx hy
  · exact mdiv_12 E P b m x y nx ny qx qy l w hF hx hy
  · exact mdiv_13 E P b m x y nx ny qx qy l w hF hx hy
  · exact mdiv_21 E P b m x y nx ny qx qy l w hF hx hy
  · exact mdiv_22 E P b m x y nx ny qx qy l K w hF hx hy hm hb sx sy hK (hy0 rfl) hl hT
  · exact mdiv_23 E P b m x y nx ny qx qy l w hF hx hy
  · exact mdiv_31 E P b m x y nx ny qx qy l w hF hx hy
  · exact mdiv_32 E P b m x y nx ny qx qy l w hF hx hy
  · exact mdiv_33 E P b m x y nx ny qx qy l w hF hx hy
end Go.Proofs.YtpdjenblkgaffaaGreatDoor
