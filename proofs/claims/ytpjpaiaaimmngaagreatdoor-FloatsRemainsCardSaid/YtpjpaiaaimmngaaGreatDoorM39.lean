/- floats: sub. -/
import Derived.Test.YtpjpaiaaimmngaaGreatDoorM38
namespace Go.Proofs.YtpjpaiaaimmngaaGreatDoor
open Go.RowKit Vn

set_option maxRecDepth 100000 in
set_option maxHeartbeats 8000000 in
theorem msub_c (E P b m : Nat) (x y : Value) (kx ky : Int) (nx ny : Bool) (qx qy : Rat) (l : Int) (K : Nat) (w : World) (hF : Fmt E P) (hm : m ≤ 4) (hb : b = bias E) (hx : OpV w x kx nx qx) (hy : OpV w y ky ny qy) (sx : SmQ K qx) (sy : SmQ K qy) (hK : K ≤ 5000) (hl : qx + -qy ≠ 0 → IsLog (absQ (qx + -qy)) l) (hT : Tabs w) :
   Calls Tryz.prog 32 #[.agg #[.int .i64 E, .int .i64 P, .int .i64 m, .int .i64 b], x, y] w fun e w' => EndPost (addR E P b m kx nx qx ky (!ny) (-qy) l) w e w' := by
  obtain ⟨ng, a, n, c, a', n', c', rfl, hvx⟩ := hx
  obtain ⟨mg, d, k, e, d', k', e', rfl, hvy⟩ := hy
  have HX := hid hvx; have HY := hid hvy
  have CA : Hid (∀ w x y, OpV w x kx nx qx → OpV w y ky (!ny) (-qy) → Tabs w → _) := hid fun w x y h1 h2 hT => madd_c E P b m x y kx ky nx (!ny) qx (-qy) l K w hF hm hb h1 h2 sx sy.neg hK hl hT
  have HT := hid hT
  obtain ⟨r0, r1, er⟩ := Word.shape (addR E P b m kx nx qx ky (!ny) (-qy) l).1
  have Er := hid er
  clear sx sy hK hl hT hF hm hb hvx hvy er
  obtain ⟨W0, hW0, g0, hz0, B_M, B_X, B_Y, B_Z⟩ := pro4s w #[.int .i64 E, .int .i64 P, .int .i64 m, .int .i64 b] #[.int .i64 kx, .bool nx, .bool ng, .slice a n c, .slice a' n' c'] #[.int .i64 ky, .bool ny, .bool mg, .slice d k e, .slice d' k' e'] #[.int .u64 0, .int .u64 0] 66 70 70 26
  have HE := hid g0
  have HB_M := hid B_M
  have HB_X := hid B_X
  have HB_Y := hid B_Y
  have HB_Z := hid B_Z
  clear g0 B_M B_X B_Y B_Z 
  go_enter Tryz.func32, Tryz.ntmps32
  go_wp2_with fail
  rw [← hW0]
  clear hW0
  have hvx := HX.out.ext HE.out
  have hvy := HY.out.ext HE.out
  go_cut [] (fun wx => ∃ (yg : Bool) (ya : Option Addr) (yn yc : Nat) (ya' : Option Addr) (yn' yc' : Nat), Hid (Ext w wx) ∧ Hid (Box wx (w.heap.size) #[.int .i64 E, .int .i64 P, .int .i64 m, .int .i64 b] 66) ∧ Hid (Box wx (w.heap.size + 1) #[.int .i64 kx, .bool nx, .bool ng, .slice a n c, .slice a' n' c'] 70) ∧ Hid (Box wx (w.heap.size + 1 + 1) #[.int .i64 ky, .bool (!ny), .bool yg, .slice ya yn yc, .slice ya' yn' yc'] 70) ∧ Hid (Box wx (w.heap.size + 1 + 1 + 1) #[.int .u64 0, .int .u64 0] 26) ∧ NumV wx (.agg #[.bool ng, .slice a n c, .slice a' n' c']) qx ∧ NumV wx (.agg #[.bool yg, .slice ya yn yc, .slice ya' yn' yc']) (-qy) ∧ W0.heap.size ≤ wx.heap.size)
  case first =>
    have hb0 : Ext W0 W0.drew := Below.drew (Below.refl _ W0)
    obtain ⟨c_2, c_3, c_4, c_5, c_6⟩ := (HB_Y.out.ext hb0).c5
    go_region_with (first
          | (go_at_call 35; (with_reducible refine (neg_c _ qy _ (hvy.ext hb0)).mono ?_); rintro e x1_1 ⟨v1, rfl, k1, g1⟩; have hb1 : Ext W0 x1_1 := hb0.trans g1; obtain ⟨yg, ya, yn, yc, ya', yn', yc', rfl⟩ := k1.shape; obtain ⟨d_7, d_8, d_9, d_10, d_11⟩ := (HB_Y.out.ext hb1).c5; obtain ⟨d_12, d_13, d_14, d_15, d_16⟩ := (HB_Y.out.ext hb1).f5))
    all_goals
      go_wp2_with fail
      have hz_x1_1 := hb1.size
      replace HE := hid (HE.out.trans hb1)
      replace HB_M := hid (HB_M.out.ext hb1)
      replace HB_X := hid (HB_X.out.ext hb1)
      replace HB_Y := hid (HB_Y.out.ext hb1)
      replace HB_Z := hid (HB_Z.out.ext hb1)
      replace hvx := hvx.ext hb1
      replace hvy := hvy.ext hb1
      obtain ⟨W1, hW1, g1, q1, B1, hy1, ho1⟩ := sto1 HE.out (by omega) HB_Y.out (by decide) 1 (.bool (!ny))
      rw [← hW1]
      clear hW1
      replace HE := hid g1
      replace B1 : Box W1 (w.heap.size + 1 + 1) #[.int .i64 ky, .bool (!ny), .bool mg, .slice d k e, .slice d' k' e'] 70 := B1
      replace HB_M := hid (ho1 _ _ _ (by omega) HB_M.out)
      replace HB_X := hid (ho1 _ _ _ (by omega) HB_X.out)
      replace HB_Z := hid (ho1 _ _ _ (by omega) HB_Z.out)
      replace HB_Y := hid B1
      replace hvx := hvx.keep q1
      replace hvy := hvy.keep q1
      replace k1 := k1.keep q1
      obtain ⟨W2, hW2, g2, q2, B2, hy2, ho2⟩ := sto3at2 HE.out (by omega) HB_Y.out (by decide) (.bool yg) (.slice ya yn yc) (.slice ya' yn' yc')
      rw [← hW2]
      clear hW2
      replace HE := hid g2
      replace HB_M := hid (ho2 _ _ _ (by omega) HB_M.out)
      replace HB_X := hid (ho2 _ _ _ (by omega) HB_X.out)
      replace HB_Z := hid (ho2 _ _ _ (by omega) HB_Z.out)
      replace HB_Y := hid B2
      replace hvx := hvx.keep q2
      replace hvy := hvy.keep q2
      replace k1 := k1.keep q2
      go_meet
      exact ⟨yg, ya, yn, yc, ya', yn', yc', HE, HB_M, HB_X, HB_Y, HB_Z, hvx, k1, by omega⟩
  case rest =>
    obtain ⟨yg, ya, yn, yc, ya', yn', yc', HE, HB_M, HB_X, HB_Y, HB_Z, hvx, k1, hzd⟩ := hcut
    obtain ⟨c_1, c_2, c_3, c_4⟩ := HB_M.out.c4
    obtain ⟨c_5, c_6, c_7, c_8, c_9⟩ := HB_X.out.c5
    obtain ⟨c_10, c_11, c_12, c_13, c_14⟩ := HB_Y.out.c5
    obtain ⟨c_15, c_16⟩ := HB_Z.out.c2
    go_wp2_with fail
    clear c_1 c_2 c_3 c_4 c_5 c_6 c_7 c_8 c_9 c_10 c_11 c_12 c_13 c_14 c_15 c_16
    refine (CA.out _ _ _ ⟨_, _, _, _, _, _, _, rfl, hvx⟩ ⟨_, _, _, _, _, _, _, rfl, k1⟩ (HT.out.ext HE.out)).mono ?_
    rintro e w1 ⟨rfl, g1⟩
    have hz_w1 := g1.size
    replace HE := hid (HE.out.trans g1)
    replace HB_M := hid (HB_M.out.ext g1)
    replace HB_X := hid (HB_X.out.ext g1)
    replace HB_Y := hid (HB_Y.out.ext g1)
    replace HB_Z := hid (HB_Z.out.ext g1)
    replace hvx := hvx.ext g1
    replace k1 := k1.ext g1
    rw [Er.out]
    obtain ⟨c_17, c_18, c_19, c_20⟩ := HB_M.out.c4
    obtain ⟨c_21, c_22, c_23, c_24, c_25⟩ := HB_X.out.c5
    obtain ⟨c_26, c_27, c_28, c_29, c_30⟩ := HB_Y.out.c5
    obtain ⟨c_31, c_32⟩ := HB_Z.out.c2
    obtain ⟨f_33, f_34⟩ := HB_Z.out.f2
    go_wp2_with fail
    clear c_17 c_18 c_19 c_20 c_21 c_22 c_23 c_24 c_25 c_26 c_27 c_28 c_29 c_30 c_31 c_32 f_33 f_34
    obtain ⟨W2, hW2, g2, q2, B2, hy2, ho2⟩ := sto2 HE.out (by omega) HB_Z.out (by decide) (.int .u64 r0) (.int .u64 r1)
    rw [← hW2]
    clear hW2
    replace HE := hid g2
    replace HB_M := hid (ho2 _ _ _ (by omega) HB_M.out)
    replace HB_X := hid (ho2 _ _ _ (by omega) HB_X.out)
    replace HB_Y := hid (ho2 _ _ _ (by omega) HB_Y.out)
    replace HB_Z := hid B2
    replace hvx := hvx.keep q2
    replace k1 := k1.keep q2
    unfold EndPost
    obtain ⟨c_35, c_36⟩ := HB_Z.out.c2
    refine bodyPost_ret (v := .tuple #[.agg #[.int .u64 r0, .int .u64 r1], .int .i64 ((addR E P b m kx nx qx ky (!ny) (-qy) l).2 : Nat)]) (by simp [results, Tryz.results32, go_sem, c_35, c_36]) rfl ⟨by rw [Er.out], HE.out⟩
end Go.Proofs.YtpjpaiaaimmngaaGreatDoor
