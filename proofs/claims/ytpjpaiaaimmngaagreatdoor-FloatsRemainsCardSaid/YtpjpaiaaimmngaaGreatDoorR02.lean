/- floats: rem. -/
import Derived.Test.YtpjpaiaaimmngaaGreatDoorR01
import Derived.Test.YtpjpaiaaimmngaaGreatDoorM38
namespace Go.Proofs.YtpjpaiaaimmngaaGreatDoor
open Go.RowKit Vn

set_option maxRecDepth 100000 in
set_option maxHeartbeats 8000000 in
theorem mrem_c (E P b m : Nat) (x y : Value) (kx ky : Int) (nx ny : Bool) (qx qy : Rat) (l : Int) (K : Nat) (w : World) (hF : Fmt E P) (hm : m ≤ 4) (hb : b = bias E) (hx : OpV w x kx nx qx) (hy : OpV w y ky ny qy) (sx : SmQ K qx) (sy : SmQ K qy) (hK : K ≤ 12000) (sv : SmQ 12000 (remV kx qx ky qy)) (hl : remV kx qx ky qy ≠ 0 → IsLog (absQ (remV kx qx ky qy)) l) (hy0 : ky ≠ 1 → ky ≠ 3 → qy ≠ 0) (hT : Tabs w) :
   Calls Tryz.prog 41 #[.agg #[.int .i64 E, .int .i64 P, .int .i64 m, .int .i64 b], x, y] w fun e w' => EndPost (remR E P b m kx nx qx ky qy l) w e w' := by
  obtain ⟨ng, a, n, c, a', n', c', rfl, hvx⟩ := hx
  obtain ⟨mg, d, k, e, d', k', e', rfl, hvy⟩ := hy
  have SX := hid sx; have SY := hid sy; have HK := hid hK; have HT := hid hT; have HF := hid hF
  have HX := hid hvx; have HY := hid hvy
  have HV : Hid (∀ v, v = remV kx qx ky qy → (∀ x w, NumV w x v → Tabs w → Calls Tryz.prog 49 #[.agg #[.int .i64 E, .int .i64 P, .int .i64 m, .int .i64 b], x] w (EndPost (rnd E P b m v l) w)) ∧ (∀ x k n w, OpV w x k n v → Tabs w → Calls Tryz.prog 72 #[.agg #[.int .i64 E, .int .i64 P, .int .i64 m, .int .i64 b], x] w fun e w' => EndPost (exR E P b m k n v l) w e w')) := hid fun v hv => by
    subst hv
    exact ⟨fun x w h hT => rnd_c E P b m x _ l 12000 w hF hm hb h sv (by decide) hl hT, fun x k n w h hT => exactly_c E P b m x k n _ l 12000 w hF hm hb h sv (by decide) hl hT⟩
  have HY0 := hid hy0
  clear sx sy hK hT hF hm hb hvx hvy sv hl hy0
  obtain ⟨W0, hW0, g0, hz0, B_M, B_X, B_Y, B_Z⟩ := pro4s w #[.int .i64 E, .int .i64 P, .int .i64 m, .int .i64 b] #[.int .i64 kx, .bool nx, .bool ng, .slice a n c, .slice a' n' c'] #[.int .i64 ky, .bool ny, .bool mg, .slice d k e, .slice d' k' e'] #[.int .u64 0, .int .u64 0] 66 70 70 26
  have HE := hid g0
  have HB_M := hid B_M
  have HB_X := hid B_X
  have HB_Y := hid B_Y
  have HB_Z := hid B_Z
  clear g0 B_M B_X B_Y B_Z 
  go_enter Tryz.func41, Tryz.ntmps41
  go_upto_region 1 with (fail)
  rw [← hW0]
  clear hW0
  have hvx := HX.out.ext HE.out
  have hvy := HY.out.ext HE.out
  by_cases hx3 : kx = 3
  · subst hx3
    have HR : Hid (remR E P b m 3 nx qx ky qy l = (nanw E P, 1)) := hid (by unfold remR; rw [if_pos (.inl rfl)])
    obtain ⟨r0, r1, er⟩ := Word.shape (nanw E P)
    have Er := hid er
    clear er
    obtain ⟨c_1, c_2, c_3, c_4⟩ := HB_M.out.c4
    obtain ⟨c_5, c_6, c_7, c_8, c_9⟩ := HB_X.out.c5
    obtain ⟨c_10, c_11, c_12, c_13, c_14⟩ := HB_Y.out.c5
    obtain ⟨c_15, c_16⟩ := HB_Z.out.c2
    go_wp2_with fail
    clear c_1 c_2 c_3 c_4 c_5 c_6 c_7 c_8 c_9 c_10 c_11 c_12 c_13 c_14 c_15 c_16
    refine (invalid_c E P m b _ HF.out).mono ?_
    rintro e w1 ⟨rfl, g1⟩
    have hz_w1 := g1.size
    replace HE := hid (HE.out.trans g1)
    replace HB_M := hid (HB_M.out.ext g1)
    replace HB_X := hid (HB_X.out.ext g1)
    replace HB_Y := hid (HB_Y.out.ext g1)
    replace HB_Z := hid (HB_Z.out.ext g1)
    replace hvx := hvx.ext g1
    replace hvy := hvy.ext g1
    rw [Er.out]
    obtain ⟨c_17, c_18, c_19, c_20⟩ := HB_M.out.c4
    obtain ⟨c_21, c_22, c_23, c_24, c_25⟩ := HB_X.out.c5
    obtain ⟨c_26, c_27, c_28, c_29, c_30⟩ := HB_Y.out.c5
    obtain ⟨c_31, c_32⟩ := HB_Z.out.c2
    obtain ⟨f_33, f_34⟩ := HB_Z.out.f2
    go_wp2_with fail
    clear c_17 c_18 c_19 c_20 c_21 c_22 c_23 c_24 c_25 c_26 c_27 c_28 c_29 c_30 c_31 c_32 f_33 f_34
    obtain ⟨W2, hW2, g2, q2, B2, hy2, ho2⟩ := sto2 HE.out (by omega) HB_Z.out (by decide) (.int .u64 r0) (.int .u64 r1)
    rw [← hW2]
    clear hW2
    replace HE := hid g2
    replace HB_M := hid (ho2 _ _ _ (by omega) HB_M.out)
    replace HB_X := hid (ho2 _ _ _ (by omega) HB_X.out)
    replace HB_Y := hid (ho2 _ _ _ (by omega) HB_Y.out)
    replace HB_Z := hid B2
    replace hvx := hvx.keep q2
    replace hvy := hvy.keep q2
    unfold EndPost
    rw [HR.out]
    obtain ⟨c_35, c_36⟩ := HB_Z.out.c2
    refine bodyPost_ret (v := .tuple #[.agg #[.int .u64 r0, .int .u64 r1], .int .i64 1]) (by simp [results, Tryz.results41, go_sem, c_35, c_36]) rfl ⟨by (show _ = Ending.returned (.tuple #[Word (nanw E P), .int .i64 1]); rw [Er.out]), HE.out⟩
  · have hb1 : (kx == 3) = false := beq_eq_false_iff_ne.2 hx3
    by_cases hy1 : ky = 1
    · subst hy1
      have HR : Hid (remR E P b m kx nx qx 1 qy l = (nanw E P, 1)) := hid (by unfold remR; rw [if_pos (.inr rfl)])
      obtain ⟨r0, r1, er⟩ := Word.shape (nanw E P)
      have Er := hid er
      clear er
      obtain ⟨c_1, c_2, c_3, c_4⟩ := HB_M.out.c4
      obtain ⟨c_5, c_6, c_7, c_8, c_9⟩ := HB_X.out.c5
      obtain ⟨c_10, c_11, c_12, c_13, c_14⟩ := HB_Y.out.c5
      obtain ⟨c_15, c_16⟩ := HB_Z.out.c2
      go_wp2_with fail
      clear c_1 c_2 c_3 c_4 c_5 c_6 c_7 c_8 c_9 c_10 c_11 c_12 c_13 c_14 c_15 c_16
      refine (invalid_c E P m b _ HF.out).mono ?_
      rintro e w1 ⟨rfl, g1⟩
      have hz_w1 := g1.size
      replace HE := hid (HE.out.trans g1)
      replace HB_M := hid (HB_M.out.ext g1)
      replace HB_X := hid (HB_X.out.ext g1)
      replace HB_Y := hid (HB_Y.out.ext g1)
      replace HB_Z := hid (HB_Z.out.ext g1)
      replace hvx := hvx.ext g1
      replace hvy := hvy.ext g1
      rw [Er.out]
      obtain ⟨c_17, c_18, c_19, c_20⟩ := HB_M.out.c4
      obtain ⟨c_21, c_22, c_23, c_24, c_25⟩ := HB_X.out.c5
      obtain ⟨c_26, c_27, c_28, c_29, c_30⟩ := HB_Y.out.c5
      obtain ⟨c_31, c_32⟩ := HB_Z.out.c2
      obtain ⟨f_33, f_34⟩ := HB_Z.out.f2
      go_wp2_with fail
      clear c_17 c_18 c_19 c_20 c_21 c_22 c_23 c_24 c_25 c_26 c_27 c_28 c_29 c_30 c_31 c_32 f_33 f_34
      obtain ⟨W2, hW2, g2, q2, B2, hy2, ho2⟩ := sto2 HE.out (by omega) HB_Z.out (by decide) (.int .u64 r0) (.int .u64 r1)
      rw [← hW2]
      clear hW2
      replace HE := hid g2
      replace HB_M := hid (ho2 _ _ _ (by omega) HB_M.out)
      replace HB_X := hid (ho2 _ _ _ (by omega) HB_X.out)
      replace HB_Y := hid (ho2 _ _ _ (by omega) HB_Y.out)
      replace HB_Z := hid B2
      replace hvx := hvx.keep q2
      replace hvy := hvy.keep q2
      unfold EndPost
      rw [HR.out]
      obtain ⟨c_35, c_36⟩ := HB_Z.out.c2
      refine bodyPost_ret (v := .tuple #[.agg #[.int .u64 r0, .int .u64 r1], .int .i64 1]) (by simp [results, Tryz.results41, go_sem, c_35, c_36]) rfl ⟨by (show _ = Ending.returned (.tuple #[Word (nanw E P), .int .i64 1]); rw [Er.out]), HE.out⟩
    · have hb2 : (ky == 1) = false := beq_eq_false_iff_ne.2 hy1
      by_cases hx1 : kx = 1
      · subst hx1
        have hv : qx = remV 1 qx ky qy := by unfold remV; rw [if_pos (.inl rfl)]
        have CE := hid (HV.out qx hv).2
        obtain ⟨r, hr⟩ : ∃ r, r = exR E P b m 1 nx qx l := ⟨_, rfl⟩
        have HR : Hid (remR E P b m 1 nx qx ky qy l = r) := hid (by rw [hr]; unfold remR; rw [if_neg (by omega), if_pos (.inl rfl)])
        obtain ⟨r0, r1, er⟩ := Word.shape r.1
        have Er := hid er
        have Hr := hid hr
        clear er hv hr
        obtain ⟨c_1, c_2, c_3, c_4⟩ := HB_M.out.c4
        obtain ⟨c_5, c_6, c_7, c_8, c_9⟩ := HB_X.out.c5
        obtain ⟨c_10, c_11, c_12, c_13, c_14⟩ := HB_Y.out.c5
        obtain ⟨c_15, c_16⟩ := HB_Z.out.c2
        go_wp2_with fail
        clear c_1 c_2 c_3 c_4 c_5 c_6 c_7 c_8 c_9 c_10 c_11 c_12 c_13 c_14 c_15 c_16
        refine (CE.out _ _ _ _ ⟨_, _, _, _, _, _, _, rfl, hvx⟩ (HT.out.ext HE.out)).mono ?_
        rintro e w1 ⟨rfl, g1⟩
        have hz_w1 := g1.size
        replace HE := hid (HE.out.trans g1)
        replace HB_M := hid (HB_M.out.ext g1)
        replace HB_X := hid (HB_X.out.ext g1)
        replace HB_Y := hid (HB_Y.out.ext g1)
        replace HB_Z := hid (HB_Z.out.ext g1)
        replace hvx := hvx.ext g1
        replace hvy := hvy.ext g1
        rw [← Hr.out, Er.out]
        obtain ⟨c_17, c_18, c_19, c_20⟩ := HB_M.out.c4
        obtain ⟨c_21, c_22, c_23, c_24, c_25⟩ := HB_X.out.c5
        obtain ⟨c_26, c_27, c_28, c_29, c_30⟩ := HB_Y.out.c5
        obtain ⟨c_31, c_32⟩ := HB_Z.out.c2
        obtain ⟨f_33, f_34⟩ := HB_Z.out.f2
        go_wp2_with fail
        clear c_17 c_18 c_19 c_20 c_21 c_22 c_23 c_24 c_25 c_26 c_27 c_28 c_29 c_30 c_31 c_32 f_33 f_34
        obtain ⟨W2, hW2, g2, q2, B2, hy2, ho2⟩ := sto2 HE.out (by omega) HB_Z.out (by decide) (.int .u64 r0) (.int .u64 r1)
        rw [← hW2]
        clear hW2
        replace HE := hid g2
        replace HB_M := hid (ho2 _ _ _ (by omega) HB_M.out)
        replace HB_X := hid (ho2 _ _ _ (by omega) HB_X.out)
        replace HB_Y := hid (ho2 _ _ _ (by omega) HB_Y.out)
        replace HB_Z := hid B2
        replace hvx := hvx.keep q2
        replace hvy := hvy.keep q2
        unfold EndPost
        rw [HR.out]
        obtain ⟨c_35, c_36⟩ := HB_Z.out.c2
        refine bodyPost_ret (v := .tuple #[.agg #[.int .u64 r0, .int .u64 r1], .int .i64 (r.2 : Nat)]) (by simp [results, Tryz.results41, go_sem, c_35, c_36]) rfl ⟨by rw [Er.out], HE.out⟩
      · have hb3 : (kx == 1) = false := beq_eq_false_iff_ne.2 hx1
        by_cases hy3 : ky = 3
        · subst hy3
          have hv : qx = remV kx qx 3 qy := by unfold remV; rw [if_pos (.inr rfl)]
          have CE := hid (HV.out qx hv).2
          obtain ⟨r, hr⟩ : ∃ r, r = exR E P b m kx nx qx l := ⟨_, rfl⟩
          have HR : Hid (remR E P b m kx nx qx 3 qy l = r) := hid (by rw [hr]; unfold remR; rw [if_neg (by omega), if_pos (.inr rfl)])
          obtain ⟨r0, r1, er⟩ := Word.shape r.1
          have Er := hid er
          have Hr := hid hr
          clear er hv hr
          obtain ⟨c_1, c_2, c_3, c_4⟩ := HB_M.out.c4
          obtain ⟨c_5, c_6, c_7, c_8, c_9⟩ := HB_X.out.c5
          obtain ⟨c_10, c_11, c_12, c_13, c_14⟩ := HB_Y.out.c5
          obtain ⟨c_15, c_16⟩ := HB_Z.out.c2
          go_wp2_with fail
          clear c_1 c_2 c_3 c_4 c_5 c_6 c_7 c_8 c_9 c_10 c_11 c_12 c_13 c_14 c_15 c_16
          refine (CE.out _ _ _ _ ⟨_, _, _, _, _, _, _, rfl, hvx⟩ (HT.out.ext HE.out)).mono ?_
          rintro e w1 ⟨rfl, g1⟩
          have hz_w1 := g1.size
          replace HE := hid (HE.out.trans g1)
          replace HB_M := hid (HB_M.out.ext g1)
          replace HB_X := hid (HB_X.out.ext g1)
          replace HB_Y := hid (HB_Y.out.ext g1)
          replace HB_Z := hid (HB_Z.out.ext g1)
          replace hvx := hvx.ext g1
          replace hvy := hvy.ext g1
          rw [← Hr.out, Er.out]
          obtain ⟨c_17, c_18, c_19, c_20⟩ := HB_M.out.c4
          obtain ⟨c_21, c_22, c_23, c_24, c_25⟩ := HB_X.out.c5
          obtain ⟨c_26, c_27, c_28, c_29, c_30⟩ := HB_Y.out.c5
          obtain ⟨c_31, c_32⟩ := HB_Z.out.c2
          obtain ⟨f_33, f_34⟩ := HB_Z.out.f2
          go_wp2_with fail
          clear c_17 c_18 c_19 c_20 c_21 c_22 c_23 c_24 c_25 c_26 c_27 c_28 c_29 c_30 c_31 c_32 f_33 f_34
          obtain ⟨W2, hW2, g2, q2, B2, hy2, ho2⟩ := sto2 HE.out (by omega) HB_Z.out (by decide) (.int .u64 r0) (.int .u64 r1)
          rw [← hW2]
          clear hW2
          replace HE := hid g2
          replace HB_M := hid (ho2 _ _ _ (by omega) HB_M.out)
          replace HB_X := hid (ho2 _ _ _ (by omega) HB_X.out)
          replace HB_Y := hid (ho2 _ _ _ (by omega) HB_Y.out)
          replace HB_Z := hid B2
          replace hvx := hvx.keep q2
          replace hvy := hvy.keep q2
          unfold EndPost
          rw [HR.out]
          obtain ⟨c_35, c_36⟩ := HB_Z.out.c2
          refine bodyPost_ret (v := .tuple #[.agg #[.int .u64 r0, .int .u64 r1], .int .i64 (r.2 : Nat)]) (by simp [results, Tryz.results41, go_sem, c_35, c_36]) rfl ⟨by rw [Er.out], HE.out⟩
        · have hb4 : (ky == 3) = false := beq_eq_false_iff_ne.2 hy3
          have hq0 : qy ≠ 0 := HY0.out hy1 hy3
          have hK := HK.out
          obtain ⟨q, hq⟩ : ∃ q, q = qx / qy := ⟨_, rfl⟩
          obtain ⟨f, hf⟩ : ∃ f, f = q.floor := ⟨_, rfl⟩
          obtain ⟨t, ht⟩ : ∃ t, t = remN q := ⟨_, rfl⟩
          obtain ⟨rv, hrv⟩ : ∃ rv, rv = qx - qy * (t : Rat) := ⟨_, rfl⟩
          obtain ⟨od, hod⟩ : ∃ o, o = (decide (f ≠ 0) && decide (f.natAbs % 2 = 1)) := ⟨_, rfl⟩
          obtain ⟨cc, hcc⟩ : ∃ c, c = cmpQ ((q - (f : Rat)) * (2 : Rat) ^ (1 : Int)) 1 := ⟨_, rfl⟩
          obtain ⟨up, hup⟩ : ∃ u, u = upB 0 od cc := ⟨_, rfl⟩
          have hvv : rv = remV kx qx ky qy := by unfold remV; rw [if_neg (by omega), hrv, ht, hq]
          have CR := hid (HV.out rv hvv).1
          have HR0 : Hid (remR E P b m kx nx qx ky qy l = if rv = 0 then (sgb E P nx, 0) else rnd E P b m rv l) := hid (by unfold remR; rw [if_neg (by omega), if_neg (by omega), hrv, ht, hq])
          have HN : Hid (t = if up = true then f + 1 else f) := hid (by rw [ht, hup, hod, hcc, hf]; rfl)
          have sq : SmQ 24000 q := by rw [hq]; exact (SX.out.div SY.out hq0).mono (by omega)
          have sf : SmQ 24000 ((f : Int) : Rat) := by rw [hf]; exact sq.floor
          have st : SmQ 24003 ((t : Int) : Rat) := by rw [ht]; exact remN_sm sq
          have sd : SmQ 48001 (q - (f : Rat)) := sq.sub sf
          have sm : SmQ 36003 (qy * (t : Rat)) := (SY.out.mul st).mono (by omega)
          have s1 : SmQ 48100 (1 : Rat) := (SmQ.nat (K := 2) (n := 1) (by decide) (by decide)).mono (by decide)
          have CQ : Hid (∀ u v w, NumV w u qx → NumV w v qy → Calls Tryz.prog 18 #[u, v] w fun e w' => ∃ z, e = .returned (.tuple #[z, .int .i64 0]) ∧ NumV w' z q ∧ Ext w w') := hid fun u v w h k => by
            rw [hq]; exact quo_some u v qx qy K w h k SX.out SY.out (by omega) hq0
          have CFL : Hid (∀ u w, NumV w u q → Calls Tryz.prog 73 #[u] w fun e w' => ∃ v, e = .returned v ∧ NumV w' v (f : Rat) ∧ Ext w w') := hid fun u w h => by
            rw [hf]; exact Floor_c u q 24000 w h sq (by decide)
          have CSG : Hid (∀ u w, NumV w u (f : Rat) → Calls Tryz.prog 7 #[u] w fun e w' => e = .returned (.int .i64 f.sign) ∧ Ext w w') := hid fun u w h => by
            have := sign_c u _ w h
            rwa [Rat.num_intCast] at this
          have CTW : Hid (f ≠ 0 → ∀ u w, NumV w u (f : Rat) → Tabs w → Calls Tryz.prog 75 #[u] w fun e w' => ∃ k : Int, e = .returned (.int .i64 k) ∧ (k == 0) = od ∧ Ext w w') := hid fun h0 u w h hT => by
            refine (Twos_c u _ 24000 w h sf (by decide) (Rat.den_intCast f) (by rw [Rat.num_intCast]; exact h0) hT).mono fun e w' ⟨k, h1, h2, h3⟩ => ⟨k, h1, ?_, h3⟩
            rw [Rat.num_intCast] at h2
            rw [hod, decide_eq_true h0, Bool.true_and]
            by_cases hk : k = 0
            · rw [decide_eq_true (h2.1 hk), hk]; rfl
            · rw [decide_eq_false (fun e => hk (h2.2 e))]; exact beq_eq_false_iff_ne.2 hk
          have CS1 : Hid (∀ u v w, NumV w u q → NumV w v (f : Rat) → Calls Tryz.prog 13 #[u, v] w fun e w' => ∃ z, e = .returned z ∧ NumV w' z (q - (f : Rat)) ∧ Ext w w') := hid fun u v w h k => Sub_c u v q _ 24000 w h k sq sf (by decide)
          have CSH : Hid (∀ u w, NumV w u (q - (f : Rat)) → Calls Tryz.prog 37 #[u, .int .i64 1] w fun e w' => ∃ z, e = .returned z ∧ NumV w' z ((q - (f : Rat)) * (2 : Rat) ^ (1 : Int)) ∧ Ext w w') := hid fun u w h => shift_c u _ 48001 1 w h sd (by decide) (by decide) (by decide)
          have CIN : Hid (∀ w, Calls Tryz.prog 56 #[.int .i64 1] w fun e w' => ∃ z, e = .returned z ∧ NumV w' z 1 ∧ Ext w w') := hid fun w => Int_c 1 w (by decide) (by decide)
          have CCM : Hid (∀ u v w, NumV w u ((q - (f : Rat)) * (2 : Rat) ^ (1 : Int)) → NumV w v 1 → Calls Tryz.prog 8 #[u, v] w fun e w' => e = .returned (.int .i64 cc) ∧ Ext w w') := hid fun u v w h k => by
            rw [hcc]; exact Cmp_c u v _ 1 48100 w h k ((sd.mul_p2 1 2 (by decide)).mono (by decide)) s1 (by decide)
          have CUP : Hid (∀ o w, o = od → Calls Tryz.prog 74 #[.int .i64 0, .bool o, .int .i64 cc] w fun e w' => e = .returned (.bool up) ∧ Ext w w') := hid fun o w ho => by
            rw [ho, hup]; exact upward_c 0 od cc w (by decide) (by rw [hcc]; exact cmpQ_three _ _)
          have CAD : Hid (∀ u v w, NumV w u (f : Rat) → NumV w v 1 → Calls Tryz.prog 9 #[u, v] w fun e w' => ∃ z, e = .returned z ∧ NumV w' z ((f : Rat) + 1) ∧ Ext w w') := hid fun u v w h k => Add_c u v _ 1 48100 w h k (sf.mono (by decide)) s1 (by decide)
          have CML : Hid (∀ u v w, NumV w u qy → NumV w v (t : Rat) → Calls Tryz.prog 76 #[u, v] w fun e w' => ∃ z, e = .returned z ∧ NumV w' z (qy * (t : Rat)) ∧ Ext w w') := hid fun u v w h k => Mul_c u v qy _ 36003 w h k (SY.out.mono (by omega)) (st.mono (by decide)) (by decide)
          have CS2 : Hid (∀ u v w, NumV w u qx → NumV w v (qy * (t : Rat)) → Calls Tryz.prog 13 #[u, v] w fun e w' => ∃ z, e = .returned z ∧ NumV w' z rv ∧ Ext w w') := hid fun u v w h k => by
            rw [hrv]; exact Sub_c u v qx _ 36003 w h k (SX.out.mono (by omega)) sm (by decide)
          have HOD := hid hod
          clear hq0 hK hq hf ht hrv hod hcc hup hvv sq sf st sd sm s1 hx3 hy1 hx1 hy3
          obtain ⟨c_1, c_2, c_3, c_4⟩ := HB_M.out.c4
          obtain ⟨c_5, c_6, c_7, c_8, c_9⟩ := HB_X.out.c5
          obtain ⟨c_10, c_11, c_12, c_13, c_14⟩ := HB_Y.out.c5
          obtain ⟨c_15, c_16⟩ := HB_Z.out.c2
          go_wp2_with fail
          clear c_1 c_2 c_3 c_4 c_5 c_6 c_7 c_8 c_9 c_10 c_11 c_12 c_13 c_14 c_15 c_16
          refine (CQ.out _ _ _ hvx hvy).mono ?_
          rintro e w1 ⟨v1, rfl, kq, g1⟩
          have hz_w1 := g1.size
          replace HE := hid (HE.out.trans g1)
          replace HB_M := hid (HB_M.out.ext g1)
          replace HB_X := hid (HB_X.out.ext g1)
          replace HB_Y := hid (HB_Y.out.ext g1)
          replace HB_Z := hid (HB_Z.out.ext g1)
          replace hvx := hvx.ext g1
          replace hvy := hvy.ext g1
          obtain ⟨ngq17, aq17, nq17, cq17, aq17', nq17', cq17', rfl⟩ := kq.shape
          have gA := Ext.alloc w1 (.cells #[.bool ngq17, .slice aq17 nq17 cq17, .slice aq17' nq17' cq17'] 32)
          obtain ⟨c_18, c_19, c_20, c_21⟩ := (HB_M.out.ext gA).c4
          obtain ⟨c_22, c_23, c_24, c_25, c_26⟩ := (HB_X.out.ext gA).c5
          obtain ⟨c_27, c_28, c_29, c_30, c_31⟩ := (HB_Y.out.ext gA).c5
          obtain ⟨c_32, c_33⟩ := (HB_Z.out.ext gA).c2
          go_wp2_with fail
          clear gA c_18 c_19 c_20 c_21 c_22 c_23 c_24 c_25 c_26 c_27 c_28 c_29 c_30 c_31 c_32 c_33
          obtain ⟨W2, hW2, g2, hy2, B_Q⟩ := pro1 w1 #[.bool ngq17, .slice aq17 nq17 cq17, .slice aq17' nq17' cq17'] 32
          rw [← hW2]
          clear hW2
          have hz_W2 := g2.size
          replace HE := hid (HE.out.trans g2)
          replace HB_M := hid (HB_M.out.ext g2)
          replace HB_X := hid (HB_X.out.ext g2)
          replace HB_Y := hid (HB_Y.out.ext g2)
          replace HB_Z := hid (HB_Z.out.ext g2)
          replace hvx := hvx.ext g2
          replace hvy := hvy.ext g2
          replace kq := kq.ext g2
          have HB_Q := hid B_Q
          clear B_Q
          refine (CFL.out _ _ kq).mono ?_
          rintro e w3 ⟨v2, rfl, kf, g3⟩
          have hz_w3 := g3.size
          replace HE := hid (HE.out.trans g3)
          replace HB_M := hid (HB_M.out.ext g3)
          replace HB_X := hid (HB_X.out.ext g3)
          replace HB_Y := hid (HB_Y.out.ext g3)
          replace HB_Z := hid (HB_Z.out.ext g3)
          replace HB_Q := hid (HB_Q.out.ext g3)
          replace hvx := hvx.ext g3
          replace hvy := hvy.ext g3
          replace kq := kq.ext g3
          obtain ⟨ngq34, aq34, nq34, cq34, aq34', nq34', cq34', rfl⟩ := kf.shape
          have gA := Ext.alloc w3 (.cells #[.bool ngq34, .slice aq34 nq34 cq34, .slice aq34' nq34' cq34'] 32)
          obtain ⟨c_35, c_36, c_37, c_38⟩ := (HB_M.out.ext gA).c4
          obtain ⟨c_39, c_40, c_41, c_42, c_43⟩ := (HB_X.out.ext gA).c5
          obtain ⟨c_44, c_45, c_46, c_47, c_48⟩ := (HB_Y.out.ext gA).c5
          obtain ⟨c_49, c_50⟩ := (HB_Z.out.ext gA).c2
          obtain ⟨c_51, c_52, c_53⟩ := (HB_Q.out.ext gA).c3
          go_wp2_with fail
          clear gA c_35 c_36 c_37 c_38 c_39 c_40 c_41 c_42 c_43 c_44 c_45 c_46 c_47 c_48 c_49 c_50 c_51 c_52 c_53
          obtain ⟨W4, hW4, g4, hy4, B_F⟩ := pro1 w3 #[.bool ngq34, .slice aq34 nq34 cq34, .slice aq34' nq34' cq34'] 32
          rw [← hW4]
          clear hW4
          have hz_W4 := g4.size
          replace HE := hid (HE.out.trans g4)
          replace HB_M := hid (HB_M.out.ext g4)
          replace HB_X := hid (HB_X.out.ext g4)
          replace HB_Y := hid (HB_Y.out.ext g4)
          replace HB_Z := hid (HB_Z.out.ext g4)
          replace HB_Q := hid (HB_Q.out.ext g4)
          replace hvx := hvx.ext g4
          replace hvy := hvy.ext g4
          replace kq := kq.ext g4
          replace kf := kf.ext g4
          have HB_F := hid B_F
          clear B_F
          go_cut [63] (fun s wx => s = .bool up ∧ Hid (Ext W4 wx))
          case first =>
            by_cases h0 : f = 0
            · have H0 := hid h0
              clear h0
              have CSG0 : Hid (∀ u w, NumV w u (f : Rat) → Calls Tryz.prog 7 #[u] w fun e w' => e = .returned (.int .i64 0) ∧ Ext w w') := hid fun u w h => by
                have := CSG.out u w h
                rwa [show f.sign = 0 from by rw [H0.out]; rfl] at this
              have ho : Hid (false = od) := hid (by rw [HOD.out, decide_eq_false (fun h => h H0.out), Bool.false_and])
              have HS : Hid (∀ w', Ext W4 w' → w'.cell? ⟨w1.heap.size, 0, none⟩ = some (.bool ngq17) ∧ w'.cell? ⟨w1.heap.size, 1, none⟩ = some (.slice aq17 nq17 cq17) ∧ w'.cell? ⟨w1.heap.size, 2, none⟩ = some (.slice aq17' nq17' cq17') ∧ w'.cell? ⟨w3.heap.size, 0, none⟩ = some (.bool ngq34) ∧ w'.cell? ⟨w3.heap.size, 1, none⟩ = some (.slice aq34 nq34 cq34) ∧ w'.cell? ⟨w3.heap.size, 2, none⟩ = some (.slice aq34' nq34' cq34')) := hid fun w' h => ⟨(HB_Q.out.ext h).cell 0, (HB_Q.out.ext h).cell 1, (HB_Q.out.ext h).cell 2, (HB_F.out.ext h).cell 0, (HB_F.out.ext h).cell 1, (HB_F.out.ext h).cell 2⟩
              have hb0 : Ext W4 W4.drew := Below.drew (Below.refl _ W4)
              refine wp_region_held_drew (S := fun w' => w'.cell? ⟨w1.heap.size, 0, none⟩ = some (.bool ngq17) ∧ w'.cell? ⟨w1.heap.size, 1, none⟩ = some (.slice aq17 nq17 cq17) ∧ w'.cell? ⟨w1.heap.size, 2, none⟩ = some (.slice aq17' nq17' cq17') ∧ w'.cell? ⟨w3.heap.size, 0, none⟩ = some (.bool ngq34) ∧ w'.cell? ⟨w3.heap.size, 1, none⟩ = some (.slice aq34 nq34 cq34) ∧ w'.cell? ⟨w3.heap.size, 2, none⟩ = some (.slice aq34' nq34' cq34')) (by kernel_rfl) (HS.out _ hb0) (fun hHeld => ?_)
              refine wpAnyH_take (i := 0) (oi := { dst := some 49, op := Op.load 32 (Operand.tmp 10), type := 32, pos := "floats.go:250", after := #[], guard := none }) (v := ?_) rfl (by kernel_rfl) (by kernel_rfl) (by kernel_rfl) (fun _ _ _ h => h) (Or.inl ⟨by rfl, ?_⟩) (by assumption) ?_
              rotate_left
              · intro w' hSw
                (try dsimp only at hSw)
                go_simp <;> with_reducible rfl
              try simp only [Act.put, List.setIfInBounds_toArray, List.set_cons_zero, List.set_cons_succ]
              refine wpAnyH_take (i := 8) (oi := { dst := some 57, op := Op.load 32 (Operand.tmp 8), type := 32, pos := "floats.go:250", after := #[], guard := none }) (v := ?_) rfl (by kernel_rfl) (by kernel_rfl) (by kernel_rfl) (fun _ _ _ h => h) (Or.inl ⟨by rfl, ?_⟩) (by assumption) ?_
              rotate_left
              · intro w' hSw
                (try dsimp only at hSw)
                go_simp <;> with_reducible rfl
              try simp only [Act.put, List.setIfInBounds_toArray, List.set_cons_zero, List.set_cons_succ]
              refine wpAnyH_take (i := 9) (oi := { dst := some 58, op := Op.load 32 (Operand.tmp 10), type := 32, pos := "floats.go:250", after := #[], guard := none }) (v := ?_) rfl (by kernel_rfl) (by kernel_rfl) (by kernel_rfl) (fun _ _ _ h => h) (Or.inl ⟨by rfl, ?_⟩) (by assumption) ?_
              rotate_left
              · intro w' hSw
                (try dsimp only at hSw)
                go_simp <;> with_reducible rfl
              try simp only [Act.put, List.setIfInBounds_toArray, List.set_cons_zero, List.set_cons_succ]
              refine wpAnyH_ready (rs := [1]) (by kernel_rfl) (by simp) ?_
              refine AllReadyH.cons (o := { dst := some 50, op := Op.call { callee := Callee.value (Operand.func 7), args := #[Operand.tmp 49], argTypes := #[32] }, type := 3, pos := "floats.go:250", after := #[{ on := 0, ground := Ground.data }], guard := none }) rfl (fun K hK => ?_) AllReadyH.nil
              go_simp
              refine (CSG0.out _ _ (kf.ext hb0)).mono ?_
              rintro e x54_1 ⟨rfl, g1⟩
              have hb1 : Ext W4 x54_1 := hb0.trans g1
              try dsimp only
              refine hK.out _ _ (HS.out _ hb1) ?_
              clear hHeld
              intro hHeld
              clear hK K
              try simp only [Act.put, List.setIfInBounds_toArray, List.set_cons_zero, List.set_cons_succ]
              refine wpAnyH_take (i := 2) (oi := { dst := some 51, op := Op.binOp BinOp.neq 3 (Operand.tmp 50) (Operand.const (Value.int IntKind.i64 0)) 3, type := 4, pos := "floats.go:250", after := #[{ on := 1, ground := Ground.data }], guard := none }) (v := ?_) rfl (by kernel_rfl) (by kernel_rfl) (by kernel_rfl) (fun _ _ _ h => h) (Or.inl ⟨by rfl, ?_⟩) (by assumption) ?_
              rotate_left
              · intro w' hSw
                (try dsimp only at hSw)
                go_simp <;> with_reducible rfl
              try simp only [Act.put, List.setIfInBounds_toArray, List.set_cons_zero, List.set_cons_succ]
              refine wpAnyH_take (i := 3) (oi := { dst := some 52, op := Op.move (Operand.tmp 51), type := 4, pos := "floats.go:250", after := #[{ on := 2, ground := Ground.data }, { on := 1, ground := Ground.chain }], guard := none }) (v := ?_) rfl (by kernel_rfl) (by kernel_rfl) (by kernel_rfl) (fun _ _ _ h => h) (Or.inl ⟨by rfl, ?_⟩) (by assumption) ?_
              rotate_left
              · intro w' hSw
                (try dsimp only at hSw)
                go_simp <;> with_reducible rfl
              try simp only [Act.put, List.setIfInBounds_toArray, List.set_cons_zero, List.set_cons_succ]
              refine wpAnyH_take (i := 4) (oi := { dst := some 53, op := Op.load 32 (Operand.tmp 10), type := 32, pos := "floats.go:250", after := #[{ on := 3, ground := Ground.guard }], guard := some (3, true) }) (v := undef) rfl (by kernel_rfl) (by kernel_rfl) (by kernel_rfl) (fun _ _ _ h => h) (Or.inr ⟨by rfl, rfl⟩) (by assumption) ?_
              try simp only [Act.put, List.setIfInBounds_toArray, List.set_cons_zero, List.set_cons_succ]
              refine wpAnyH_take (i := 5) (oi := { dst := some 54, op := Op.call { callee := Callee.value (Operand.func 75), args := #[Operand.tmp 53], argTypes := #[32] }, type := 3, pos := "floats.go:250", after := #[{ on := 4, ground := Ground.data }, { on := 3, ground := Ground.chain }, { on := 3, ground := Ground.guard }], guard := some (3, true) }) (v := undef) rfl (by kernel_rfl) (by kernel_rfl) (by kernel_rfl) (fun _ _ _ h => h) (Or.inr ⟨by rfl, rfl⟩) (by assumption) ?_
              try simp only [Act.put, List.setIfInBounds_toArray, List.set_cons_zero, List.set_cons_succ]
              refine wpAnyH_take (i := 6) (oi := { dst := some 55, op := Op.binOp BinOp.eql 3 (Operand.tmp 54) (Operand.const (Value.int IntKind.i64 0)) 3, type := 4, pos := "floats.go:250", after := #[{ on := 5, ground := Ground.data }, { on := 3, ground := Ground.guard }], guard := some (3, true) }) (v := undef) rfl (by kernel_rfl) (by kernel_rfl) (by kernel_rfl) (fun _ _ _ h => h) (Or.inr ⟨by rfl, rfl⟩) (by assumption) ?_
              try simp only [Act.put, List.setIfInBounds_toArray, List.set_cons_zero, List.set_cons_succ]
              refine wpAnyH_take (i := 7) (oi := { dst := some 56, op := Op.pick (Operand.tmp 52) (Operand.tmp 55) (Operand.const (Value.bool false)), type := 4, pos := "floats.go:250", after := #[{ on := 3, ground := Ground.data }, { on := 6, ground := Ground.data }], guard := none }) (v := ?_) rfl (by kernel_rfl) (by kernel_rfl) (by kernel_rfl) (fun _ _ _ h => h) (Or.inl ⟨by rfl, ?_⟩) (by assumption) ?_
              rotate_left
              · intro w' hSw
                (try dsimp only at hSw)
                go_simp <;> with_reducible rfl
              try simp only [Act.put, List.setIfInBounds_toArray, List.set_cons_zero, List.set_cons_succ]
              refine wpAnyH_ready (rs := [10]) (by kernel_rfl) (by simp) ?_
              refine AllReadyH.cons (o := { dst := some 59, op := Op.call { callee := Callee.value (Operand.func 13), args := #[Operand.tmp 57, Operand.tmp 58], argTypes := #[32, 32] }, type := 32, pos := "floats.go:250", after := #[{ on := 8, ground := Ground.data }, { on := 9, ground := Ground.data }, { on := 5, ground := Ground.chain }], guard := none }) rfl (fun K hK => ?_) AllReadyH.nil
              go_simp
              refine (CS1.out _ _ _ (kq.ext hb1) (kf.ext hb1)).mono ?_
              rintro e x54_2 ⟨va, rfl, ka, g2⟩
              have hb2 : Ext W4 x54_2 := hb1.trans g2
              try dsimp only
              refine hK.out _ _ (HS.out _ hb2) ?_
              clear hHeld
              intro hHeld
              clear hK K
              try simp only [Act.put, List.setIfInBounds_toArray, List.set_cons_zero, List.set_cons_succ]
              refine wpAnyH_ready (rs := [11]) (by kernel_rfl) (by simp) ?_
              refine AllReadyH.cons (o := { dst := some 60, op := Op.call { callee := Callee.value (Operand.func 37), args := #[Operand.tmp 59, Operand.const (Value.int IntKind.i64 1)], argTypes := #[32, 3] }, type := 32, pos := "floats.go:250", after := #[{ on := 10, ground := Ground.data }, { on := 10, ground := Ground.chain }], guard := none }) rfl (fun K hK => ?_) AllReadyH.nil
              go_simp
              refine (CSH.out _ _ ka).mono ?_
              rintro e x54_3 ⟨vb, rfl, kb, g3⟩
              have hb3 : Ext W4 x54_3 := hb2.trans g3
              try dsimp only
              refine hK.out _ _ (HS.out _ hb3) ?_
              clear hHeld
              intro hHeld
              clear hK K
              try simp only [Act.put, List.setIfInBounds_toArray, List.set_cons_zero, List.set_cons_succ]
              refine wpAnyH_ready (rs := [12]) (by kernel_rfl) (by simp) ?_
              refine AllReadyH.cons (o := { dst := some 61, op := Op.call { callee := Callee.value (Operand.func 56), args := #[Operand.const (Value.int IntKind.i64 1)], argTypes := #[2] }, type := 32, pos := "floats.go:250", after := #[{ on := 11, ground := Ground.chain }], guard := none }) rfl (fun K hK => ?_) AllReadyH.nil
              go_simp
              refine (CIN.out _).mono ?_
              rintro e x54_4 ⟨vi, rfl, ki, g4⟩
              have hb4 : Ext W4 x54_4 := hb3.trans g4
              try dsimp only
              refine hK.out _ _ (HS.out _ hb4) ?_
              clear hHeld
              intro hHeld
              clear hK K
              try simp only [Act.put, List.setIfInBounds_toArray, List.set_cons_zero, List.set_cons_succ]
              refine wpAnyH_ready (rs := [13]) (by kernel_rfl) (by simp) ?_
              refine AllReadyH.cons (o := { dst := some 62, op := Op.call { callee := Callee.value (Operand.func 8), args := #[Operand.tmp 60, Operand.tmp 61], argTypes := #[32, 32] }, type := 3, pos := "floats.go:250", after := #[{ on := 11, ground := Ground.data }, { on := 12, ground := Ground.data }, { on := 12, ground := Ground.chain }], guard := none }) rfl (fun K hK => ?_) AllReadyH.nil
              go_simp
              refine (CCM.out _ _ _ (kb.ext g4) ki).mono ?_
              rintro e x54_5 ⟨rfl, g5⟩
              have hb5 : Ext W4 x54_5 := hb4.trans g5
              try dsimp only
              refine hK.out _ _ (HS.out _ hb5) ?_
              clear hHeld
              intro hHeld
              clear hK K
              try simp only [Act.put, List.setIfInBounds_toArray, List.set_cons_zero, List.set_cons_succ]
              refine wpAnyH_ready (rs := [14]) (by kernel_rfl) (by simp) ?_
              refine AllReadyH.cons (o := { dst := some 63, op := Op.call { callee := Callee.value (Operand.func 74), args := #[Operand.const (Value.int IntKind.i64 0), Operand.tmp 56, Operand.tmp 62], argTypes := #[3, 4, 3] }, type := 4, pos := "floats.go:250", after := #[{ on := 7, ground := Ground.data }, { on := 13, ground := Ground.data }, { on := 13, ground := Ground.chain }], guard := none }) rfl (fun K hK => ?_) AllReadyH.nil
              go_simp
              refine (CUP.out _ _ ho.out).mono ?_
              rintro e x54_6 ⟨rfl, g6⟩
              have hb6 : Ext W4 x54_6 := hb5.trans g6
              try dsimp only
              refine hK.out _ _ (HS.out _ hb6) ?_
              clear hHeld
              intro hHeld
              clear hK K
              try simp only [Act.put, List.setIfInBounds_toArray, List.set_cons_zero, List.set_cons_succ]
              refine wpAnyH_done (by kernel_rfl) ?_ _
              clear HS hHeld
              go_wp2_with fail
              go_meet
              exact ⟨rfl, hid hb6⟩
            · have H0 := hid h0
              clear h0
              obtain ⟨s0, hs0⟩ : ∃ s, s = f.sign := ⟨_, rfl⟩
              have CSG0 : Hid (∀ u w, NumV w u (f : Rat) → Calls Tryz.prog 7 #[u] w fun e w' => e = .returned (.int .i64 s0) ∧ Ext w w') := hid (by rw [hs0]; exact CSG.out)
              have hs1 : s0 ≠ 0 := fun h => H0.out (Int.sign_eq_zero_iff_zero.1 (by rw [← hs0]; exact h))
              have hs2 : (s0 == 0) = false := beq_eq_false_iff_ne.2 hs1
              have hs3 : (s0 != 0) = true := bne_iff_ne.2 hs1
              clear hs0 hs1
              have HS : Hid (∀ w', Ext W4 w' → w'.cell? ⟨w1.heap.size, 0, none⟩ = some (.bool ngq17) ∧ w'.cell? ⟨w1.heap.size, 1, none⟩ = some (.slice aq17 nq17 cq17) ∧ w'.cell? ⟨w1.heap.size, 2, none⟩ = some (.slice aq17' nq17' cq17') ∧ w'.cell? ⟨w3.heap.size, 0, none⟩ = some (.bool ngq34) ∧ w'.cell? ⟨w3.heap.size, 1, none⟩ = some (.slice aq34 nq34 cq34) ∧ w'.cell? ⟨w3.heap.size, 2, none⟩ = some (.slice aq34' nq34' cq34')) := hid fun w' h => ⟨(HB_Q.out.ext h).cell 0, (HB_Q.out.ext h).cell 1, (HB_Q.out.ext h).cell 2, (HB_F.out.ext h).cell 0, (HB_F.out.ext h).cell 1, (HB_F.out.ext h).cell 2⟩
              have hb0 : Ext W4 W4.drew := Below.drew (Below.refl _ W4)
              refine wp_region_held_drew (S := fun w' => w'.cell? ⟨w1.heap.size, 0, none⟩ = some (.bool ngq17) ∧ w'.cell? ⟨w1.heap.size, 1, none⟩ = some (.slice aq17 nq17 cq17) ∧ w'.cell? ⟨w1.heap.size, 2, none⟩ = some (.slice aq17' nq17' cq17') ∧ w'.cell? ⟨w3.heap.size, 0, none⟩ = some (.bool ngq34) ∧ w'.cell? ⟨w3.heap.size, 1, none⟩ = some (.slice aq34 nq34 cq34) ∧ w'.cell? ⟨w3.heap.size, 2, none⟩ = some (.slice aq34' nq34' cq34')) (by kernel_rfl) (HS.out _ hb0) (fun hHeld => ?_)
              refine wpAnyH_take (i := 0) (oi := { dst := some 49, op := Op.load 32 (Operand.tmp 10), type := 32, pos := "floats.go:250", after := #[], guard := none }) (v := ?_) rfl (by kernel_rfl) (by kernel_rfl) (by kernel_rfl) (fun _ _ _ h => h) (Or.inl ⟨by rfl, ?_⟩) (by assumption) ?_
              rotate_left
              · intro w' hSw
                (try dsimp only at hSw)
                go_simp <;> with_reducible rfl
              try simp only [Act.put, List.setIfInBounds_toArray, List.set_cons_zero, List.set_cons_succ]
              refine wpAnyH_take (i := 8) (oi := { dst := some 57, op := Op.load 32 (Operand.tmp 8), type := 32, pos := "floats.go:250", after := #[], guard := none }) (v := ?_) rfl (by kernel_rfl) (by kernel_rfl) (by kernel_rfl) (fun _ _ _ h => h) (Or.inl ⟨by rfl, ?_⟩) (by assumption) ?_
              rotate_left
              · intro w' hSw
                (try dsimp only at hSw)
                go_simp <;> with_reducible rfl
              try simp only [Act.put, List.setIfInBounds_toArray, List.set_cons_zero, List.set_cons_succ]
              refine wpAnyH_take (i := 9) (oi := { dst := some 58, op := Op.load 32 (Operand.tmp 10), type := 32, pos := "floats.go:250", after := #[], guard := none }) (v := ?_) rfl (by kernel_rfl) (by kernel_rfl) (by kernel_rfl) (fun _ _ _ h => h) (Or.inl ⟨by rfl, ?_⟩) (by assumption) ?_
              rotate_left
              · intro w' hSw
                (try dsimp only at hSw)
                go_simp <;> with_reducible rfl
              try simp only [Act.put, List.setIfInBounds_toArray, List.set_cons_zero, List.set_cons_succ]
              refine wpAnyH_ready (rs := [1]) (by kernel_rfl) (by simp) ?_
              refine AllReadyH.cons (o := { dst := some 50, op := Op.call { callee := Callee.value (Operand.func 7), args := #[Operand.tmp 49], argTypes := #[32] }, type := 3, pos := "floats.go:250", after := #[{ on := 0, ground := Ground.data }], guard := none }) rfl (fun K hK => ?_) AllReadyH.nil
              go_simp
              refine (CSG0.out _ _ (kf.ext hb0)).mono ?_
              rintro e x54_1 ⟨rfl, g1⟩
              have hb1 : Ext W4 x54_1 := hb0.trans g1
              try dsimp only
              refine hK.out _ _ (HS.out _ hb1) ?_
              clear hHeld
              intro hHeld
              clear hK K
              try simp only [Act.put, List.setIfInBounds_toArray, List.set_cons_zero, List.set_cons_succ]
              refine wpAnyH_take (i := 2) (oi := { dst := some 51, op := Op.binOp BinOp.neq 3 (Operand.tmp 50) (Operand.const (Value.int IntKind.i64 0)) 3, type := 4, pos := "floats.go:250", after := #[{ on := 1, ground := Ground.data }], guard := none }) (v := ?_) rfl (by kernel_rfl) (by kernel_rfl) (by kernel_rfl) (fun _ _ _ h => h) (Or.inl ⟨by rfl, ?_⟩) (by assumption) ?_
              rotate_left
              · intro w' hSw
                (try dsimp only at hSw)
                go_simp <;> with_reducible rfl
              try simp only [Act.put, List.setIfInBounds_toArray, List.set_cons_zero, List.set_cons_succ]
              refine wpAnyH_take (i := 3) (oi := { dst := some 52, op := Op.move (Operand.tmp 51), type := 4, pos := "floats.go:250", after := #[{ on := 2, ground := Ground.data }, { on := 1, ground := Ground.chain }], guard := none }) (v := ?_) rfl (by kernel_rfl) (by kernel_rfl) (by kernel_rfl) (fun _ _ _ h => h) (Or.inl ⟨by rfl, ?_⟩) (by assumption) ?_
              rotate_left
              · intro w' hSw
                (try dsimp only at hSw)
                go_simp <;> with_reducible rfl
              try simp only [Act.put, List.setIfInBounds_toArray, List.set_cons_zero, List.set_cons_succ]
              refine wpAnyH_take (i := 4) (oi := { dst := some 53, op := Op.load 32 (Operand.tmp 10), type := 32, pos := "floats.go:250", after := #[{ on := 3, ground := Ground.guard }], guard := some (3, true) }) (v := ?_) rfl (by kernel_rfl) (by kernel_rfl) (by kernel_rfl) (fun _ _ _ h => h) (Or.inl ⟨by rfl, ?_⟩) (by assumption) ?_
              rotate_left
              · intro w' hSw
                (try dsimp only at hSw)
                go_simp <;> with_reducible rfl
              try simp only [Act.put, List.setIfInBounds_toArray, List.set_cons_zero, List.set_cons_succ]
              refine wpAnyH_ready (rs := [5]) (by kernel_rfl) (by simp) ?_
              refine AllReadyH.cons (o := { dst := some 54, op := Op.call { callee := Callee.value (Operand.func 75), args := #[Operand.tmp 53], argTypes := #[32] }, type := 3, pos := "floats.go:250", after := #[{ on := 4, ground := Ground.data }, { on := 3, ground := Ground.chain }, { on := 3, ground := Ground.guard }], guard := some (3, true) }) rfl (fun K hK => ?_) AllReadyH.nil
              go_simp
              refine (CTW.out H0.out _ _ (kf.ext hb1) (HT.out.ext (HE.out.trans hb1))).mono ?_
              rintro e x54_2 ⟨tw, rfl, htw, g2⟩
              have hb2 : Ext W4 x54_2 := hb1.trans g2
              have ho := hid htw
              clear htw
              try dsimp only
              refine hK.out _ _ (HS.out _ hb2) ?_
              clear hHeld
              intro hHeld
              clear hK K
              try simp only [Act.put, List.setIfInBounds_toArray, List.set_cons_zero, List.set_cons_succ]
              refine wpAnyH_take (i := 6) (oi := { dst := some 55, op := Op.binOp BinOp.eql 3 (Operand.tmp 54) (Operand.const (Value.int IntKind.i64 0)) 3, type := 4, pos := "floats.go:250", after := #[{ on := 5, ground := Ground.data }, { on := 3, ground := Ground.guard }], guard := some (3, true) }) (v := ?_) rfl (by kernel_rfl) (by kernel_rfl) (by kernel_rfl) (fun _ _ _ h => h) (Or.inl ⟨by rfl, ?_⟩) (by assumption) ?_
              rotate_left
              · intro w' hSw
                (try dsimp only at hSw)
                go_simp <;> with_reducible rfl
              try simp only [Act.put, List.setIfInBounds_toArray, List.set_cons_zero, List.set_cons_succ]
              refine wpAnyH_take (i := 7) (oi := { dst := some 56, op := Op.pick (Operand.tmp 52) (Operand.tmp 55) (Operand.const (Value.bool false)), type := 4, pos := "floats.go:250", after := #[{ on := 3, ground := Ground.data }, { on := 6, ground := Ground.data }], guard := none }) (v := ?_) rfl (by kernel_rfl) (by kernel_rfl) (by kernel_rfl) (fun _ _ _ h => h) (Or.inl ⟨by rfl, ?_⟩) (by assumption) ?_
              rotate_left
              · intro w' hSw
                (try dsimp only at hSw)
                go_simp <;> with_reducible rfl
              try simp only [Act.put, List.setIfInBounds_toArray, List.set_cons_zero, List.set_cons_succ]
              refine wpAnyH_ready (rs := [10]) (by kernel_rfl) (by simp) ?_
              refine AllReadyH.cons (o := { dst := some 59, op := Op.call { callee := Callee.value (Operand.func 13), args := #[Operand.tmp 57, Operand.tmp 58], argTypes := #[32, 32] }, type := 32, pos := "floats.go:250", after := #[{ on := 8, ground := Ground.data }, { on := 9, ground := Ground.data }, { on := 5, ground := Ground.chain }], guard := none }) rfl (fun K hK => ?_) AllReadyH.nil
              go_simp
              refine (CS1.out _ _ _ (kq.ext hb2) (kf.ext hb2)).mono ?_
              rintro e x54_3 ⟨va, rfl, ka, g3⟩
              have hb3 : Ext W4 x54_3 := hb2.trans g3
              try dsimp only
              refine hK.out _ _ (HS.out _ hb3) ?_
              clear hHeld
              intro hHeld
              clear hK K
              try simp only [Act.put, List.setIfInBounds_toArray, List.set_cons_zero, List.set_cons_succ]
              refine wpAnyH_ready (rs := [11]) (by kernel_rfl) (by simp) ?_
              refine AllReadyH.cons (o := { dst := some 60, op := Op.call { callee := Callee.value (Operand.func 37), args := #[Operand.tmp 59, Operand.const (Value.int IntKind.i64 1)], argTypes := #[32, 3] }, type := 32, pos := "floats.go:250", after := #[{ on := 10, ground := Ground.data }, { on := 10, ground := Ground.chain }], guard := none }) rfl (fun K hK => ?_) AllReadyH.nil
              go_simp
              refine (CSH.out _ _ ka).mono ?_
              rintro e x54_4 ⟨vb, rfl, kb, g4⟩
              have hb4 : Ext W4 x54_4 := hb3.trans g4
              try dsimp only
              refine hK.out _ _ (HS.out _ hb4) ?_
              clear hHeld
              intro hHeld
              clear hK K
              try simp only [Act.put, List.setIfInBounds_toArray, List.set_cons_zero, List.set_cons_succ]
              refine wpAnyH_ready (rs := [12]) (by kernel_rfl) (by simp) ?_
              refine AllReadyH.cons (o := { dst := some 61, op := Op.call { callee := Callee.value (Operand.func 56), args := #[Operand.const (Value.int IntKind.i64 1)], argTypes := #[2] }, type := 32, pos := "floats.go:250", after := #[{ on := 11, ground := Ground.chain }], guard := none }) rfl (fun K hK => ?_) AllReadyH.nil
              go_simp
              refine (CIN.out _).mono ?_
              rintro e x54_5 ⟨vi, rfl, ki, g5⟩
              have hb5 : Ext W4 x54_5 := hb4.trans g5
              try dsimp only
              refine hK.out _ _ (HS.out _ hb5) ?_
              clear hHeld
              intro hHeld
              clear hK K
              try simp only [Act.put, List.setIfInBounds_toArray, List.set_cons_zero, List.set_cons_succ]
              refine wpAnyH_ready (rs := [13]) (by kernel_rfl) (by simp) ?_
              refine AllReadyH.cons (o := { dst := some 62, op := Op.call { callee := Callee.value (Operand.func 8), args := #[Operand.tmp 60, Operand.tmp 61], argTypes := #[32, 32] }, type := 3, pos := "floats.go:250", after := #[{ on := 11, ground := Ground.data }, { on := 12, ground := Ground.data }, { on := 12, ground := Ground.chain }], guard := none }) rfl (fun K hK => ?_) AllReadyH.nil
              go_simp
              refine (CCM.out _ _ _ (kb.ext g5) ki).mono ?_
              rintro e x54_6 ⟨rfl, g6⟩
              have hb6 : Ext W4 x54_6 := hb5.trans g6
              try dsimp only
              refine hK.out _ _ (HS.out _ hb6) ?_
              clear hHeld
              intro hHeld
              clear hK K
              try simp only [Act.put, List.setIfInBounds_toArray, List.set_cons_zero, List.set_cons_succ]
              refine wpAnyH_ready (rs := [14]) (by kernel_rfl) (by simp) ?_
              refine AllReadyH.cons (o := { dst := some 63, op := Op.call { callee := Callee.value (Operand.func 74), args := #[Operand.const (Value.int IntKind.i64 0), Operand.tmp 56, Operand.tmp 62], argTypes := #[3, 4, 3] }, type := 4, pos := "floats.go:250", after := #[{ on := 7, ground := Ground.data }, { on := 13, ground := Ground.data }, { on := 13, ground := Ground.chain }], guard := none }) rfl (fun K hK => ?_) AllReadyH.nil
              go_simp
              refine (CUP.out _ _ ho.out).mono ?_
              rintro e x54_7 ⟨rfl, g7⟩
              have hb7 : Ext W4 x54_7 := hb6.trans g7
              try dsimp only
              refine hK.out _ _ (HS.out _ hb7) ?_
              clear hHeld
              intro hHeld
              clear hK K
              try simp only [Act.put, List.setIfInBounds_toArray, List.set_cons_zero, List.set_cons_succ]
              refine wpAnyH_done (by kernel_rfl) ?_ _
              clear HS hHeld
              go_wp2_with fail
              go_meet
              exact ⟨rfl, hid hb7⟩
          case rest =>
            obtain ⟨rfl, gx⟩ := hcut
            obtain ⟨wd, rfl⟩ : ∃ x, x = wc := ⟨_, rfl⟩
            replace gx := gx.out
            have hz_wd := gx.size
            replace HE := hid (HE.out.trans gx)
            replace HB_M := hid (HB_M.out.ext gx)
            replace HB_X := hid (HB_X.out.ext gx)
            replace HB_Y := hid (HB_Y.out.ext gx)
            replace HB_Z := hid (HB_Z.out.ext gx)
            replace HB_Q := hid (HB_Q.out.ext gx)
            replace HB_F := hid (HB_F.out.ext gx)
            replace hvx := hvx.ext gx
            replace hvy := hvy.ext gx
            replace kq := kq.ext gx
            replace kf := kf.ext gx
            go_upto_if 63 with (fail)
            go_cut [] (fun wx => ∃ (zg : Bool) (za : Option Addr) (zn zc : Nat) (za' : Option Addr) (zn' zc' : Nat), Hid (Ext w wx) ∧ Hid (Box wx (w.heap.size) #[.int .i64 E, .int .i64 P, .int .i64 m, .int .i64 b] 66) ∧ Hid (Box wx (w.heap.size + 1) #[.int .i64 kx, .bool nx, .bool ng, .slice a n c, .slice a' n' c'] 70) ∧ Hid (Box wx (w.heap.size + 1 + 1) #[.int .i64 ky, .bool ny, .bool mg, .slice d k e, .slice d' k' e'] 70) ∧ Hid (Box wx (w.heap.size + 1 + 1 + 1) #[.int .u64 0, .int .u64 0] 26) ∧ Hid (Box wx (w3.heap.size) #[.bool zg, .slice za zn zc, .slice za' zn' zc'] 32) ∧ NumV wx (.agg #[.bool ng, .slice a n c, .slice a' n' c']) qx ∧ NumV wx (.agg #[.bool mg, .slice d k e, .slice d' k' e']) qy ∧ NumV wx (.agg #[.bool zg, .slice za zn zc, .slice za' zn' zc']) (t : Rat) ∧ wd.heap.size ≤ wx.heap.size)
            case first =>
              cases up
              · have hn : Hid (t = f) := hid (by rw [HN.out]; simp)
                rw [← hn.out] at kf
                obtain ⟨c_54, c_55, c_56, c_57⟩ := HB_M.out.c4
                obtain ⟨c_58, c_59, c_60, c_61, c_62⟩ := HB_X.out.c5
                obtain ⟨c_63, c_64, c_65, c_66, c_67⟩ := HB_Y.out.c5
                obtain ⟨c_68, c_69⟩ := HB_Z.out.c2
                obtain ⟨c_70, c_71, c_72⟩ := HB_Q.out.c3
                obtain ⟨c_73, c_74, c_75⟩ := HB_F.out.c3
                go_wp2_with fail
                clear c_54 c_55 c_56 c_57 c_58 c_59 c_60 c_61 c_62 c_63 c_64 c_65 c_66 c_67 c_68 c_69 c_70 c_71 c_72 c_73 c_74 c_75
                go_meet
                exact ⟨_, _, _, _, _, _, _, HE, HB_M, HB_X, HB_Y, HB_Z, HB_F, hvx, hvy, kf, Nat.le_refl _⟩
              · have hn : Hid ((f : Rat) + 1 = (t : Rat)) := hid (by rw [HN.out, if_pos rfl, Rat.intCast_add]; rfl)
                obtain ⟨c_54, c_55, c_56, c_57⟩ := HB_M.out.c4
                obtain ⟨c_58, c_59, c_60, c_61, c_62⟩ := HB_X.out.c5
                obtain ⟨c_63, c_64, c_65, c_66, c_67⟩ := HB_Y.out.c5
                obtain ⟨c_68, c_69⟩ := HB_Z.out.c2
                obtain ⟨c_70, c_71, c_72⟩ := HB_Q.out.c3
                obtain ⟨c_73, c_74, c_75⟩ := HB_F.out.c3
                go_wp2_with fail
                clear c_54 c_55 c_56 c_57 c_58 c_59 c_60 c_61 c_62 c_63 c_64 c_65 c_66 c_67 c_68 c_69 c_70 c_71 c_72 c_73 c_74 c_75
                have hb0 : Ext wd wd.drew := Below.drew (Below.refl _ wd)
                obtain ⟨c_77, c_78, c_79⟩ := (HB_F.out.ext hb0).c3
                go_region_with (first
                      | (go_at_call 56; (with_reducible refine (CIN.out _).mono ?_); rintro e x76_1 ⟨v1, rfl, m1, g1⟩; have hb1 : Ext wd x76_1 := hb0.trans g1; obtain ⟨d_80, d_81, d_82⟩ := (HB_F.out.ext hb1).c3; obtain ⟨d_83, d_84, d_85⟩ := (HB_F.out.ext hb1).f3)
                      | (go_at_call 9; (with_reducible refine (CAD.out _ _ _ (kf.ext hb1) m1).mono ?_); rintro e x76_2 ⟨v2, rfl, m2, g2⟩; have hb2 : Ext wd x76_2 := hb1.trans g2; rw [hn.out] at m2; obtain ⟨zg, za, zn, zc, za', zn', zc', rfl⟩ := m2.shape; obtain ⟨d_86, d_87, d_88⟩ := (HB_F.out.ext hb2).c3; obtain ⟨d_89, d_90, d_91⟩ := (HB_F.out.ext hb2).f3))
                all_goals
                  go_wp2_with fail
                  have hz_x76_2 := hb2.size
                  replace HE := hid (HE.out.trans hb2)
                  replace HB_M := hid (HB_M.out.ext hb2)
                  replace HB_X := hid (HB_X.out.ext hb2)
                  replace HB_Y := hid (HB_Y.out.ext hb2)
                  replace HB_Z := hid (HB_Z.out.ext hb2)
                  replace HB_Q := hid (HB_Q.out.ext hb2)
                  replace HB_F := hid (HB_F.out.ext hb2)
                  replace hvx := hvx.ext hb2
                  replace hvy := hvy.ext hb2
                  replace kq := kq.ext hb2
                  obtain ⟨W5, hW5, g5, q5, B5, hy5, ho5⟩ := sto3 HE.out (by omega) HB_F.out (by decide) (.bool zg) (.slice za zn zc) (.slice za' zn' zc')
                  rw [← hW5]
                  clear hW5
                  replace HE := hid g5
                  replace HB_M := hid (ho5 _ _ _ (by omega) HB_M.out)
                  replace HB_X := hid (ho5 _ _ _ (by omega) HB_X.out)
                  replace HB_Y := hid (ho5 _ _ _ (by omega) HB_Y.out)
                  replace HB_Z := hid (ho5 _ _ _ (by omega) HB_Z.out)
                  replace HB_Q := hid (ho5 _ _ _ (by omega) HB_Q.out)
                  replace HB_F := hid B5
                  replace hvx := hvx.keep q5
                  replace hvy := hvy.keep q5
                  replace kq := kq.keep q5
                  replace m2 := m2.keep q5
                  go_meet
                  exact ⟨zg, za, zn, zc, za', zn', zc', HE, HB_M, HB_X, HB_Y, HB_Z, HB_F, hvx, hvy, m2, by omega⟩
            case rest =>
              obtain ⟨zg, za, zn, zc, za', zn', zc', HE, HB_M, HB_X, HB_Y, HB_Z, HB_F, hvx, hvy, kt, hzd⟩ := hcut
              obtain ⟨wf, rfl⟩ : ∃ x, x = wc := ⟨_, rfl⟩
              clear HN HOD CQ CFL CSG CTW CS1 CSH CIN CCM CUP CAD HB_Q kq kf
              obtain ⟨c_54, c_55, c_56, c_57⟩ := HB_M.out.c4
              obtain ⟨c_58, c_59, c_60, c_61, c_62⟩ := HB_X.out.c5
              obtain ⟨c_63, c_64, c_65, c_66, c_67⟩ := HB_Y.out.c5
              obtain ⟨c_68, c_69⟩ := HB_Z.out.c2
              obtain ⟨c_70, c_71, c_72⟩ := HB_F.out.c3
              go_wp2_with fail
              clear c_54 c_55 c_56 c_57 c_58 c_59 c_60 c_61 c_62 c_63 c_64 c_65 c_66 c_67 c_68 c_69 c_70 c_71 c_72
              have HS : Hid (∀ w', Ext wf w' → w'.cell? ⟨w.heap.size + 1, 0, none⟩ = some (.int .i64 kx) ∧ w'.cell? ⟨w.heap.size + 1, 1, none⟩ = some (.bool nx) ∧ w'.cell? ⟨w.heap.size + 1, 2, none⟩ = some (.bool ng) ∧ w'.cell? ⟨w.heap.size + 1, 3, none⟩ = some (.slice a n c) ∧ w'.cell? ⟨w.heap.size + 1, 4, none⟩ = some (.slice a' n' c') ∧ w'.cell? ⟨w.heap.size + 1 + 1, 0, none⟩ = some (.int .i64 ky) ∧ w'.cell? ⟨w.heap.size + 1 + 1, 1, none⟩ = some (.bool ny) ∧ w'.cell? ⟨w.heap.size + 1 + 1, 2, none⟩ = some (.bool mg) ∧ w'.cell? ⟨w.heap.size + 1 + 1, 3, none⟩ = some (.slice d k e) ∧ w'.cell? ⟨w.heap.size + 1 + 1, 4, none⟩ = some (.slice d' k' e') ∧ w'.cell? ⟨w3.heap.size, 0, none⟩ = some (.bool zg) ∧ w'.cell? ⟨w3.heap.size, 1, none⟩ = some (.slice za zn zc) ∧ w'.cell? ⟨w3.heap.size, 2, none⟩ = some (.slice za' zn' zc')) := hid fun w' h => ⟨(HB_X.out.ext h).cell 0, (HB_X.out.ext h).cell 1, (HB_X.out.ext h).cell 2, (HB_X.out.ext h).cell 3, (HB_X.out.ext h).cell 4, (HB_Y.out.ext h).cell 0, (HB_Y.out.ext h).cell 1, (HB_Y.out.ext h).cell 2, (HB_Y.out.ext h).cell 3, (HB_Y.out.ext h).cell 4, (HB_F.out.ext h).cell 0, (HB_F.out.ext h).cell 1, (HB_F.out.ext h).cell 2⟩
              have hlt_X : w.heap.size + 1 < wf.heap.size := cell_lt HB_X.out
              have hlt_Y : w.heap.size + 1 + 1 < wf.heap.size := cell_lt HB_Y.out
              have hlt_F : w3.heap.size < wf.heap.size := cell_lt HB_F.out
              have HSN : Hid (∀ (g : Nat) (v0 v1 v2 : Value) (w' : World), wf.heap.size ≤ g → Ext wf w' → (((w'.setCell ⟨g, 0, none⟩ v0).setCell ⟨g, 1, none⟩ v1).setCell ⟨g, 2, none⟩ v2).cell? ⟨w.heap.size + 1, 0, none⟩ = some (.int .i64 kx) ∧ (((w'.setCell ⟨g, 0, none⟩ v0).setCell ⟨g, 1, none⟩ v1).setCell ⟨g, 2, none⟩ v2).cell? ⟨w.heap.size + 1, 1, none⟩ = some (.bool nx) ∧ (((w'.setCell ⟨g, 0, none⟩ v0).setCell ⟨g, 1, none⟩ v1).setCell ⟨g, 2, none⟩ v2).cell? ⟨w.heap.size + 1, 2, none⟩ = some (.bool ng) ∧ (((w'.setCell ⟨g, 0, none⟩ v0).setCell ⟨g, 1, none⟩ v1).setCell ⟨g, 2, none⟩ v2).cell? ⟨w.heap.size + 1, 3, none⟩ = some (.slice a n c) ∧ (((w'.setCell ⟨g, 0, none⟩ v0).setCell ⟨g, 1, none⟩ v1).setCell ⟨g, 2, none⟩ v2).cell? ⟨w.heap.size + 1, 4, none⟩ = some (.slice a' n' c') ∧ (((w'.setCell ⟨g, 0, none⟩ v0).setCell ⟨g, 1, none⟩ v1).setCell ⟨g, 2, none⟩ v2).cell? ⟨w.heap.size + 1 + 1, 0, none⟩ = some (.int .i64 ky) ∧ (((w'.setCell ⟨g, 0, none⟩ v0).setCell ⟨g, 1, none⟩ v1).setCell ⟨g, 2, none⟩ v2).cell? ⟨w.heap.size + 1 + 1, 1, none⟩ = some (.bool ny) ∧ (((w'.setCell ⟨g, 0, none⟩ v0).setCell ⟨g, 1, none⟩ v1).setCell ⟨g, 2, none⟩ v2).cell? ⟨w.heap.size + 1 + 1, 2, none⟩ = some (.bool mg) ∧ (((w'.setCell ⟨g, 0, none⟩ v0).setCell ⟨g, 1, none⟩ v1).setCell ⟨g, 2, none⟩ v2).cell? ⟨w.heap.size + 1 + 1, 3, none⟩ = some (.slice d k e) ∧ (((w'.setCell ⟨g, 0, none⟩ v0).setCell ⟨g, 1, none⟩ v1).setCell ⟨g, 2, none⟩ v2).cell? ⟨w.heap.size + 1 + 1, 4, none⟩ = some (.slice d' k' e') ∧ (((w'.setCell ⟨g, 0, none⟩ v0).setCell ⟨g, 1, none⟩ v1).setCell ⟨g, 2, none⟩ v2).cell? ⟨w3.heap.size, 0, none⟩ = some (.bool zg) ∧ (((w'.setCell ⟨g, 0, none⟩ v0).setCell ⟨g, 1, none⟩ v1).setCell ⟨g, 2, none⟩ v2).cell? ⟨w3.heap.size, 1, none⟩ = some (.slice za zn zc) ∧ (((w'.setCell ⟨g, 0, none⟩ v0).setCell ⟨g, 1, none⟩ v1).setCell ⟨g, 2, none⟩ v2).cell? ⟨w3.heap.size, 2, none⟩ = some (.slice za' zn' zc')) := hid fun g v0 v1 v2 w' hg h => ⟨(cell_other (show w.heap.size + 1 ≠ g by omega) (cell_other (show w.heap.size + 1 ≠ g by omega) (cell_other (show w.heap.size + 1 ≠ g by omega) ((HB_X.out.ext h).cell 0)))), (cell_other (show w.heap.size + 1 ≠ g by omega) (cell_other (show w.heap.size + 1 ≠ g by omega) (cell_other (show w.heap.size + 1 ≠ g by omega) ((HB_X.out.ext h).cell 1)))), (cell_other (show w.heap.size + 1 ≠ g by omega) (cell_other (show w.heap.size + 1 ≠ g by omega) (cell_other (show w.heap.size + 1 ≠ g by omega) ((HB_X.out.ext h).cell 2)))), (cell_other (show w.heap.size + 1 ≠ g by omega) (cell_other (show w.heap.size + 1 ≠ g by omega) (cell_other (show w.heap.size + 1 ≠ g by omega) ((HB_X.out.ext h).cell 3)))), (cell_other (show w.heap.size + 1 ≠ g by omega) (cell_other (show w.heap.size + 1 ≠ g by omega) (cell_other (show w.heap.size + 1 ≠ g by omega) ((HB_X.out.ext h).cell 4)))), (cell_other (show w.heap.size + 1 + 1 ≠ g by omega) (cell_other (show w.heap.size + 1 + 1 ≠ g by omega) (cell_other (show w.heap.size + 1 + 1 ≠ g by omega) ((HB_Y.out.ext h).cell 0)))), (cell_other (show w.heap.size + 1 + 1 ≠ g by omega) (cell_other (show w.heap.size + 1 + 1 ≠ g by omega) (cell_other (show w.heap.size + 1 + 1 ≠ g by omega) ((HB_Y.out.ext h).cell 1)))), (cell_other (show w.heap.size + 1 + 1 ≠ g by omega) (cell_other (show w.heap.size + 1 + 1 ≠ g by omega) (cell_other (show w.heap.size + 1 + 1 ≠ g by omega) ((HB_Y.out.ext h).cell 2)))), (cell_other (show w.heap.size + 1 + 1 ≠ g by omega) (cell_other (show w.heap.size + 1 + 1 ≠ g by omega) (cell_other (show w.heap.size + 1 + 1 ≠ g by omega) ((HB_Y.out.ext h).cell 3)))), (cell_other (show w.heap.size + 1 + 1 ≠ g by omega) (cell_other (show w.heap.size + 1 + 1 ≠ g by omega) (cell_other (show w.heap.size + 1 + 1 ≠ g by omega) ((HB_Y.out.ext h).cell 4)))), (cell_other (show w3.heap.size ≠ g by omega) (cell_other (show w3.heap.size ≠ g by omega) (cell_other (show w3.heap.size ≠ g by omega) ((HB_F.out.ext h).cell 0)))), (cell_other (show w3.heap.size ≠ g by omega) (cell_other (show w3.heap.size ≠ g by omega) (cell_other (show w3.heap.size ≠ g by omega) ((HB_F.out.ext h).cell 1)))), (cell_other (show w3.heap.size ≠ g by omega) (cell_other (show w3.heap.size ≠ g by omega) (cell_other (show w3.heap.size ≠ g by omega) ((HB_F.out.ext h).cell 2))))⟩
              clear hlt_X hlt_Y hlt_F
              have hb0 : Ext wf wf.drew := Below.drew (Below.refl _ wf)
              have HNEW := hid newFacts
              go_cut [11] (fun sv wx => ∃ g : Nat, sv = .pointer (some ⟨g, 0, none⟩) ∧ Hid (Ext wf wx) ∧ wf.heap.size ≤ g ∧ NumBox wx g (rv))
              case first =>
                go_region_held3 (fun w' => w'.cell? ⟨w.heap.size + 1, 0, none⟩ = some (.int .i64 kx) ∧ w'.cell? ⟨w.heap.size + 1, 1, none⟩ = some (.bool nx) ∧ w'.cell? ⟨w.heap.size + 1, 2, none⟩ = some (.bool ng) ∧ w'.cell? ⟨w.heap.size + 1, 3, none⟩ = some (.slice a n c) ∧ w'.cell? ⟨w.heap.size + 1, 4, none⟩ = some (.slice a' n' c') ∧ w'.cell? ⟨w.heap.size + 1 + 1, 0, none⟩ = some (.int .i64 ky) ∧ w'.cell? ⟨w.heap.size + 1 + 1, 1, none⟩ = some (.bool ny) ∧ w'.cell? ⟨w.heap.size + 1 + 1, 2, none⟩ = some (.bool mg) ∧ w'.cell? ⟨w.heap.size + 1 + 1, 3, none⟩ = some (.slice d k e) ∧ w'.cell? ⟨w.heap.size + 1 + 1, 4, none⟩ = some (.slice d' k' e') ∧ w'.cell? ⟨w3.heap.size, 0, none⟩ = some (.bool zg) ∧ w'.cell? ⟨w3.heap.size, 1, none⟩ = some (.slice za zn zc) ∧ w'.cell? ⟨w3.heap.size, 2, none⟩ = some (.slice za' zn' zc'))
                    (first | exact HS.out _ (by assumption) | exact HS.out _ (Ext.trans (by assumption) (Ext.alloc _ _)) | exact HSN.out _ _ _ _ _ (by first | omega | (simp only [World.size_drew]; omega)) (by assumption) | exact HSN.out _ _ _ _ _ (by first | omega | (simp only [World.size_drew]; omega)) (Ext.trans (by assumption) (Ext.alloc _ _)))
                  (first
                      | (go_at_call 76; (with_reducible refine (CML.out _ _ _ (by first | exact hvy.ext hb0 | exact (hvy.ext hb0).ext (Ext.alloc _ _)) (by first | exact kt.ext hb0 | exact (kt.ext hb0).ext (Ext.alloc _ _))).mono ?_); rintro e x73_1 ⟨v1, rfl, m1, g1⟩; have hb1 : Ext wf x73_1 := (by first | exact hb0.trans g1 | exact (hb0.trans (Ext.alloc _ _)).trans g1); have hs1 := hb1.size)
                      | (go_at_call 13; (with_reducible refine (CS2.out _ _ _ (by first | exact hvx.ext hb1 | exact (hvx.ext hb1).ext (Ext.alloc _ _)) (by first | exact m1 | exact (m1).ext (Ext.alloc _ _))).mono ?_); rintro e x73_2 ⟨v2, rfl, m2, g2⟩; have hb2 : Ext wf x73_2 := (by first | exact hb1.trans g2 | exact (hb1.trans (Ext.alloc _ _)).trans g2); have hs2 := hb2.size; obtain ⟨ng3, a3, n3, c3, a3', n3', c3', rfl⟩ := m2.shape; (first | (have yy := HNEW.out _ _ g2; (try simp only [World.size_drew] at yy); obtain ⟨y0, y1, y2, y3, y4, y5⟩ := yy) | (have yy := HNEW.out _ _ ((Ext.undrew g1).trans g2); (try simp only [World.size_drew] at yy); obtain ⟨y0, y1, y2, y3, y4, y5⟩ := yy) | (obtain ⟨y0, y1, y2, y3, y4, y5⟩ := HNEW.out x73_2 _ (Below.refl _ _)))))
                all_goals (go_wp2_with fail; go_meet; first | exact ⟨_, rfl, newNum0 hb2 m2⟩ | exact ⟨_, rfl, newNum hb2 (by first | omega | (simp only [World.size_drew]; omega)) ((Box.new _ _ _).ext g2) m2⟩ | exact ⟨_, rfl, newNum hb2 (by first | omega | (simp only [World.size_drew]; omega)) (((Box.new _ _ _).ext (Ext.undrew g1)).ext g2) m2⟩)
              case rest =>
                obtain ⟨gR, rfl, gx5, hg5, ng5, a5, n5, c5, a5', n5', c5', B5, kv5⟩ := hcut
                have hz_wc := gx5.out.size
                replace HE := hid (HE.out.trans gx5.out)
                replace HB_M := hid (HB_M.out.ext gx5.out)
                replace HB_X := hid (HB_X.out.ext gx5.out)
                replace HB_Y := hid (HB_Y.out.ext gx5.out)
                replace HB_Z := hid (HB_Z.out.ext gx5.out)
                replace HB_F := hid (HB_F.out.ext gx5.out)
                replace hvx := hvx.ext gx5.out
                replace hvy := hvy.ext gx5.out
                replace kt := kt.ext gx5.out
                have HB_R := hid B5
                clear B5 HS HSN HNEW
                obtain ⟨c_74, c_75, c_76, c_77⟩ := HB_M.out.c4
                obtain ⟨c_78, c_79, c_80, c_81, c_82⟩ := HB_X.out.c5
                obtain ⟨c_83, c_84, c_85, c_86, c_87⟩ := HB_Y.out.c5
                obtain ⟨c_88, c_89⟩ := HB_Z.out.c2
                obtain ⟨c_90, c_91, c_92⟩ := HB_F.out.c3
                obtain ⟨c_93, c_94, c_95⟩ := HB_R.out.c3
                go_wp2_with fail
                clear c_74 c_75 c_76 c_77 c_78 c_79 c_80 c_81 c_82 c_83 c_84 c_85 c_86 c_87 c_88 c_89 c_90 c_91 c_92 c_93 c_94 c_95
                refine (sign_c _ _ _ kv5).mono ?_
                rintro e w6 ⟨rfl, g6⟩
                have hz_w6 := g6.size
                replace HE := hid (HE.out.trans g6)
                replace HB_M := hid (HB_M.out.ext g6)
                replace HB_X := hid (HB_X.out.ext g6)
                replace HB_Y := hid (HB_Y.out.ext g6)
                replace HB_Z := hid (HB_Z.out.ext g6)
                replace HB_F := hid (HB_F.out.ext g6)
                replace HB_R := hid (HB_R.out.ext g6)
                replace hvx := hvx.ext g6
                replace hvy := hvy.ext g6
                replace kt := kt.ext g6
                replace kv5 := kv5.ext g6
                by_cases hs : rv = 0
                · have Hs : Hid (rv.num.sign = 0) := hid (by rw [hs]; rfl)
                  have HR : Hid (remR E P b m kx nx qx ky qy l = (sgb E P nx, 0)) := hid (by rw [HR0.out, if_pos hs])
                  obtain ⟨r0, r1, er⟩ := Word.shape (sgb E P nx)
                  have Er := hid er
                  clear er hs
                  rw [Hs.out]
                  obtain ⟨c_96, c_97, c_98, c_99⟩ := HB_M.out.c4
                  obtain ⟨c_100, c_101, c_102, c_103, c_104⟩ := HB_X.out.c5
                  obtain ⟨c_105, c_106, c_107, c_108, c_109⟩ := HB_Y.out.c5
                  obtain ⟨c_110, c_111⟩ := HB_Z.out.c2
                  obtain ⟨c_112, c_113, c_114⟩ := HB_F.out.c3
                  obtain ⟨c_115, c_116, c_117⟩ := HB_R.out.c3
                  go_wp2_with fail
                  clear c_96 c_97 c_98 c_99 c_100 c_101 c_102 c_103 c_104 c_105 c_106 c_107 c_108 c_109 c_110 c_111 c_112 c_113 c_114 c_115 c_116 c_117
                  refine (zero_c E P m b nx _ HF.out).mono ?_
                  rintro e w7 ⟨rfl, g7⟩
                  have hz_w7 := g7.size
                  replace HE := hid (HE.out.trans g7)
                  replace HB_M := hid (HB_M.out.ext g7)
                  replace HB_X := hid (HB_X.out.ext g7)
                  replace HB_Y := hid (HB_Y.out.ext g7)
                  replace HB_Z := hid (HB_Z.out.ext g7)
                  replace HB_F := hid (HB_F.out.ext g7)
                  replace HB_R := hid (HB_R.out.ext g7)
                  replace hvx := hvx.ext g7
                  replace hvy := hvy.ext g7
                  replace kt := kt.ext g7
                  replace kv5 := kv5.ext g7
                  rw [Er.out]
                  obtain ⟨c_118, c_119, c_120, c_121⟩ := HB_M.out.c4
                  obtain ⟨c_122, c_123, c_124, c_125, c_126⟩ := HB_X.out.c5
                  obtain ⟨c_127, c_128, c_129, c_130, c_131⟩ := HB_Y.out.c5
                  obtain ⟨c_132, c_133⟩ := HB_Z.out.c2
                  obtain ⟨c_134, c_135, c_136⟩ := HB_F.out.c3
                  obtain ⟨c_137, c_138, c_139⟩ := HB_R.out.c3
                  obtain ⟨f_140, f_141⟩ := HB_Z.out.f2
                  go_wp2_with fail
                  clear c_118 c_119 c_120 c_121 c_122 c_123 c_124 c_125 c_126 c_127 c_128 c_129 c_130 c_131 c_132 c_133 c_134 c_135 c_136 c_137 c_138 c_139 f_140 f_141
                  obtain ⟨W8, hW8, g8, q8, B8, hy8, ho8⟩ := sto2 HE.out (by omega) HB_Z.out (by decide) (.int .u64 r0) (.int .u64 r1)
                  rw [← hW8]
                  clear hW8
                  replace HE := hid g8
                  replace HB_M := hid (ho8 _ _ _ (by omega) HB_M.out)
                  replace HB_X := hid (ho8 _ _ _ (by omega) HB_X.out)
                  replace HB_Y := hid (ho8 _ _ _ (by omega) HB_Y.out)
                  replace HB_F := hid (ho8 _ _ _ (by omega) HB_F.out)
                  replace HB_R := hid (ho8 _ _ _ (by omega) HB_R.out)
                  replace HB_Z := hid B8
                  replace hvx := hvx.keep q8
                  replace hvy := hvy.keep q8
                  replace kt := kt.keep q8
                  replace kv5 := kv5.keep q8
                  unfold EndPost
                  rw [HR.out]
                  obtain ⟨c_142, c_143⟩ := HB_Z.out.c2
                  refine bodyPost_ret (v := .tuple #[.agg #[.int .u64 r0, .int .u64 r1], .int .i64 0]) (by simp [results, Tryz.results41, go_sem, c_142, c_143]) rfl ⟨by (show _ = Ending.returned (.tuple #[Word (sgb E P nx), .int .i64 0]); rw [Er.out]), HE.out⟩
                · have hs0 : (rv.num.sign == 0) = false := beq_eq_false_iff_ne.2 (fun h => hs (Rat.num_eq_zero.1 (Int.sign_eq_zero_iff_zero.1 h)))
                  obtain ⟨r, hr⟩ : ∃ r, r = rnd E P b m rv l := ⟨_, rfl⟩
                  have HR : Hid (remR E P b m kx nx qx ky qy l = r) := hid (by rw [HR0.out, if_neg hs, hr])
                  obtain ⟨r0, r1, er⟩ := Word.shape r.1
                  have Er := hid er
                  have Hr := hid hr
                  clear er hs hr
                  obtain ⟨c_96, c_97, c_98, c_99⟩ := HB_M.out.c4
                  obtain ⟨c_100, c_101, c_102, c_103, c_104⟩ := HB_X.out.c5
                  obtain ⟨c_105, c_106, c_107, c_108, c_109⟩ := HB_Y.out.c5
                  obtain ⟨c_110, c_111⟩ := HB_Z.out.c2
                  obtain ⟨c_112, c_113, c_114⟩ := HB_F.out.c3
                  obtain ⟨c_115, c_116, c_117⟩ := HB_R.out.c3
                  go_wp2_with fail
                  clear c_96 c_97 c_98 c_99 c_100 c_101 c_102 c_103 c_104 c_105 c_106 c_107 c_108 c_109 c_110 c_111 c_112 c_113 c_114 c_115 c_116 c_117
                  refine (CR.out _ _ kv5 (HT.out.ext HE.out)).mono ?_
                  rintro e w7 ⟨rfl, g7⟩
                  have hz_w7 := g7.size
                  replace HE := hid (HE.out.trans g7)
                  replace HB_M := hid (HB_M.out.ext g7)
                  replace HB_X := hid (HB_X.out.ext g7)
                  replace HB_Y := hid (HB_Y.out.ext g7)
                  replace HB_Z := hid (HB_Z.out.ext g7)
                  replace HB_F := hid (HB_F.out.ext g7)
                  replace HB_R := hid (HB_R.out.ext g7)
                  replace hvx := hvx.ext g7
                  replace hvy := hvy.ext g7
                  replace kt := kt.ext g7
                  replace kv5 := kv5.ext g7
                  rw [← Hr.out, Er.out]
                  obtain ⟨c_118, c_119, c_120, c_121⟩ := HB_M.out.c4
                  obtain ⟨c_122, c_123, c_124, c_125, c_126⟩ := HB_X.out.c5
                  obtain ⟨c_127, c_128, c_129, c_130, c_131⟩ := HB_Y.out.c5
                  obtain ⟨c_132, c_133⟩ := HB_Z.out.c2
                  obtain ⟨c_134, c_135, c_136⟩ := HB_F.out.c3
                  obtain ⟨c_137, c_138, c_139⟩ := HB_R.out.c3
                  obtain ⟨f_140, f_141⟩ := HB_Z.out.f2
                  go_wp2_with fail
                  clear c_118 c_119 c_120 c_121 c_122 c_123 c_124 c_125 c_126 c_127 c_128 c_129 c_130 c_131 c_132 c_133 c_134 c_135 c_136 c_137 c_138 c_139 f_140 f_141
                  obtain ⟨W8, hW8, g8, q8, B8, hy8, ho8⟩ := sto2 HE.out (by omega) HB_Z.out (by decide) (.int .u64 r0) (.int .u64 r1)
                  rw [← hW8]
                  clear hW8
                  replace HE := hid g8
                  replace HB_M := hid (ho8 _ _ _ (by omega) HB_M.out)
                  replace HB_X := hid (ho8 _ _ _ (by omega) HB_X.out)
                  replace HB_Y := hid (ho8 _ _ _ (by omega) HB_Y.out)
                  replace HB_F := hid (ho8 _ _ _ (by omega) HB_F.out)
                  replace HB_R := hid (ho8 _ _ _ (by omega) HB_R.out)
                  replace HB_Z := hid B8
                  replace hvx := hvx.keep q8
                  replace hvy := hvy.keep q8
                  replace kt := kt.keep q8
                  replace kv5 := kv5.keep q8
                  unfold EndPost
                  rw [HR.out]
                  obtain ⟨c_142, c_143⟩ := HB_Z.out.c2
                  refine bodyPost_ret (v := .tuple #[.agg #[.int .u64 r0, .int .u64 r1], .int .i64 (r.2 : Nat)]) (by simp [results, Tryz.results41, go_sem, c_142, c_143]) rfl ⟨by rw [Er.out], HE.out⟩
end Go.Proofs.YtpjpaiaaimmngaaGreatDoor
