/- floats: rank, between. -/
import Derived.Test.YtopmjkkjlagfcaaGreatDoorW40
import Derived.Test.YtopmjkkjlagfcaaGreatDoorW38
import Derived.Test.YtopmjkkjlagfcaaGreatDoorW20
namespace Go.Proofs.YtopmjkkjlagfcaaGreatDoor
open Go.RowKit Vn
def rankZ (E P n : Nat) : Int := if wn E P n = true then -((n % 2 ^ (E + P - 1) : Nat) : Int) else ((n % 2 ^ (E + P - 1) : Nat) : Int)
theorem rankZ_lt {E P n : Nat} (h : E + P ≤ 124) : (rankZ E P n).natAbs < 2 ^ 124 := by
 have h1 : n % 2 ^ (E + P - 1) < 2 ^ (E + P - 1) := Nat.mod_lt _ (Nat.pow_pos (by decide))
 have h2 : 2 ^ (E + P - 1) ≤ 2 ^ 124 := Nat.pow_le_pow_right (by decide) (by omega)
 unfold rankZ
 generalize n % 2 ^ (E + P - 1) = t at *
 generalize 2 ^ (E + P - 1) = s at *
 split <;> omega
set_option maxRecDepth 100000 in
set_option maxHeartbeats 4000000 in
theorem rank_c (E P m b n : Nat) (w : World) (hF : Fmt E P) (hb : b ≤ 1023) (hn : W128 n) :
  Calls Tryz.prog 70 #[.agg #[.int .i64 (E : Nat), .int .i64 (P : Nat), .int .i64 (m : Nat), .int .i64 (b : Nat)], Word n] w fun e w' => ∃ v, e = .returned v ∧ NumV w' v ((rankZ E P n : Int) : Rat) ∧ Ext w w' := by
 obtain ⟨hE, hP, _, hEP, _⟩ := fmt_bounds hF
 have hw2 : IntKind.i64.wrap ((E : Int) + P) = (E : Int) + P := IntWalk.i64_in _ (by omega)
 have hw3 : IntKind.i64.wrap ((E : Int) + P - 1) = (E : Int) + P - 1 := IntWalk.i64_in _ (by omega)
 have hv2 : wrap64 ((E : Int) + P) = (E : Int) + P := w64r _ (by omega)
 have hv3 : wrap64 ((E : Int) + P - 1) = (E : Int) + P - 1 := w64r _ (by omega)
 obtain ⟨i0, i1, ei⟩ := Word.shape n
 obtain ⟨N, hN⟩ : ∃ N, N = n % 2 ^ (E + P - 1) := ⟨_, rfl⟩
 have hN8 : W128 N := by rw [hN]; exact Nat.lt_of_le_of_lt (Nat.mod_le _ _) hn
 obtain ⟨r0, r1, er⟩ := Word.shape N
 have CLO : Hid (∀ w, Calls Tryz.prog 136 #[.agg #[.int .u64 i0, .int .u64 i1], .int .i64 ((E : Int) + P - 1)] w fun e w' => e = .returned (.agg #[.int .u64 r0, .int .u64 r1]) ∧ Ext w w') := hid fun w => by
  have := low_w n (E + P - 1) w hn (by omega)
  rw [← hN, er, ei, show (((E + P - 1 : Nat) : Nat) : Int) = (E : Int) + P - 1 by omega] at this
  exact this
 have CWH : Hid (∀ w, Calls Tryz.prog 138 #[.agg #[.int .u64 r0, .int .u64 r1]] w fun e w' => ∃ v, e = .returned v ∧ NumV w' v ((N : Nat) : Rat) ∧ Ext w w') := hid fun w => by
  have := fwhole_c N w hN8
  rwa [er] at this
 have CL : Hid (∀ w, Calls Tryz.prog 69 #[.agg #[.int .i64 (E : Nat), .int .i64 (P : Nat), .int .i64 (m : Nat), .int .i64 (b : Nat)], .agg #[.int .u64 i0, .int .u64 i1]] w (LookPost (wkind E P n) (wn E P n) (wvalK E P b n) w)) := hid fun w => by
  rw [← ei]; exact look_c E P m b n w hF hb hn
 have CNE : Hid (∀ v w, NumV w v ((N : Nat) : Rat) → _) := hid fun v w h => neg_c v _ w h
 obtain ⟨q, hq⟩ : ∃ q : Rat, q = ((rankZ E P n : Int) : Rat) := ⟨_, rfl⟩
 have HQ : Hid (q = if wn E P n = true then -((N : Nat) : Rat) else ((N : Nat) : Rat)) := hid (by
  rw [hq, hN]; unfold rankZ
  split
  ·rw [Rat.intCast_neg]; rfl
  ·rfl)
 rw [ei, ← hq]
 clear ei hN hN8 er hn hF hE hP hEP hq
 obtain ⟨W0, hW0, g0, hz0, B_M, B_A, B_Z⟩ := pro3s w #[.int .i64 (E : Nat), .int .i64 (P : Nat), .int .i64 (m : Nat), .int .i64 (b : Nat)] #[.int .u64 i0, .int .u64 i1] #[.bool false, .slice none 0 0, .slice none 0 0] 81 29 40
 have HE := hid g0
 have HB_M := hid B_M
 have HB_A := hid B_A
 have HB_Z := hid B_Z
 clear g0 B_M B_A B_Z 
 go_enter Tryz.func70, Tryz.ntmps70
 go_upto_region 1 with (fail)
 rw [← hW0]
 clear hW0
 obtain ⟨c_1, c_2, c_3, c_4⟩ := HB_M.out.c4
 obtain ⟨c_5, c_6⟩ := HB_A.out.c2
 obtain ⟨c_7, c_8, c_9⟩ := HB_Z.out.c3
 go_wp2_with fail
 clear c_1 c_2 c_3 c_4 c_5 c_6 c_7 c_8 c_9
 refine (CLO.out _).mono ?_
 rintro e w1 ⟨rfl, g1⟩
 have hz_w1 := g1.size
 replace HE := hid (HE.out.trans g1)
 replace HB_M := hid (HB_M.out.ext g1)
 replace HB_A := hid (HB_A.out.ext g1)
 replace HB_Z := hid (HB_Z.out.ext g1)
 obtain ⟨c_10, c_11, c_12, c_13⟩ := HB_M.out.c4
 obtain ⟨c_14, c_15⟩ := HB_A.out.c2
 obtain ⟨c_16, c_17, c_18⟩ := HB_Z.out.c3
 go_wp2_with fail
 clear c_10 c_11 c_12 c_13 c_14 c_15 c_16 c_17 c_18
 refine (CWH.out _).mono ?_
 rintro e w2 ⟨v1, rfl, k1, g2⟩
 have hz_w2 := g2.size
 replace HE := hid (HE.out.trans g2)
 replace HB_M := hid (HB_M.out.ext g2)
 replace HB_A := hid (HB_A.out.ext g2)
 replace HB_Z := hid (HB_Z.out.ext g2)
 obtain ⟨ngq19, aq19, nq19, cq19, aq19', nq19', cq19', rfl⟩ := k1.shape
 have gA := Ext.alloc w2 (.cells #[.bool ngq19, .slice aq19 nq19 cq19, .slice aq19' nq19' cq19'] 40)
 obtain ⟨c_20, c_21, c_22, c_23⟩ := (HB_M.out.ext gA).c4
 obtain ⟨c_24, c_25⟩ := (HB_A.out.ext gA).c2
 obtain ⟨c_26, c_27, c_28⟩ := (HB_Z.out.ext gA).c3
 go_wp2_with fail
 clear gA c_20 c_21 c_22 c_23 c_24 c_25 c_26 c_27 c_28
 obtain ⟨W3, hW3, g3, hy3, B_N⟩ := pro1 w2 #[.bool ngq19, .slice aq19 nq19 cq19, .slice aq19' nq19' cq19'] 40
 rw [← hW3]
 clear hW3
 have hz_W3 := g3.size
 replace HE := hid (HE.out.trans g3)
 replace HB_M := hid (HB_M.out.ext g3)
 replace HB_A := hid (HB_A.out.ext g3)
 replace HB_Z := hid (HB_Z.out.ext g3)
 replace k1 := k1.ext g3
 have HB_N := hid B_N
 clear B_N
 generalize wkind E P n = kd at *
 generalize wn E P n = sg at *
 generalize wvalK E P b n = qv at *
 refine (CL.out _).mono ?_
 rintro e w4 ⟨v2, rfl, ⟨ng, a, k, c, a', k', c', rfl, kv⟩, g4⟩
 have hz_w4 := g4.size
 replace HE := hid (HE.out.trans g4)
 replace HB_M := hid (HB_M.out.ext g4)
 replace HB_A := hid (HB_A.out.ext g4)
 replace HB_Z := hid (HB_Z.out.ext g4)
 replace HB_N := hid (HB_N.out.ext g4)
 replace k1 := k1.ext g4
 have hfd : ∀ W, (Instr.field 112 (.agg #[.int .i64 kd, .bool sg, .bool ng, .slice a k c, .slice a' k' c']) 1).run Tryz.prog W = .ok (.bool sg) W := fun W => by kernel_rfl
 by_cases hs : sg = true
 ·subst hs
  have HQ2 : Hid (q = -((N : Nat) : Rat)) := hid (by rw [HQ.out]; rfl)
  clear HQ kv
  obtain ⟨c_29, c_30, c_31, c_32⟩ := HB_M.out.c4
  obtain ⟨c_33, c_34⟩ := HB_A.out.c2
  obtain ⟨c_35, c_36, c_37⟩ := HB_Z.out.c3
  obtain ⟨c_38, c_39, c_40⟩ := HB_N.out.c3
  go_wp2_with fail
  clear c_29 c_30 c_31 c_32 c_33 c_34 c_35 c_36 c_37 c_38 c_39 c_40
  refine (CNE.out _ _ k1).mono ?_
  rintro e w5 ⟨v3, rfl, k3, g5⟩
  have hz_w5 := g5.size
  replace HE := hid (HE.out.trans g5)
  replace HB_M := hid (HB_M.out.ext g5)
  replace HB_A := hid (HB_A.out.ext g5)
  replace HB_Z := hid (HB_Z.out.ext g5)
  replace HB_N := hid (HB_N.out.ext g5)
  replace k1 := k1.ext g5
  obtain ⟨ng3, a3, n3, c3, a3', n3', c3', rfl⟩ := k3.shape
  obtain ⟨c_41, c_42, c_43, c_44⟩ := HB_M.out.c4
  obtain ⟨c_45, c_46⟩ := HB_A.out.c2
  obtain ⟨c_47, c_48, c_49⟩ := HB_Z.out.c3
  obtain ⟨c_50, c_51, c_52⟩ := HB_N.out.c3
  obtain ⟨f_53, f_54, f_55⟩ := HB_Z.out.f3
  go_wp2_with fail
  clear c_41 c_42 c_43 c_44 c_45 c_46 c_47 c_48 c_49 c_50 c_51 c_52 f_53 f_54 f_55
  obtain ⟨W6, hW6, g6, q6, B6, hy6, ho6⟩ := sto3 HE.out (by omega) HB_Z.out (by decide) (.bool ng3) (.slice a3 n3 c3) (.slice a3' n3' c3')
  rw [← hW6]
  clear hW6
  replace HE := hid g6
  replace HB_M := hid (ho6 _ _ _ (by omega) HB_M.out)
  replace HB_A := hid (ho6 _ _ _ (by omega) HB_A.out)
  replace HB_N := hid (ho6 _ _ _ (by omega) HB_N.out)
  replace HB_Z := hid B6
  replace k1 := k1.keep q6
  replace k3 := k3.keep q6
  rw [HQ2.out]
  obtain ⟨c_56, c_57, c_58⟩ := HB_Z.out.c3
  refine bodyPost_ret (v := .agg #[.bool ng3, .slice a3 n3 c3, .slice a3' n3' c3']) (by simp [results, Tryz.results70, go_sem, c_56, c_57, c_58]) rfl ⟨_, rfl, k3, HE.out⟩
 ·obtain rfl : sg = false := by cases sg; rfl; exact absurd rfl hs
  have HQ2 : Hid (q = ((N : Nat) : Rat)) := hid (by rw [HQ.out]; rfl)
  clear HQ hs kv
  obtain ⟨c_29, c_30, c_31⟩ := HB_N.out.c3
  obtain ⟨c_32, c_33, c_34⟩ := HB_Z.out.c3
  obtain ⟨f_35, f_36, f_37⟩ := HB_Z.out.f3
  go_wp2_with fail
  clear c_29 c_30 c_31 c_32 c_33 c_34 f_35 f_36 f_37
  obtain ⟨W5, hW5, g5, q5, B5, hy5, ho5⟩ := sto3 HE.out (by omega) HB_Z.out (by decide) (.bool ngq19) (.slice aq19 nq19 cq19) (.slice aq19' nq19' cq19')
  rw [← hW5]
  clear hW5
  replace HE := hid g5
  replace HB_M := hid (ho5 _ _ _ (by omega) HB_M.out)
  replace HB_A := hid (ho5 _ _ _ (by omega) HB_A.out)
  replace HB_N := hid (ho5 _ _ _ (by omega) HB_N.out)
  replace HB_Z := hid B5
  replace k1 := k1.keep q5
  rw [HQ2.out]
  obtain ⟨c_38, c_39, c_40⟩ := HB_Z.out.c3
  refine bodyPost_ret (v := .agg #[.bool ngq19, .slice aq19 nq19 cq19, .slice aq19' nq19' cq19']) (by simp [results, Tryz.results70, go_sem, c_38, c_39, c_40]) rfl ⟨_, rfl, k1, HE.out⟩
set_option maxRecDepth 100000 in
set_option maxHeartbeats 4000000 in
theorem between_c (E P m : Nat) (x : Value) (q : Rat) (l : Int) (K : Nat) (w : World) (hF : Fmt E P) (hm : m ≤ 4) (hx : NumV w x q) (sx : SmQ K q) (hK : K ≤ 12000) (hl : q ≠ 0 → IsLog (absQ q) l) (hT : Tabs w) (hn : W128 (rnd E P (bias E) m q l).1) :
  Calls Tryz.prog 98 #[.agg #[.int .i64 (E : Nat), .int .i64 (P : Nat), .int .i64 0, .int .i64 (bias E : Nat)], x, .int .i64 (m : Nat)] w fun e w' => ∃ v, e = .returned v ∧ NumV w' v ((rankZ E P (rnd E P (bias E) m q l).1 : Int) : Rat) ∧ Ext w w' := by
 obtain ⟨hE, hP, hb, hEP, _⟩ := fmt_bounds hF
 obtain ⟨ng, a, n, c, a', n', c', rfl⟩ := hx.shape
 obtain ⟨r, hr⟩ : ∃ r, r = rnd E P (bias E) m q l := ⟨_, rfl⟩
 rw [← hr] at hn ⊢
 obtain ⟨r0, r1, er⟩ := Word.shape r.1
 have CR : Hid (∀ v w, NumV w v q → Tabs w → Calls Tryz.prog 44 #[.agg #[.int .i64 (E : Nat), .int .i64 (P : Nat), .int .i64 (m : Nat), .int .i64 (bias E : Nat)], v] w fun e w' => e = .returned (.tuple #[.agg #[.int .u64 r0, .int .u64 r1], .int .i64 (r.2 : Nat)]) ∧ Ext w w') := hid fun v w h hT => by
  have := rnd_c E P (bias E) m v q l K w hF hm rfl h sx hK hl hT
  rw [← hr] at this
  unfold EndPost at this
  rwa [er] at this
 obtain ⟨z, hz⟩ : ∃ z : Int, z = rankZ E P r.1 := ⟨_, rfl⟩
 have CK : Hid (∀ w, Calls Tryz.prog 70 #[.agg #[.int .i64 (E : Nat), .int .i64 (P : Nat), .int .i64 (m : Nat), .int .i64 (bias E : Nat)], .agg #[.int .u64 r0, .int .u64 r1]] w fun e w' => ∃ v, e = .returned v ∧ NumV w' v ((z : Int) : Rat) ∧ Ext w w') := hid fun w => by
  have := rank_c E P m (bias E) r.1 w hF hb hn
  rwa [er, ← hz] at this
 rw [← hz]
 have HX := hid hx; have HT := hid hT
 clear hF hm hx sx hl hT hn hr er hz hE hP hb hEP
 obtain ⟨W0, hW0, g0, hz0, B_M, B_X, B_Z⟩ := pro3s w #[.int .i64 (E : Nat), .int .i64 (P : Nat), .int .i64 0, .int .i64 (bias E : Nat)] #[.bool ng, .slice a n c, .slice a' n' c'] #[.bool false, .slice none 0 0, .slice none 0 0] 81 40 40
 have HE := hid g0
 have HB_M := hid B_M
 have HB_X := hid B_X
 have HB_Z := hid B_Z
 clear g0 B_M B_X B_Z 
 go_enter Tryz.func98, Tryz.ntmps98
 go_upto_region 1 with (fail)
 rw [← hW0]
 clear hW0
 have kx := HX.out.ext HE.out
 obtain ⟨c_1, c_2, c_3, c_4⟩ := HB_M.out.c4
 obtain ⟨f_5, f_6, f_7, f_8⟩ := HB_M.out.f4
 go_upto_region 2 with (fail)
 clear c_1 c_2 c_3 c_4 f_5 f_6 f_7 f_8
 obtain ⟨W1, hW1, g1, q1, B1, hy1, ho1⟩ := sto1 HE.out (by omega) HB_M.out (by decide) 2 (.int .i64 (m : Nat))
 rw [← hW1]
 clear hW1
 replace HE := hid g1
 replace B1 : Box W1 w.heap.size #[.int .i64 (E : Nat), .int .i64 (P : Nat), .int .i64 (m : Nat), .int .i64 (bias E : Nat)] 81 := B1
 replace HB_X := hid (ho1 _ _ _ (by omega) HB_X.out)
 replace HB_Z := hid (ho1 _ _ _ (by omega) HB_Z.out)
 replace HB_M := hid B1
 replace kx := kx.keep q1
 obtain ⟨c_9, c_10, c_11, c_12⟩ := HB_M.out.c4
 obtain ⟨c_13, c_14, c_15⟩ := HB_X.out.c3
 obtain ⟨c_16, c_17, c_18⟩ := HB_Z.out.c3
 go_wp2_with fail
 clear c_9 c_10 c_11 c_12 c_13 c_14 c_15 c_16 c_17 c_18
 refine (CR.out _ _ kx (HT.out.ext HE.out)).mono ?_
 rintro e w2 ⟨rfl, g2⟩
 have hz_w2 := g2.size
 replace HE := hid (HE.out.trans g2)
 replace HB_M := hid (HB_M.out.ext g2)
 replace HB_X := hid (HB_X.out.ext g2)
 replace HB_Z := hid (HB_Z.out.ext g2)
 replace kx := kx.ext g2
 have gA := Ext.alloc w2 (.cells #[.int .u64 r0, .int .u64 r1] 29)
 obtain ⟨c_19, c_20, c_21, c_22⟩ := (HB_M.out.ext gA).c4
 obtain ⟨c_23, c_24, c_25⟩ := (HB_X.out.ext gA).c3
 obtain ⟨c_26, c_27, c_28⟩ := (HB_Z.out.ext gA).c3
 go_wp2_with fail
 clear gA c_19 c_20 c_21 c_22 c_23 c_24 c_25 c_26 c_27 c_28
 obtain ⟨W3, hW3, g3, hy3, B_W⟩ := pro1 w2 #[.int .u64 r0, .int .u64 r1] 29
 rw [← hW3]
 clear hW3
 have hz_W3 := g3.size
 replace HE := hid (HE.out.trans g3)
 replace HB_M := hid (HB_M.out.ext g3)
 replace HB_X := hid (HB_X.out.ext g3)
 replace HB_Z := hid (HB_Z.out.ext g3)
 replace kx := kx.ext g3
 have HB_W := hid B_W
 clear B_W
 refine (CK.out _).mono ?_
 rintro e w4 ⟨v3, rfl, k3, g4⟩
 have hz_w4 := g4.size
 replace HE := hid (HE.out.trans g4)
 replace HB_M := hid (HB_M.out.ext g4)
 replace HB_X := hid (HB_X.out.ext g4)
 replace HB_Z := hid (HB_Z.out.ext g4)
 replace HB_W := hid (HB_W.out.ext g4)
 replace kx := kx.ext g4
 obtain ⟨ng3, a3, n3, c3, a3', n3', c3', rfl⟩ := k3.shape
 obtain ⟨c_29, c_30, c_31, c_32⟩ := HB_M.out.c4
 obtain ⟨c_33, c_34, c_35⟩ := HB_X.out.c3
 obtain ⟨c_36, c_37, c_38⟩ := HB_Z.out.c3
 obtain ⟨c_39, c_40⟩ := HB_W.out.c2
 obtain ⟨f_41, f_42, f_43⟩ := HB_Z.out.f3
 go_wp2_with fail
 clear c_29 c_30 c_31 c_32 c_33 c_34 c_35 c_36 c_37 c_38 c_39 c_40 f_41 f_42 f_43
 obtain ⟨W5, hW5, g5, q5, B5, hy5, ho5⟩ := sto3 HE.out (by omega) HB_Z.out (by decide) (.bool ng3) (.slice a3 n3 c3) (.slice a3' n3' c3')
 rw [← hW5]
 clear hW5
 replace HE := hid g5
 replace HB_M := hid (ho5 _ _ _ (by omega) HB_M.out)
 replace HB_X := hid (ho5 _ _ _ (by omega) HB_X.out)
 replace HB_W := hid (ho5 _ _ _ (by omega) HB_W.out)
 replace HB_Z := hid B5
 replace kx := kx.keep q5
 replace k3 := k3.keep q5
 obtain ⟨c_44, c_45, c_46⟩ := HB_Z.out.c3
 refine bodyPost_ret (v := .agg #[.bool ng3, .slice a3 n3 c3, .slice a3' n3' c3']) (by simp [results, Tryz.results98, go_sem, c_44, c_45, c_46]) rfl ⟨_, rfl, k3, HE.out⟩
end Go.Proofs.YtopmjkkjlagfcaaGreatDoor

/- Plain: what a sum that is rounded to the nearest value differs by is a value. -/
namespace Go.Proofs.YtopmjkkjlagfcaaGreatDoor
open Go.RowKit Vn
theorem end_fits {E P n f : Nat} (hE : 1 ≤ E) (hP : 1 ≤ P) (hn : n ≤ 2 ^ P) (hf : f = 0 ∨ 2 ^ (P - 1) ≤ n) (hg : ((n : Nat) : Rat) * (2 : Rat) ^ (2 - (bias E : Int) - P + (f : Nat)) ≤ grQ P (bias E)) : n + f * 2 ^ (P - 1) < 2 ^ (E + P - 1) := by
 rcases Nat.lt_or_ge n (2 ^ P) with h | h
 ·exact rd_fits hE hP h hf hg
 ·obtain rfl : n = 2 ^ P := by omega
  have h1 : (2 : Rat) ^ ((P : Int) + (2 - (bias E : Int) - P + (f : Nat))) ≤ grQ P (bias E) := by rw [p2_add, p2_nat]; exact hg
  have h2 := grQ_lt P (bias E)
  have h3 : (2 : Rat) ^ ((P : Int) + (2 - (bias E : Int) - P + (f : Nat))) < (2 : Rat) ^ ((bias E : Int) + 1) := by grind
  rw [p2_lt_iff] at h3
  have h4 := two_bias hE
  have h5 : 2 ^ P = 2 * 2 ^ (P - 1) := by rw [← Nat.pow_succ']; congr 1; omega
  rw [pow_EP hP, h4, h5]
  have h6 : f + 2 ≤ 2 * bias E := by omega
  have h7 : (f + 2) * 2 ^ (P - 1) ≤ 2 * bias E * 2 ^ (P - 1) := Nat.mul_le_mul_right _ h6
  have h8 : 2 ^ (P - 1) * (2 * bias E + 2) = 2 * bias E * 2 ^ (P - 1) + 2 * 2 ^ (P - 1) := by rw [Nat.mul_add, Nat.mul_comm, Nat.mul_comm (2 ^ (P - 1)) 2]
  have h9 : (f + 2) * 2 ^ (P - 1) = f * 2 ^ (P - 1) + 2 * 2 ^ (P - 1) := by rw [Nat.add_mul]
  have hp : 0 < 2 ^ (P - 1) := Nat.pow_pos (by decide)
  omega
theorem inf_word (E P : Nat) (s : Bool) : infw E P s = wordN E P s 0 (2 ^ E - 1) := by unfold infw wordN; rw [Nat.zero_add]
theorem inf_ok {E P : Nat} (hP : 1 ≤ P) (s : Bool) : infw E P s < 2 ^ (E + P) ∧ valueR E P (infw E P s) = (0, 4) := by
 have hp : 0 < 2 ^ (P - 1) := Nat.pow_pos (by decide)
 have he : 0 < 2 ^ E := Nat.pow_pos (by decide)
 have h0 : 0 + (2 ^ E - 1) * 2 ^ (P - 1) < 2 ^ (E + P - 1) := by
  rw [Nat.zero_add, pow_EP hP, Nat.mul_comm (2 ^ (P - 1))]
  exact Nat.mul_lt_mul_of_pos_right (by omega) hp
 have hlt : infw E P s < 2 ^ (E + P) := by rw [inf_word]; exact wordN_lt (by omega) s h0
 refine ⟨hlt, ?_⟩
 have e1 : wf E P (infw E P s) = 2 ^ E - 1 := by rw [inf_word, wordN_wf hP s h0, Nat.zero_add, Nat.mul_div_cancel _ hp]
 have e2 : wr P (infw E P s) = 0 := by rw [inf_word, wordN_wr hP s h0, Nat.zero_mod]
 have e3 : wkind E P (infw E P s) = 3 := by unfold wkind; rw [if_pos e1, if_pos e2]
 unfold valueR
 rw [if_neg (fun k => k hlt), if_pos (by rw [e3]; decide)]
end Go.Proofs.YtopmjkkjlagfcaaGreatDoor

/- Plain: the word of a rounded number is a word of the format. -/
namespace Go.Proofs.YtopmjkkjlagfcaaGreatDoor
open Go.RowKit Vn
theorem great_fits {E P : Nat} (hE : 2 ≤ E) (hP : 1 ≤ P) : 2 ^ P - 1 + (2 * bias E - 1) * 2 ^ (P - 1) < 2 ^ (E + P - 1) := by
 have h4 := two_bias (E := E) (by omega)
 have h5 : 2 ^ P = 2 * 2 ^ (P - 1) := by rw [← Nat.pow_succ']; congr 1; omega
 have hb : 1 ≤ bias E := by
  have : 2 ^ 2 ≤ 2 ^ E := Nat.pow_le_pow_right (by decide) hE
  omega
 rw [pow_EP hP, h4, h5]
 obtain ⟨c, hc⟩ : ∃ c, bias E = c + 1 := ⟨bias E - 1, by omega⟩
 rw [hc, show 2 * (c + 1) - 1 = 2 * c + 1 by omega]
 have hp : 0 < 2 ^ (P - 1) := Nat.pow_pos (by decide)
 generalize 2 ^ (P - 1) = t at *
 have e1 : (2 * c + 1) * t = 2 * (c * t) + t := by rw [Nat.add_mul, Nat.mul_assoc, Nat.one_mul]
 have e2 : t * (2 * (c + 1) + 2) = 2 * (c * t) + 4 * t := by
  rw [Nat.mul_add, Nat.mul_comm t (2 * (c + 1)), Nat.mul_assoc, Nat.add_mul]; omega
 omega
theorem roundR_lt {E P m : Nat} {q : Rat} {l : Int} (hE : 2 ≤ E) (hP : 1 ≤ P) (hl : IsLog (absQ q) l) : (roundR E P (bias E) m q l).1 < 2 ^ (E + P) := by
 have hN := endN_le (P := P) (b := bias E) (m := m) hl (decide (q.num < 0)) (decide ((rdT P (bias E) l q).den = 1)) (cmpQ ((rdT P (bias E) l q - (rdN P (bias E) l q : Nat)) * 2) 1)
 have hge : rdF (bias E) l = 0 ∨ 2 ^ (P - 1) ≤ endN m (decide (q.num < 0)) (rdN P (bias E) l q) (decide ((rdT P (bias E) l q).den = 1)) (cmpQ ((rdT P (bias E) l q - (rdN P (bias E) l q : Nat)) * 2) 1) := by
  rcases rdN_ge (b := bias E) hP hl with h | h
  ·exact .inl h
  ·exact .inr (Nat.le_trans h hN.2)
 unfold roundR endR
 split
 ·rename_i hg
  exact wordN_lt (by omega) _ (end_fits (by omega) hP hN.1 hge hg)
 ·split
  ·exact wordN_lt (by omega) _ (great_fits hE hP)
  ·exact (inf_ok hP _).1
theorem rnd_lt {E P m : Nat} {q : Rat} {l : Int} (hE : 2 ≤ E) (hP : 1 ≤ P) (hl : q ≠ 0 → IsLog (absQ q) l) : (rnd E P (bias E) m q l).1 < 2 ^ (E + P) := by
 unfold rnd
 split
 ·exact Nat.pow_pos (by decide)
 ·rename_i h
  exact roundR_lt hE hP (hl h)
theorem w128_of {E P n : Nat} (h : E + P ≤ 124) (hn : n < 2 ^ (E + P)) : W128 n := Nat.lt_of_lt_of_le hn (Nat.pow_le_pow_right (n := 2) (j := 128) (by decide) (by omega))
end Go.Proofs.YtopmjkkjlagfcaaGreatDoor

/- Plain: the order of words is that of their values; words and ranks. -/
namespace Go.Proofs.YtopmjkkjlagfcaaGreatDoor
open Go.RowKit Vn
def rankW (E P : Nat) (z : Int) : Nat := sgb E P (decide (z < 0)) ||| z.natAbs
def mag (E P n : Nat) : Nat := n % 2 ^ (E + P - 1)
theorem mag_lt (E P n : Nat) : mag E P n < 2 ^ (E + P - 1) := Nat.mod_lt _ (Nat.pow_pos (by decide))
theorem mag_parts {E P n : Nat} (hP : 1 ≤ P) : wfr E P n + (max (wf E P n) 1 - 1) * 2 ^ (P - 1) = mag E P n := by
 have e3 : mag E P n = wr P n + wf E P n * 2 ^ (P - 1) := by
  unfold mag wr wf
  rw [pow_EP hP, Nat.mod_mul, Nat.mul_comm]
 rw [e3]
 unfold wfr
 split
 ·rename_i h0; rw [h0]; simp
 ·rename_i h0
  have : wf E P n = (max (wf E P n) 1 - 1) + 1 := by omega
  conv => rhs; rw [this, Nat.add_mul]
  omega
theorem wordN_mag {E P : Nat} (neg : Bool) {m : Nat} (h : m < 2 ^ (E + P - 1)) : wordN E P neg m 0 = m + 2 ^ (E + P - 1) * (if neg = true then 1 else 0) := by
 have := wordN_eq (E := E) (P := P) neg (n := m) (f := 0) (by omega)
 rw [this]; omega
theorem word_split {E P n : Nat} (hEP : 1 ≤ E + P) (hn : n < 2 ^ (E + P)) : n = wordN E P (wn E P n) (mag E P n) 0 := by
 rw [wordN_mag _ (mag_lt E P n)]
 have h2 : 2 ^ (E + P) = 2 * 2 ^ (E + P - 1) := by rw [← Nat.pow_succ']; congr 1; omega
 have hq : n / 2 ^ (E + P - 1) < 2 := by rw [Nat.div_lt_iff_lt_mul (Nat.pow_pos (by decide))]; omega
 have hdm := Nat.div_add_mod n (2 ^ (E + P - 1))
 unfold mag wn
 by_cases h0 : n / 2 ^ (E + P - 1) = 0
 ·rw [h0] at hdm
  simp only [h0]
  simp
  omega
 ·have h1 : n / 2 ^ (E + P - 1) = 1 := Nat.le_antisymm (Nat.le_of_lt_succ hq) (Nat.pos_of_ne_zero h0)
  rw [h1] at hdm
  simp only [h1]
  simp
  omega
theorem rankW_eq (E P : Nat) (z : Int) : rankW E P z = wordN E P (decide (z < 0)) z.natAbs 0 := by
 unfold rankW wordN; rw [Nat.zero_mul, Nat.add_zero]
theorem rankZ_mag (E P n : Nat) : rankZ E P n = if wn E P n = true then -((mag E P n : Nat) : Int) else ((mag E P n : Nat) : Int) := rfl
theorem rankW_rankZ {E P n : Nat} (hEP : 1 ≤ E + P) (hn : n < 2 ^ (E + P)) (h0 : rankZ E P n ≠ 0) : rankW E P (rankZ E P n) = n := by
 have hs := word_split hEP hn
 conv => rhs; rw [hs]
 rw [rankW_eq]
 rw [rankZ_mag] at h0 ⊢
 cases h : wn E P n
 ·rw [h, if_neg (by decide)] at h0
  rw [if_neg (by decide), decide_eq_false (by omega), Int.natAbs_natCast]
 ·rw [h, if_pos rfl] at h0
  rw [if_pos rfl, decide_eq_true (by omega), Int.natAbs_neg, Int.natAbs_natCast]
theorem rankW_zero (E P : Nat) : rankW E P 0 = 0 := by
 unfold rankW sgb; simp
theorem rankW_wn {E P : Nat} {z : Int} (h : z.natAbs < 2 ^ (E + P - 1)) : wn E P (rankW E P z) = decide (z < 0) := by
 rw [rankW_eq]; exact wordN_wn _ (by omega)
theorem rankW_mag {E P : Nat} {z : Int} (h : z.natAbs < 2 ^ (E + P - 1)) : mag E P (rankW E P z) = z.natAbs := by
 rw [rankW_eq, wordN_mag _ h]
 unfold mag
 rw [Nat.add_mul_mod_self_left, Nat.mod_eq_of_lt h]
theorem rankZ_rankW {E P : Nat} {z : Int} (h : z.natAbs < 2 ^ (E + P - 1)) : rankZ E P (rankW E P z) = z := by
 rw [rankZ_mag, rankW_wn h, rankW_mag h]
 by_cases h0 : z < 0
 ·rw [decide_eq_true h0, if_pos rfl]; omega
 ·rw [decide_eq_false h0, if_neg (by decide)]; omega
theorem rankW_lt {E P : Nat} {z : Int} (hEP : 1 ≤ E + P) (h : z.natAbs < 2 ^ (E + P - 1)) : rankW E P z < 2 ^ (E + P) := by
 rw [rankW_eq]; exact wordN_lt hEP _ (by omega)
/-! ### values -/
theorem wn_mag {E P n : Nat} : wn E P (mag E P n) = false := by
 unfold wn mag
 rw [Nat.div_eq_of_lt (Nat.mod_lt _ (Nat.pow_pos (by decide)))]; rfl
theorem wr_mag {E P n : Nat} (hP : 1 ≤ P) : wr P (mag E P n) = wr P n := by
 unfold wr mag
 rw [pow_EP hP, Nat.mod_mul_right_mod]
theorem wf_mag {E P n : Nat} (hP : 1 ≤ P) : wf E P (mag E P n) = wf E P n := by
 unfold wf mag
 rw [pow_EP hP, Nat.mod_mul, Nat.add_mul_div_left _ _ (Nat.pow_pos (by decide)), Nat.div_eq_of_lt (Nat.mod_lt _ (Nat.pow_pos (by decide))), Nat.zero_add, Nat.mod_mod]
theorem wval_mag {E P b n : Nat} (hP : 1 ≤ P) : wval E P b n = (if wn E P n = true then -1 else 1) * wval E P b (mag E P n) := by
 unfold wval
 rw [wn_mag, if_neg Bool.false_ne_true, Rat.one_mul]
 unfold wfr
 rw [wr_mag hP, wf_mag hP]
theorem mag_self {E P m : Nat} (h : m < 2 ^ (E + P - 1)) : mag E P m = m := Nat.mod_eq_of_lt h
theorem wval_pos_eq {E P b m : Nat} (h : m < 2 ^ (E + P - 1)) : wval E P b m = ((wfr E P m : Nat) : Rat) * (2 : Rat) ^ (2 - (b : Int) - P + ((max (wf E P m) 1 - 1 : Nat) : Int)) := by
 have e : wn E P m = false := by
  have := @wn_mag E P m
  rwa [mag_self h] at this
 unfold wval
 rw [e, if_neg (by decide), Rat.one_mul]
theorem wval_succ {E P b m : Nat} (hP : 1 ≤ P) (h : m + 1 < 2 ^ (E + P - 1)) : wval E P b m < wval E P b (m + 1) := by
 have hp := mag_parts (E := E) (n := m) hP
 rw [mag_self (show m < 2 ^ (E + P - 1) by omega)] at hp
 have hN := wfr_lt (E := E) (n := m) hP
 have hf : max (wf E P m) 1 - 1 = 0 ∨ 2 ^ (P - 1) ≤ wfr E P m := by
  by_cases h0 : wf E P m = 0
  ·left; omega
  ·right; unfold wfr; rw [if_neg h0]; omega
 have e1 : wordN E P false (wfr E P m + 1) (max (wf E P m) 1 - 1) = m + 1 := by
  rw [wordN_eq false (by omega), if_neg (by decide)]; omega
 have e2 := wordN_val (E := E) (b := b) hP false (n := wfr E P m + 1) (f := max (wf E P m) 1 - 1) (by omega) (by omega) (by omega)
 rw [e1, if_neg (by decide), Rat.one_mul] at e2
 rw [wval_pos_eq (show m < 2 ^ (E + P - 1) by omega), e2, Rat.mul_lt_mul_right (p2_pos _), Rat.natCast_lt_natCast]
 omega
theorem wval_lt {E P b : Nat} (hP : 1 ≤ P) : ∀ (d m : Nat), m + d + 1 < 2 ^ (E + P - 1) → wval E P b m < wval E P b (m + d + 1)
 | 0, m, h => wval_succ hP h
 | d + 1, m, h => by
  have h1 := wval_lt (E := E) (P := P) (b := b) hP d m (by omega)
  have h2 := wval_succ (E := E) (P := P) (b := b) (m := m + d + 1) hP (by omega)
  exact ltle h1 (Rat.le_of_lt h2)
theorem wval_mono {E P b m m' : Nat} (hP : 1 ≤ P) (h : m < m') (h' : m' < 2 ^ (E + P - 1)) : wval E P b m < wval E P b m' := by
 have := wval_lt (E := E) (P := P) (b := b) hP (m' - m - 1) m (by omega)
 rwa [show m + (m' - m - 1) + 1 = m' by omega] at this
theorem wval_le_iff {E P b m m' : Nat} (hP : 1 ≤ P) (hm : m < 2 ^ (E + P - 1)) (hm' : m' < 2 ^ (E + P - 1)) : wval E P b m ≤ wval E P b m' ↔ m ≤ m' := by
 constructor
 ·intro h
  rcases Nat.lt_or_ge m' m with h1 | h1
  ·exact absurd h (Rat.not_le.2 (wval_mono hP h1 hm))
  ·exact h1
 ·intro h
  rcases Nat.lt_or_ge m m' with h1 | h1
  ·exact Rat.le_of_lt (wval_mono hP h1 hm')
  ·rw [show m = m' by omega]; exact Rat.le_refl
theorem wval_zero (E P b : Nat) : wval E P b 0 = 0 := by
 unfold wval wfr wf wr
 simp
theorem wval_nonneg {E P b m : Nat} (hP : 1 ≤ P) (hm : m < 2 ^ (E + P - 1)) : 0 ≤ wval E P b m := by
 have := (wval_le_iff (b := b) hP (Nat.lt_of_le_of_lt (Nat.zero_le _) hm) hm).2 (Nat.zero_le m)
 rwa [wval_zero] at this
theorem rank_le_iff {E P b i j : Nat} (hP : 1 ≤ P) : wval E P b i ≤ wval E P b j ↔ rankZ E P i ≤ rankZ E P j := by
 rw [wval_mag hP (n := i), wval_mag hP (n := j), rankZ_mag, rankZ_mag]
 have hi := mag_lt E P i
 have hj := mag_lt E P j
 have h1 := wval_le_iff (b := b) hP hi hj
 have h2 := wval_le_iff (b := b) hP hj hi
 have ni := wval_nonneg (b := b) hP hi
 have nj := wval_nonneg (b := b) hP hj
 have zi := wval_le_iff (E := E) (P := P) (b := b) hP hi (Nat.lt_of_le_of_lt (Nat.zero_le _) hi)
 have zj := wval_le_iff (E := E) (P := P) (b := b) hP hj (Nat.lt_of_le_of_lt (Nat.zero_le _) hj)
 rw [wval_zero] at zi zj
 generalize wval E P b (mag E P i) = x at *
 generalize wval E P b (mag E P j) = y at *
 generalize mag E P i = m at *
 generalize mag E P j = k at *
 cases wn E P i <;> cases wn E P j <;> simp only [if_pos, Bool.false_eq_true, if_false, Rat.one_mul, Rat.neg_mul]
 ·rw [h1]; omega
 ·constructor
  ·intro h
   have a1 : x ≤ 0 := by grind
   have a2 : y ≤ 0 := by grind
   have := zi.1 a1
   have := zj.1 a2
   omega
  ·intro h
   have a1 : x ≤ 0 := zi.2 (by omega)
   have a2 : y ≤ 0 := zj.2 (by omega)
   grind
 ·constructor
  ·intro h; omega
  ·intro h; grind
 ·constructor
  ·intro h
   have : y ≤ x := by grind
   have := h2.1 this
   omega
  ·intro h
   have := h2.2 (by omega)
   grind
end Go.Proofs.YtopmjkkjlagfcaaGreatDoor

/- Plain: the words of infinities and NaN, out of their parts. -/
namespace Go.Proofs.YtopmjkkjlagfcaaGreatDoor
open Go.RowKit Vn
theorem or_low {P T N : Nat} (h : N < 2 ^ P) : T * 2 ^ P ||| N = N + T * 2 ^ P := by
 have := Nat.two_pow_add_eq_or_of_lt h T
 rw [Nat.mul_comm T, ← this]; omega
theorem inf_or {E P N : Nat} (neg : Bool) (h : N < 2 ^ (P - 1)) : infw E P neg ||| N = wordN E P neg N (2 ^ E - 1) := by
 unfold infw wordN
 rw [Nat.or_assoc, or_low h]
theorem special_fits {E P N : Nat} (hP : 1 ≤ P) (h : N < 2 ^ (P - 1)) : N + (2 ^ E - 1) * 2 ^ (P - 1) < 2 ^ (E + P - 1) := by
 rw [pow_EP hP]
 have hE : 0 < 2 ^ E := Nat.pow_pos (by decide)
 obtain ⟨c, hc⟩ : ∃ c, 2 ^ E = c + 1 := ⟨2 ^ E - 1, by omega⟩
 rw [hc, Nat.add_sub_cancel, Nat.mul_comm, Nat.mul_add]
 omega
theorem special_word {E P n : Nat} (hP : 1 ≤ P) (hEP : 1 ≤ E + P) (hn : n < 2 ^ (E + P)) (hf : wf E P n = 2 ^ E - 1) : wordN E P (wn E P n) (wr P n) (2 ^ E - 1) = n := by
 have hr : wr P n < 2 ^ (P - 1) := Nat.mod_lt _ (Nat.pow_pos (by decide))
 have hs := word_split hEP hn
 have e3 : mag E P n = wr P n + (2 ^ E - 1) * 2 ^ (P - 1) := by
  unfold mag
  rw [pow_EP hP, Nat.mod_mul, Nat.mul_comm]
  show wr P n + wf E P n * 2 ^ (P - 1) = _
  rw [hf]
 conv => rhs; rw [hs]
 rw [wordN_mag _ (mag_lt E P n), wordN_eq _ (special_fits hP hr), e3]
theorem kind_full {E P n : Nat} (h : 3 ≤ wkind E P n) : wf E P n = 2 ^ E - 1 := by
 unfold wkind at h
 split at h
 ·assumption
 ·split at h <;> omega
theorem inf_back {E P n : Nat} (hP : 1 ≤ P) (hEP : 1 ≤ E + P) (hn : n < 2 ^ (E + P)) (hk : wkind E P n = 3) : infw E P (wn E P n) = n := by
 have hf := kind_full (show 3 ≤ wkind E P n by omega)
 have hr : wr P n = 0 := by
  unfold wkind at hk
  rw [if_pos hf] at hk
  split at hk
  ·assumption
  ·split at hk <;> omega
 have h1 := special_word hP hEP hn hf
 rw [hr] at h1
 have h2 := inf_or (E := E) (P := P) (N := 0) (wn E P n) (Nat.pow_pos (by decide))
 rw [Nat.or_zero] at h2
 rw [h2, h1]
theorem snan_back {E P n : Nat} (hP : 1 ≤ P) (hEP : 1 ≤ E + P) (hn : n < 2 ^ (E + P)) (hk : wkind E P n = 5) : infw E P (wn E P n) ||| wr P n = n := by
 have hf := kind_full (show 3 ≤ wkind E P n by omega)
 have hr : wr P n < 2 ^ (P - 1) := Nat.mod_lt _ (Nat.pow_pos (by decide))
 rw [inf_or _ hr, special_word hP hEP hn hf]
theorem quiet_parts {E P n : Nat} (hP : 2 ≤ P) (hk : wkind E P n = 4) : wr P n = wr P n % 2 ^ (P - 2) + 2 ^ (P - 2) := by
 have hf := kind_full (show 3 ≤ wkind E P n by omega)
 have hr : wr P n < 2 ^ (P - 1) := Nat.mod_lt _ (Nat.pow_pos (by decide))
 unfold wkind at hk
 rw [if_pos hf] at hk
 split at hk
 ·omega
 ·rename_i h0
  split at hk
  ·rename_i hb
   have h1 := bl_le (n := wr P n) (by omega)
   rw [hb, show P - 1 - 1 = P - 2 by omega] at h1
   have h2 : 2 ^ (P - 1) = 2 * 2 ^ (P - 2) := by rw [← Nat.pow_succ']; congr 1; omega
   generalize 2 ^ (P - 2) = t at *
   generalize wr P n = r at *
   have h3 : r % t = r - t := by
    rw [Nat.mod_eq_sub_mod h1, Nat.mod_eq_of_lt (by omega)]
   omega
  ·omega
theorem qnan_back {E P n : Nat} (hP : 2 ≤ P) (hn : n < 2 ^ (E + P)) (hk : wkind E P n = 4) : infw E P (wn E P n) ||| wr P n % 2 ^ (P - 2) ||| nanw E P = n := by
 have hf := kind_full (show 3 ≤ wkind E P n by omega)
 have hr : wr P n < 2 ^ (P - 1) := Nat.mod_lt _ (Nat.pow_pos (by decide))
 have hq := quiet_parts hP hk
 have hlt : wr P n % 2 ^ (P - 2) < 2 ^ (P - 2) := Nat.mod_lt _ (Nat.pow_pos (by decide))
 have e1 : ∀ s, infw E P s ||| infw E P false = infw E P s := fun s => by
  have h0 : sgb E P false = 0 := rfl
  unfold infw
  rw [h0, Nat.zero_or, Nat.or_assoc, Nat.or_self]
 have e2 : wr P n % 2 ^ (P - 2) ||| 2 ^ (P - 2) = wr P n := by
  have := or_low (T := 1) hlt
  rw [Nat.one_mul] at this
  rw [Nat.or_comm, this]; exact hq.symm
 have e3 : infw E P (wn E P n) ||| wr P n % 2 ^ (P - 2) ||| nanw E P = infw E P (wn E P n) ||| wr P n := by
  unfold nanw
  rw [Nat.or_assoc, ← Nat.or_assoc (wr P n % 2 ^ (P - 2)), Nat.or_comm (wr P n % 2 ^ (P - 2)), Nat.or_assoc (infw E P false), e2, ← Nat.or_assoc, e1]
 rw [e3, inf_or _ hr, special_word (by omega) (by omega) hn hf]
theorem dec_len_j {n j : Nat} (hj : 1 ≤ j) (h : Sm (10 * j) n) : (Lib.decDigits n).length ≤ 4 * j := by
 refine dec_len_pow (by omega) (Nat.lt_of_lt_of_le h ?_)
 rw [Nat.pow_mul, Nat.pow_mul]
 exact Nat.pow_le_pow_left (by decide) j
theorem dec_2000 {n : Nat} (h : Sm 5000 n) : (Lib.decDigits n).length ≤ 2000 := dec_len_j (j := 500) (by decide) h
end Go.Proofs.YtopmjkkjlagfcaaGreatDoor
