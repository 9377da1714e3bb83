/- floats: rank, between. -/
import Derived.Test.YtpdjenblkgaffaaGreatDoorM39
import Derived.Test.YtpdjenblkgaffaaGreatDoorM51
namespace Go.Proofs.YtpdjenblkgaffaaGreatDoor
open Go.RowKit Vn

/-- the place of a word among the words of numbers. -/
def rankZ (E P n : Nat) : Int := if wn E P n = true then -((n % 2 ^ (E + P - 1) : Nat) : Int) else ((n % 2 ^ (E + P - 1) : Nat) : Int)

set_option maxRecDepth 100000 in
set_option maxHeartbeats 4000000 in
theorem rank_c (E P m b n : Nat) (w : World) (hF : Fmt E P) (hb : b ≤ 1023) (hn : W128 n) :
   Calls Tryz.prog 80 #[.agg #[.int .i64 (E : Nat), .int .i64 (P : Nat), .int .i64 (m : Nat), .int .i64 (b : Nat)], Word n] w fun e w' => ∃ v, e = .returned v ∧ NumV w' v ((rankZ E P n : Int) : Rat) ∧ Ext w w' := by
  obtain ⟨hE, hP, _, hEP, _⟩ := fmt_bounds hF
  have hw2 : IntKind.i64.wrap ((E : Int) + P) = (E : Int) + P := IntWalk.i64_in _ (by omega)
  have hw3 : IntKind.i64.wrap ((E : Int) + P - 1) = (E : Int) + P - 1 := IntWalk.i64_in _ (by omega)
  have hv2 : wrap64 ((E : Int) + P) = (E : Int) + P := w64r _ (by omega)
  have hv3 : wrap64 ((E : Int) + P - 1) = (E : Int) + P - 1 := w64r _ (by omega)
  obtain ⟨i0, i1, ei⟩ := Word.shape n
  obtain ⟨N, hN⟩ : ∃ N, N = n % 2 ^ (E + P - 1) := ⟨_, rfl⟩
  have hN8 : W128 N := by rw [hN]; exact Nat.lt_of_le_of_lt (Nat.mod_le _ _) hn
  obtain ⟨r0, r1, er⟩ := Word.shape N
  have CLO : Hid (∀ w, Calls Tryz.prog 69 #[.agg #[.int .u64 i0, .int .u64 i1], .int .i64 ((E : Int) + P - 1)] w fun e w' => e = .returned (.agg #[.int .u64 r0, .int .u64 r1]) ∧ Ext w w') := hid fun w => by
    have := low_w n (E + P - 1) w hn (by omega)
    rw [← hN, er, ei, show (((E + P - 1 : Nat) : Nat) : Int) = (E : Int) + P - 1 by omega] at this
    exact this
  have CWH : Hid (∀ w, Calls Tryz.prog 71 #[.agg #[.int .u64 r0, .int .u64 r1]] w fun e w' => ∃ v, e = .returned v ∧ NumV w' v ((N : Nat) : Rat) ∧ Ext w w') := hid fun w => by
    have := fwhole_c N w hN8
    rwa [er] at this
  have CL : Hid (∀ w, Calls Tryz.prog 36 #[.agg #[.int .i64 (E : Nat), .int .i64 (P : Nat), .int .i64 (m : Nat), .int .i64 (b : Nat)], .agg #[.int .u64 i0, .int .u64 i1]] w (LookPost (wkind E P n) (wn E P n) (wvalK E P b n) w)) := hid fun w => by
    rw [← ei]; exact look_c E P m b n w hF hb hn
  have CNE : Hid (∀ v w, NumV w v ((N : Nat) : Rat) → _) := hid fun v w h => neg_c v _ w h
  obtain ⟨q, hq⟩ : ∃ q : Rat, q = ((rankZ E P n : Int) : Rat) := ⟨_, rfl⟩
  have HQ : Hid (q = if wn E P n = true then -((N : Nat) : Rat) else ((N : Nat) : Rat)) := hid (by
    rw [hq, hN]; unfold rankZ
    split
    · rw [Rat.intCast_neg]; rfl
    · rfl)
  rw [ei, ← hq]
  clear ei hN hN8 er hn hF hE hP hEP hq
  obtain ⟨W0, hW0, g0, hz0, B_M, B_A, B_Z⟩ := pro3s w #[.int .i64 (E : Nat), .int .i64 (P : Nat), .int .i64 (m : Nat), .int .i64 (b : Nat)] #[.int .u64 i0, .int .u64 i1] #[.bool false, .slice none 0 0, .slice none 0 0] 63 26 32
  have HE := hid g0
  have HB_M := hid B_M
  have HB_A := hid B_A
  have HB_Z := hid B_Z
  clear g0 B_M B_A B_Z 
  go_enter Tryz.func80, Tryz.ntmps80
  go_upto_region 1 with (fail)
  rw [← hW0]
  clear hW0
  obtain ⟨c_1, c_2, c_3, c_4⟩ := HB_M.out.c4
  obtain ⟨c_5, c_6⟩ := HB_A.out.c2
  obtain ⟨c_7, c_8, c_9⟩ := HB_Z.out.c3
  go_wp2_with fail
  clear c_1 c_2 c_3 c_4 c_5 c_6 c_7 c_8 c_9
  refine (CLO.out _).mono ?_
  rintro e w1 ⟨rfl, g1⟩
  have hz_w1 := g1.size
  replace HE := hid (HE.out.trans g1)
  replace HB_M := hid (HB_M.out.ext g1)
  replace HB_A := hid (HB_A.out.ext g1)
  replace HB_Z := hid (HB_Z.out.ext g1)
  obtain ⟨c_10, c_11, c_12, c_13⟩ := HB_M.out.c4
  obtain ⟨c_14, c_15⟩ := HB_A.out.c2
  obtain ⟨c_16, c_17, c_18⟩ := HB_Z.out.c3
  go_wp2_with fail
  clear c_10 c_11 c_12 c_13 c_14 c_15 c_16 c_17 c_18
  refine (CWH.out _).mono ?_
  rintro e w2 ⟨v1, rfl, k1, g2⟩
  have hz_w2 := g2.size
  replace HE := hid (HE.out.trans g2)
  replace HB_M := hid (HB_M.out.ext g2)
  replace HB_A := hid (HB_A.out.ext g2)
  replace HB_Z := hid (HB_Z.out.ext g2)
  obtain ⟨ngq19, aq19, nq19, cq19, aq19', nq19', cq19', rfl⟩ := k1.shape
  have gA := Ext.alloc w2 (.cells #[.bool ngq19, .slice aq19 nq19 cq19, .slice aq19' nq19' cq19'] 32)
  obtain ⟨c_20, c_21, c_22, c_23⟩ := (HB_M.out.ext gA).c4
  obtain ⟨c_24, c_25⟩ := (HB_A.out.ext gA).c2
  obtain ⟨c_26, c_27, c_28⟩ := (HB_Z.out.ext gA).c3
  go_wp2_with fail
  clear gA c_20 c_21 c_22 c_23 c_24 c_25 c_26 c_27 c_28
  obtain ⟨W3, hW3, g3, hy3, B_N⟩ := pro1 w2 #[.bool ngq19, .slice aq19 nq19 cq19, .slice aq19' nq19' cq19'] 32
  rw [← hW3]
  clear hW3
  have hz_W3 := g3.size
  replace HE := hid (HE.out.trans g3)
  replace HB_M := hid (HB_M.out.ext g3)
  replace HB_A := hid (HB_A.out.ext g3)
  replace HB_Z := hid (HB_Z.out.ext g3)
  replace k1 := k1.ext g3
  have HB_N := hid B_N
  clear B_N
  generalize wkind E P n = kd at *
  generalize wn E P n = sg at *
  generalize wvalK E P b n = qv at *
  refine (CL.out _).mono ?_
  rintro e w4 ⟨v2, rfl, ⟨ng, a, k, c, a', k', c', rfl, kv⟩, g4⟩
  have hz_w4 := g4.size
  replace HE := hid (HE.out.trans g4)
  replace HB_M := hid (HB_M.out.ext g4)
  replace HB_A := hid (HB_A.out.ext g4)
  replace HB_Z := hid (HB_Z.out.ext g4)
  replace HB_N := hid (HB_N.out.ext g4)
  replace k1 := k1.ext g4
  have hfd : ∀ W, (Instr.field 74 (.agg #[.int .i64 kd, .bool sg, .bool ng, .slice a k c, .slice a' k' c']) 1).run Tryz.prog W = .ok (.bool sg) W := fun W => by kernel_rfl
  by_cases hs : sg = true
  · subst hs
    have HQ2 : Hid (q = -((N : Nat) : Rat)) := hid (by rw [HQ.out]; rfl)
    clear HQ kv
    obtain ⟨c_29, c_30, c_31, c_32⟩ := HB_M.out.c4
    obtain ⟨c_33, c_34⟩ := HB_A.out.c2
    obtain ⟨c_35, c_36, c_37⟩ := HB_Z.out.c3
    obtain ⟨c_38, c_39, c_40⟩ := HB_N.out.c3
    go_wp2_with fail
    clear c_29 c_30 c_31 c_32 c_33 c_34 c_35 c_36 c_37 c_38 c_39 c_40
    refine (CNE.out _ _ k1).mono ?_
    rintro e w5 ⟨v3, rfl, k3, g5⟩
    have hz_w5 := g5.size
    replace HE := hid (HE.out.trans g5)
    replace HB_M := hid (HB_M.out.ext g5)
    replace HB_A := hid (HB_A.out.ext g5)
    replace HB_Z := hid (HB_Z.out.ext g5)
    replace HB_N := hid (HB_N.out.ext g5)
    replace k1 := k1.ext g5
    obtain ⟨ng3, a3, n3, c3, a3', n3', c3', rfl⟩ := k3.shape
    obtain ⟨c_41, c_42, c_43, c_44⟩ := HB_M.out.c4
    obtain ⟨c_45, c_46⟩ := HB_A.out.c2
    obtain ⟨c_47, c_48, c_49⟩ := HB_Z.out.c3
    obtain ⟨c_50, c_51, c_52⟩ := HB_N.out.c3
    obtain ⟨f_53, f_54, f_55⟩ := HB_Z.out.f3
    go_wp2_with fail
    clear c_41 c_42 c_43 c_44 c_45 c_46 c_47 c_48 c_49 c_50 c_51 c_52 f_53 f_54 f_55
    obtain ⟨W6, hW6, g6, q6, B6, hy6, ho6⟩ := sto3 HE.out (by omega) HB_Z.out (by decide) (.bool ng3) (.slice a3 n3 c3) (.slice a3' n3' c3')
    rw [← hW6]
    clear hW6
    replace HE := hid g6
    replace HB_M := hid (ho6 _ _ _ (by omega) HB_M.out)
    replace HB_A := hid (ho6 _ _ _ (by omega) HB_A.out)
    replace HB_N := hid (ho6 _ _ _ (by omega) HB_N.out)
    replace HB_Z := hid B6
    replace k1 := k1.keep q6
    replace k3 := k3.keep q6
    rw [HQ2.out]
    obtain ⟨c_56, c_57, c_58⟩ := HB_Z.out.c3
    refine bodyPost_ret (v := .agg #[.bool ng3, .slice a3 n3 c3, .slice a3' n3' c3']) (by simp [results, Tryz.results80, go_sem, c_56, c_57, c_58]) rfl ⟨_, rfl, k3, HE.out⟩
  · obtain rfl : sg = false := by cases sg; rfl; exact absurd rfl hs
    have HQ2 : Hid (q = ((N : Nat) : Rat)) := hid (by rw [HQ.out]; rfl)
    clear HQ hs kv
    obtain ⟨c_29, c_30, c_31⟩ := HB_N.out.c3
    obtain ⟨c_32, c_33, c_34⟩ := HB_Z.out.c3
    obtain ⟨f_35, f_36, f_37⟩ := HB_Z.out.f3
    go_wp2_with fail
    clear c_29 c_30 c_31 c_32 c_33 c_34 f_35 f_36 f_37
    obtain ⟨W5, hW5, g5, q5, B5, hy5, ho5⟩ := sto3 HE.out (by omega) HB_Z.out (by decide) (.bool ngq19) (.slice aq19 nq19 cq19) (.slice aq19' nq19' cq19')
    rw [← hW5]
    clear hW5
    replace HE := hid g5
    replace HB_M := hid (ho5 _ _ _ (by omega) HB_M.out)
    replace HB_A := hid (ho5 _ _ _ (by omega) HB_A.out)
    replace HB_N := hid (ho5 _ _ _ (by omega) HB_N.out)
    replace HB_Z := hid B5
    replace k1 := k1.keep q5
    rw [HQ2.out]
    obtain ⟨c_38, c_39, c_40⟩ := HB_Z.out.c3
    refine bodyPost_ret (v := .agg #[.bool ngq19, .slice aq19 nq19 cq19, .slice aq19' nq19' cq19']) (by simp [results, Tryz.results80, go_sem, c_38, c_39, c_40]) rfl ⟨_, rfl, k1, HE.out⟩
set_option maxRecDepth 100000 in
set_option maxHeartbeats 4000000 in
theorem between_c (E P m : Nat) (x : Value) (q : Rat) (l : Int) (K : Nat) (w : World) (hF : Fmt E P) (hm : m ≤ 4) (hx : NumV w x q) (sx : SmQ K q) (hK : K ≤ 12000) (hl : q ≠ 0 → IsLog (absQ q) l) (hT : Tabs w) (hn : W128 (rnd E P (bias E) m q l).1) :
   Calls Tryz.prog 47 #[.agg #[.int .i64 (E : Nat), .int .i64 (P : Nat), .int .i64 0, .int .i64 (bias E : Nat)], x, .int .i64 (m : Nat)] w fun e w' => ∃ v, e = .returned v ∧ NumV w' v ((rankZ E P (rnd E P (bias E) m q l).1 : Int) : Rat) ∧ Ext w w' := by
  obtain ⟨hE, hP, hb, hEP, _⟩ := fmt_bounds hF
  obtain ⟨ng, a, n, c, a', n', c', rfl⟩ := hx.shape
  obtain ⟨r, hr⟩ : ∃ r, r = rnd E P (bias E) m q l := ⟨_, rfl⟩
  rw [← hr] at hn ⊢
  obtain ⟨r0, r1, er⟩ := Word.shape r.1
  have CR : Hid (∀ v w, NumV w v q → Tabs w → Calls Tryz.prog 44 #[.agg #[.int .i64 (E : Nat), .int .i64 (P : Nat), .int .i64 (m : Nat), .int .i64 (bias E : Nat)], v] w fun e w' => e = .returned (.tuple #[.agg #[.int .u64 r0, .int .u64 r1], .int .i64 (r.2 : Nat)]) ∧ Ext w w') := hid fun v w h hT => by
    have := rnd_c E P (bias E) m v q l K w hF hm rfl h sx hK hl hT
    rw [← hr] at this
    unfold EndPost at this
    rwa [er] at this
  obtain ⟨z, hz⟩ : ∃ z : Int, z = rankZ E P r.1 := ⟨_, rfl⟩
  have CK : Hid (∀ w, Calls Tryz.prog 80 #[.agg #[.int .i64 (E : Nat), .int .i64 (P : Nat), .int .i64 (m : Nat), .int .i64 (bias E : Nat)], .agg #[.int .u64 r0, .int .u64 r1]] w fun e w' => ∃ v, e = .returned v ∧ NumV w' v ((z : Int) : Rat) ∧ Ext w w') := hid fun w => by
    have := rank_c E P m (bias E) r.1 w hF hb hn
    rwa [er, ← hz] at this
  rw [← hz]
  have HX := hid hx; have HT := hid hT
  clear hF hm hx sx hl hT hn hr er hz hE hP hb hEP
  obtain ⟨W0, hW0, g0, hz0, B_M, B_X, B_Z⟩ := pro3s w #[.int .i64 (E : Nat), .int .i64 (P : Nat), .int .i64 0, .int .i64 (bias E : Nat)] #[.bool ng, .slice a n c, .slice a' n' c'] #[.bool false, .slice none 0 0, .slice none 0 0] 63 32 32
  have HE := hid g0
  have HB_M := hid B_M
  have HB_X := hid B_X
  have HB_Z := hid B_Z
  clear g0 B_M B_X B_Z 
  go_enter Tryz.func47, Tryz.ntmps47
  go_upto_region 1 with (fail)
  rw [← hW0]
  clear hW0
  have kx := HX.out.ext HE.out
  obtain ⟨c_1, c_2, c_3, c_4⟩ := HB_M.out.c4
  obtain ⟨f_5, f_6, f_7, f_8⟩ := HB_M.out.f4
  go_upto_region 2 with (fail)
  clear c_1 c_2 c_3 c_4 f_5 f_6 f_7 f_8
  obtain ⟨W1, hW1, g1, q1, B1, hy1, ho1⟩ := sto1 HE.out (by omega) HB_M.out (by decide) 2 (.int .i64 (m : Nat))
  rw [← hW1]
  clear hW1
  replace HE := hid g1
  replace B1 : Box W1 w.heap.size #[.int .i64 (E : Nat), .int .i64 (P : Nat), .int .i64 (m : Nat), .int .i64 (bias E : Nat)] 63 := B1
  replace HB_X := hid (ho1 _ _ _ (by omega) HB_X.out)
  replace HB_Z := hid (ho1 _ _ _ (by omega) HB_Z.out)
  replace HB_M := hid B1
  replace kx := kx.keep q1
  obtain ⟨c_9, c_10, c_11, c_12⟩ := HB_M.out.c4
  obtain ⟨c_13, c_14, c_15⟩ := HB_X.out.c3
  obtain ⟨c_16, c_17, c_18⟩ := HB_Z.out.c3
  go_wp2_with fail
  clear c_9 c_10 c_11 c_12 c_13 c_14 c_15 c_16 c_17 c_18
  refine (CR.out _ _ kx (HT.out.ext HE.out)).mono ?_
  rintro e w2 ⟨rfl, g2⟩
  have hz_w2 := g2.size
  replace HE := hid (HE.out.trans g2)
  replace HB_M := hid (HB_M.out.ext g2)
  replace HB_X := hid (HB_X.out.ext g2)
  replace HB_Z := hid (HB_Z.out.ext g2)
  replace kx := kx.ext g2
  have gA := Ext.alloc w2 (.cells #[.int .u64 r0, .int .u64 r1] 26)
  obtain ⟨c_19, c_20, c_21, c_22⟩ := (HB_M.out.ext gA).c4
  obtain ⟨c_23, c_24, c_25⟩ := (HB_X.out.ext gA).c3
  obtain ⟨c_26, c_27, c_28⟩ := (HB_Z.out.ext gA).c3
  go_wp2_with fail
  clear gA c_19 c_20 c_21 c_22 c_23 c_24 c_25 c_26 c_27 c_28
  obtain ⟨W3, hW3, g3, hy3, B_W⟩ := pro1 w2 #[.int .u64 r0, .int .u64 r1] 26
  rw [← hW3]
  clear hW3
  have hz_W3 := g3.size
  replace HE := hid (HE.out.trans g3)
  replace HB_M := hid (HB_M.out.ext g3)
  replace HB_X := hid (HB_X.out.ext g3)
  replace HB_Z := hid (HB_Z.out.ext g3)
  replace kx := kx.ext g3
  have HB_W := hid B_W
  clear B_W
  refine (CK.out _).mono ?_
  rintro e w4 ⟨v3, rfl, k3, g4⟩
  have hz_w4 := g4.size
  replace HE := hid (HE.out.trans g4)
  replace HB_M := hid (HB_M.out.ext g4)
  replace HB_X := hid (HB_X.out.ext g4)
  replace HB_Z := hid (HB_Z.out.ext g4)
  replace HB_W := hid (HB_W.out.ext g4)
  replace kx := kx.ext g4
  obtain ⟨ng3, a3, n3, c3, a3', n3', c3', rfl⟩ := k3.shape
  obtain ⟨c_29, c_30, c_31, c_32⟩ := HB_M.out.c4
  obtain ⟨c_33, c_34, c_35⟩ := HB_X.out.c3
  obtain ⟨c_36, c_37, c_38⟩ := HB_Z.out.c3
  obtain ⟨c_39, c_40⟩ := HB_W.out.c2
  obtain ⟨f_41, f_42, f_43⟩ := HB_Z.out.f3
  go_wp2_with fail
  clear c_29 c_30 c_31 c_32 c_33 c_34 c_35 c_36 c_37 c_38 c_39 c_40 f_41 f_42 f_43
  obtain ⟨W5, hW5, g5, q5, B5, hy5, ho5⟩ := sto3 HE.out (by omega) HB_Z.out (by decide) (.bool ng3) (.slice a3 n3 c3) (.slice a3' n3' c3')
  rw [← hW5]
  clear hW5
  replace HE := hid g5
  replace HB_M := hid (ho5 _ _ _ (by omega) HB_M.out)
  replace HB_X := hid (ho5 _ _ _ (by omega) HB_X.out)
  replace HB_W := hid (ho5 _ _ _ (by omega) HB_W.out)
  replace HB_Z := hid B5
  replace kx := kx.keep q5
  replace k3 := k3.keep q5
  obtain ⟨c_44, c_45, c_46⟩ := HB_Z.out.c3
  refine bodyPost_ret (v := .agg #[.bool ng3, .slice a3 n3 c3, .slice a3' n3' c3']) (by simp [results, Tryz.results47, go_sem, c_44, c_45, c_46]) rfl ⟨_, rfl, k3, HE.out⟩
end Go.Proofs.YtpdjenblkgaffaaGreatDoor

/- Plain: what a sum that is rounded to the nearest value differs by is a value. -/
namespace Go.Proofs.YtpdjenblkgaffaaGreatDoor
open Go.RowKit Vn

theorem mode0 (s : Bool) : modeN 0 s = 0 := by unfold modeN mirM; split <;> rfl
theorem evN_neg (P b : Nat) (q : Rat) (l : Int) : evN P b (-q) l = evN P b q l := by
  have hT : rdT P b l (-q) = rdT P b l q := by unfold rdT; rw [absQ_neg]
  have hN : rdN P b l (-q) = rdN P b l q := by unfold rdN; rw [hT]
  unfold evN endN
  rw [hT, hN, mode0, mode0]
theorem evV_neg (P b : Nat) (q : Rat) (l : Int) : evV P b (-q) l = evV P b q l := by unfold evV; rw [evN_neg]

theorem err_sum {P b : Nat} {x y : Rat} {l : Int} (hP : 1 ≤ P) (hx : IsVal P b x) (hy : IsVal P b y) (hl : IsLog (absQ (x + y)) l) :
    IsVal P b (x + y - (if decide ((x + y).num < 0) = true then -1 else 1) * evV P b (x + y) l) ∧ absQ (x + y - (if decide ((x + y).num < 0) = true then -1 else 1) * evV P b (x + y) l) ≤ absQ x := by
  by_cases h0 : 0 ≤ x + y
  · have hn : ¬ (x + y).num < 0 := fun h => absurd h0 (Rat.not_le.2 (num_neg_iff.1 h))
    rw [if_neg (by simp only [decide_eq_true_eq]; exact hn), Rat.one_mul]
    obtain ⟨k1, k2, _⟩ := err_pos hP hx hy hl h0
    exact ⟨k1, k2⟩
  · have hn : (x + y).num < 0 := num_neg_iff.2 (Rat.not_le.1 h0)
    rw [if_pos (decide_eq_true hn)]
    have e : -x + -y = -(x + y) := by grind
    have hl2 : IsLog (absQ (-x + -y)) l := by rw [e, absQ_neg]; exact hl
    have h02 : 0 ≤ -x + -y := by grind
    obtain ⟨k1, k2, _⟩ := err_pos hP hx.neg hy.neg hl2 h02
    rw [e, evV_neg] at k1 k2
    have e2 : x + y - -1 * evV P b (x + y) l = -(-(x + y) - evV P b (x + y) l) := by grind
    rw [e2, absQ_neg]
    rw [absQ_neg] at k2
    exact ⟨k1.neg, k2⟩

/-- rounded up to a power of two, it has its word as well. -/
theorem end_fits {E P n f : Nat} (hE : 1 ≤ E) (hP : 1 ≤ P) (hn : n ≤ 2 ^ P) (hf : f = 0 ∨ 2 ^ (P - 1) ≤ n) (hg : ((n : Nat) : Rat) * (2 : Rat) ^ (2 - (bias E : Int) - P + (f : Nat)) ≤ grQ P (bias E)) : n + f * 2 ^ (P - 1) < 2 ^ (E + P - 1) := by
  rcases Nat.lt_or_ge n (2 ^ P) with h | h
  · exact rd_fits hE hP h hf hg
  · obtain rfl : n = 2 ^ P := by omega
    have h1 : (2 : Rat) ^ ((P : Int) + (2 - (bias E : Int) - P + (f : Nat))) ≤ grQ P (bias E) := by rw [p2_add, p2_nat]; exact hg
    have h2 := grQ_lt P (bias E)
    have h3 : (2 : Rat) ^ ((P : Int) + (2 - (bias E : Int) - P + (f : Nat))) < (2 : Rat) ^ ((bias E : Int) + 1) := by grind
    rw [p2_lt_iff] at h3
    have h4 := two_bias hE
    have h5 : 2 ^ P = 2 * 2 ^ (P - 1) := by rw [← Nat.pow_succ']; congr 1; omega
    rw [pow_EP hP, h4, h5]
    have h6 : f + 2 ≤ 2 * bias E := by omega
    have h7 : (f + 2) * 2 ^ (P - 1) ≤ 2 * bias E * 2 ^ (P - 1) := Nat.mul_le_mul_right _ h6
    have h8 : 2 ^ (P - 1) * (2 * bias E + 2) = 2 * bias E * 2 ^ (P - 1) + 2 * 2 ^ (P - 1) := by rw [Nat.mul_add, Nat.mul_comm, Nat.mul_comm (2 ^ (P - 1)) 2]
    have h9 : (f + 2) * 2 ^ (P - 1) = f * 2 ^ (P - 1) + 2 * 2 ^ (P - 1) := by rw [Nat.add_mul]
    have hp : 0 < 2 ^ (P - 1) := Nat.pow_pos (by decide)
    omega

theorem inf_word (E P : Nat) (s : Bool) : infw E P s = wordN E P s 0 (2 ^ E - 1) := by unfold infw wordN; rw [Nat.zero_add]
theorem inf_ok {E P : Nat} (hP : 1 ≤ P) (s : Bool) : infw E P s < 2 ^ (E + P) ∧ valueR E P (infw E P s) = (0, 4) := by
  have hp : 0 < 2 ^ (P - 1) := Nat.pow_pos (by decide)
  have he : 0 < 2 ^ E := Nat.pow_pos (by decide)
  have h0 : 0 + (2 ^ E - 1) * 2 ^ (P - 1) < 2 ^ (E + P - 1) := by
    rw [Nat.zero_add, pow_EP hP, Nat.mul_comm (2 ^ (P - 1))]
    exact Nat.mul_lt_mul_of_pos_right (by omega) hp
  have hlt : infw E P s < 2 ^ (E + P) := by rw [inf_word]; exact wordN_lt (by omega) s h0
  refine ⟨hlt, ?_⟩
  have e1 : wf E P (infw E P s) = 2 ^ E - 1 := by rw [inf_word, wordN_wf hP s h0, Nat.zero_add, Nat.mul_div_cancel _ hp]
  have e2 : wr P (infw E P s) = 0 := by rw [inf_word, wordN_wr hP s h0, Nat.zero_mod]
  have e3 : wkind E P (infw E P s) = 3 := by unfold wkind; rw [if_pos e1, if_pos e2]
  unfold valueR
  rw [if_neg (fun k => k hlt), if_pos (by rw [e3]; decide)]

theorem errs_ok {E P i j : Nat} {l : Int} (hE : 2 ≤ E) (hP : 1 ≤ P) (ki : wkind E P i ≤ 2) (kj : wkind E P j ≤ 2)
    (hl : wvalK E P (bias E) i + wvalK E P (bias E) j ≠ 0 → IsLog (absQ (wvalK E P (bias E) i + wvalK E P (bias E) j)) l) (r : Nat × Nat)
    (hr : r = addR E P (bias E) 0 (wkind E P i) (wn E P i) (wvalK E P (bias E) i) (wkind E P j) (wn E P j) (wvalK E P (bias E) j) l) :
    r.1 < 2 ^ (E + P) ∧ ((r.2 = 20 ∧ valueR E P r.1 = (0, 4)) ∨ (∃ v, valueR E P r.1 = (v, 0) ∧ IsVal P (bias E) (wvalK E P (bias E) i + wvalK E P (bias E) j - v) ∧
      absQ (wvalK E P (bias E) i + wvalK E P (bias E) j - v) ≤ grQ P (bias E) ∧ (r.2 = 0 ↔ v = wvalK E P (bias E) i + wvalK E P (bias E) j))) := by
  have va : IsVal P (bias E) (wvalK E P (bias E) i) := by rw [wvalK_fin ki]; exact wval_isVal hP
  have vb : IsVal P (bias E) (wvalK E P (bias E) j) := by rw [wvalK_fin kj]; exact wval_isVal hP
  have ga : absQ (wvalK E P (bias E) i) ≤ grQ P (bias E) := by rw [wvalK_fin ki]; exact wval_le hE hP (fin_wf ki)
  generalize wvalK E P (bias E) i = a at *
  generalize wvalK E P (bias E) j = b at *
  unfold addR at hr
  rw [if_neg (by omega), if_neg (by omega), if_neg (by omega)] at hr
  by_cases hd : a + b = 0
  · rw [if_neg (fun k => k hd)] at hr
    have key : ∀ s, r = (sgb E P s, 0) → r.1 < 2 ^ (E + P) ∧ ((r.2 = 20 ∧ valueR E P r.1 = (0, 4)) ∨ (∃ v, valueR E P r.1 = (v, 0) ∧ IsVal P (bias E) (a + b - v) ∧ absQ (a + b - v) ≤ grQ P (bias E) ∧ (r.2 = 0 ↔ v = a + b))) := fun s hs => by
      obtain ⟨k1, k2⟩ := sgb_ok hE hP s
      rw [hs]
      refine ⟨k1, .inr ⟨0, k2, ?_, ?_, ?_⟩⟩
      · rw [hd]; have : (0 : Rat) - 0 = 0 := by grind
        rw [this]; exact IsVal.zero _ _
      · rw [hd]; have : (0 : Rat) - 0 = 0 := by grind
        rw [this, absQ_nonneg Rat.le_refl]; exact grQ_nonneg _ _
      · exact ⟨fun _ => hd.symm, fun _ => rfl⟩
    split at hr
    · exact key _ hr
    · exact key _ hr
  · rw [if_pos hd] at hr
    replace hl := hl hd
    obtain ⟨k1, k2⟩ := err_sum hP va vb hl
    have hN := endN_le (P := P) (b := bias E) (m := 0) hl (decide ((a + b).num < 0)) (decide ((rdT P (bias E) l (a + b)).den = 1)) (cmpQ ((rdT P (bias E) l (a + b) - (rdN P (bias E) l (a + b) : Nat)) * 2) 1)
    by_cases hg : ((evN P (bias E) (a + b) l : Nat) : Rat) * (2 : Rat) ^ (rdK P (bias E) l) ≤ grQ P (bias E)
    · have hge : rdF (bias E) l = 0 ∨ 2 ^ (P - 1) ≤ evN P (bias E) (a + b) l := by
        rcases rdN_ge (b := bias E) hP hl with h | h
        · exact .inl h
        · exact .inr (Nat.le_trans h hN.2)
      have hfit := end_fits (by omega) hP hN.1 hge hg
      obtain ⟨v1, v2⟩ := round_val (E := E) (m := 0) (by omega) hP hl (evN P (bias E) (a + b) l) rfl hg hfit
      have hw : (roundR E P (bias E) 0 (a + b) l).1 = wordN E P (decide ((a + b).num < 0)) (evN P (bias E) (a + b) l) (rdF (bias E) l) := by
        unfold roundR endR
        exact congrArg Prod.fst (if_pos hg)
      have hlt : r.1 < 2 ^ (E + P) := by rw [hr, hw]; exact wordN_lt (by omega) _ hfit
      have hsz : absQ (wval E P (bias E) r.1) ≤ grQ P (bias E) := by rw [hr, v1, absQ_signed (steps_nonneg _ _)]; exact hg
      refine ⟨hlt, .inr ⟨_, value_fin hlt (kind_of_le hE hP hsz), ?_⟩⟩
      rw [hr, v1, v2]
      refine ⟨k1, Rat.le_trans k2 ga, ?_⟩
      have hs := absQ_sign (a + b)
      have hb := absQ_back P (bias E) (a + b) l
      by_cases his : (rdT P (bias E) l (a + b)).den = 1
      · rw [decide_eq_true his]
        have hT : rdT P (bias E) l (a + b) = ((rdN P (bias E) l (a + b) : Nat) : Rat) := by
          have := den_one his
          rw [rdN_floor] at this
          exact this.symm
        have hz := exact_zero hT
        unfold evV at hz
        rw [hz, hs]
        exact ⟨fun _ => rfl, fun _ => rfl⟩
      · rw [decide_eq_false his]
        refine ⟨fun h => ?_, fun h => ?_⟩
        · exfalso; unfold endF at h; rw [if_neg (by decide)] at h; split at h <;> omega
        · exfalso
          apply his
          have h1 : ((evN P (bias E) (a + b) l : Nat) : Rat) * (2 : Rat) ^ (rdK P (bias E) l) = absQ (a + b) := by
            have h2 := congrArg absQ h
            rwa [absQ_signed (steps_nonneg _ _)] at h2
          rw [hb] at h1
          have h3 : ((evN P (bias E) (a + b) l : Nat) : Rat) = rdT P (bias E) l (a + b) := by
            have h4 := congrArg (· * (2 : Rat) ^ (-(rdK P (bias E) l))) h1
            simp only [Rat.mul_assoc, p2_cancel', Rat.mul_one] at h4
            exact h4
          rw [← h3]; rfl
    · have hw : roundR E P (bias E) 0 (a + b) l = (infw E P (decide ((a + b).num < 0)), 20) := by
        unfold roundR endR
        exact (if_neg hg).trans (if_neg (by rw [mode0]; omega))
      rw [hr, hw]
      obtain ⟨k3, k4⟩ := inf_ok (E := E) hP (decide ((a + b).num < 0))
      exact ⟨k3, .inl ⟨rfl, k4⟩⟩
end Go.Proofs.YtpdjenblkgaffaaGreatDoor

/- Plain: the word of a rounded number is a word of the format. -/
namespace Go.Proofs.YtpdjenblkgaffaaGreatDoor
open Go.RowKit Vn

theorem great_fits {E P : Nat} (hE : 2 ≤ E) (hP : 1 ≤ P) : 2 ^ P - 1 + (2 * bias E - 1) * 2 ^ (P - 1) < 2 ^ (E + P - 1) := by
  have h4 := two_bias (E := E) (by omega)
  have h5 : 2 ^ P = 2 * 2 ^ (P - 1) := by rw [← Nat.pow_succ']; congr 1; omega
  have hb : 1 ≤ bias E := by
    have : 2 ^ 2 ≤ 2 ^ E := Nat.pow_le_pow_right (by decide) hE
    omega
  rw [pow_EP hP, h4, h5]
  obtain ⟨c, hc⟩ : ∃ c, bias E = c + 1 := ⟨bias E - 1, by omega⟩
  rw [hc, show 2 * (c + 1) - 1 = 2 * c + 1 by omega]
  have hp : 0 < 2 ^ (P - 1) := Nat.pow_pos (by decide)
  generalize 2 ^ (P - 1) = t at *
  have e1 : (2 * c + 1) * t = 2 * (c * t) + t := by rw [Nat.add_mul, Nat.mul_assoc, Nat.one_mul]
  have e2 : t * (2 * (c + 1) + 2) = 2 * (c * t) + 4 * t := by
    rw [Nat.mul_add, Nat.mul_comm t (2 * (c + 1)), Nat.mul_assoc, Nat.add_mul]; omega
  omega
theorem roundR_lt {E P m : Nat} {q : Rat} {l : Int} (hE : 2 ≤ E) (hP : 1 ≤ P) (hl : IsLog (absQ q) l) : (roundR E P (bias E) m q l).1 < 2 ^ (E + P) := by
  have hN := endN_le (P := P) (b := bias E) (m := m) hl (decide (q.num < 0)) (decide ((rdT P (bias E) l q).den = 1)) (cmpQ ((rdT P (bias E) l q - (rdN P (bias E) l q : Nat)) * 2) 1)
  have hge : rdF (bias E) l = 0 ∨ 2 ^ (P - 1) ≤ endN m (decide (q.num < 0)) (rdN P (bias E) l q) (decide ((rdT P (bias E) l q).den = 1)) (cmpQ ((rdT P (bias E) l q - (rdN P (bias E) l q : Nat)) * 2) 1) := by
    rcases rdN_ge (b := bias E) hP hl with h | h
    · exact .inl h
    · exact .inr (Nat.le_trans h hN.2)
  unfold roundR endR
  split
  · rename_i hg
    exact wordN_lt (by omega) _ (end_fits (by omega) hP hN.1 hge hg)
  · split
    · exact wordN_lt (by omega) _ (great_fits hE hP)
    · exact (inf_ok hP _).1
theorem rnd_lt {E P m : Nat} {q : Rat} {l : Int} (hE : 2 ≤ E) (hP : 1 ≤ P) (hl : q ≠ 0 → IsLog (absQ q) l) : (rnd E P (bias E) m q l).1 < 2 ^ (E + P) := by
  unfold rnd
  split
  · exact Nat.pow_pos (by decide)
  · rename_i h
    exact roundR_lt hE hP (hl h)
theorem w128_of {E P n : Nat} (h : E + P ≤ 124) (hn : n < 2 ^ (E + P)) : W128 n := Nat.lt_of_lt_of_le hn (Nat.pow_le_pow_right (n := 2) (j := 128) (by decide) (by omega))
end Go.Proofs.YtpdjenblkgaffaaGreatDoor

/- Numbers held against each other. -/
namespace Go.Proofs.YtpdjenblkgaffaaGreatDoor
open Go.RowKit Vn

theorem cmpQ_lt {q r : Rat} : cmpQ q r < 0 ↔ q < r := by
  unfold cmpQ
  split
  · rename_i h; exact ⟨fun _ => h, fun _ => by decide⟩
  · rename_i h
    split
    · exact ⟨fun k => absurd k (by decide), fun k => absurd k h⟩
    · exact ⟨fun k => absurd k (by decide), fun k => absurd k h⟩
theorem cmpQ_gt {q r : Rat} : 0 < cmpQ q r ↔ r < q := by
  unfold cmpQ
  split
  · rename_i h; exact ⟨fun k => absurd k (by decide), fun k => absurd k (by grind)⟩
  · split
    · rename_i h1 h; exact ⟨fun _ => h, fun _ => by decide⟩
    · rename_i h1 h; exact ⟨fun k => absurd k (by decide), fun k => absurd k h⟩
end Go.Proofs.YtpdjenblkgaffaaGreatDoor

/- floats: Count; exact: Max. -/
namespace Go.Proofs.YtpdjenblkgaffaaGreatDoor
open Go.RowKit Vn

def maxQ (q r : Rat) : Rat := if cmpQ q r < 0 then r else q
set_option maxRecDepth 100000 in
set_option maxHeartbeats 4000000 in
theorem Max_c (x y : Value) (q r : Rat) (K : Nat) (w : World) (hx : NumV w x q) (hy : NumV w y r) (sx : SmQ K q) (sy : SmQ K r) (hK : K ≤ 20000000) :
   Calls Tryz.prog 50 #[x, y] w fun e w' => ∃ v, e = .returned v ∧ NumV w' v (maxQ q r) ∧ Ext w w' := by
  obtain ⟨ng, a, n, c, a', n', c', rfl⟩ := hx.shape
  obtain ⟨mg, d, k, e, d', k', e', rfl⟩ := hy.shape
  obtain ⟨cc, hcc⟩ : ∃ s, s = cmpQ q r := ⟨_, rfl⟩
  have CCM : Hid (∀ u v w, NumV w u q → NumV w v r → Calls Tryz.prog 13 #[u, v] w fun e w' => e = .returned (.int .i64 cc) ∧ Ext w w') := hid fun u v w h k => by
    rw [hcc]; exact Cmp_c u v q r K w h k sx sy hK
  have HC := hid hcc
  have HX := hid hx; have HY := hid hy
  clear hx hy sx sy hcc hK
  obtain ⟨W0, hW0, g0, hz0, B_X, B_Y, B_Z⟩ := pro3s w #[.bool ng, .slice a n c, .slice a' n' c'] #[.bool mg, .slice d k e, .slice d' k' e'] #[.bool false, .slice none 0 0, .slice none 0 0] 32 32 32
  have HE := hid g0
  have HB_X := hid B_X
  have HB_Y := hid B_Y
  have HB_Z := hid B_Z
  clear g0 B_X B_Y B_Z 
  go_enter Tryz.func50, Tryz.ntmps50
  go_upto_region 1 with (fail)
  rw [← hW0]
  clear hW0
  have kx := HX.out.ext HE.out
  have ky := HY.out.ext HE.out
  obtain ⟨c_1, c_2, c_3⟩ := HB_X.out.c3
  obtain ⟨c_4, c_5, c_6⟩ := HB_Y.out.c3
  obtain ⟨c_7, c_8, c_9⟩ := HB_Z.out.c3
  go_wp2_with fail
  clear c_1 c_2 c_3 c_4 c_5 c_6 c_7 c_8 c_9
  refine (CCM.out _ _ _ kx ky).mono ?_
  rintro e w1 ⟨rfl, g1⟩
  have hz_w1 := g1.size
  replace HE := hid (HE.out.trans g1)
  replace HB_X := hid (HB_X.out.ext g1)
  replace HB_Y := hid (HB_Y.out.ext g1)
  replace HB_Z := hid (HB_Z.out.ext g1)
  replace kx := kx.ext g1
  replace ky := ky.ext g1
  by_cases h : cc < 0
  · have hd : decide (cc < 0) = true := decide_eq_true h
    have HM : Hid (maxQ q r = r) := hid (by unfold maxQ; rw [← HC.out, if_pos h])
    clear h
    obtain ⟨c_10, c_11, c_12⟩ := HB_X.out.c3
    obtain ⟨c_13, c_14, c_15⟩ := HB_Y.out.c3
    obtain ⟨c_16, c_17, c_18⟩ := HB_Z.out.c3
    obtain ⟨f_19, f_20, f_21⟩ := HB_Z.out.f3
    go_wp2_with fail
    clear c_10 c_11 c_12 c_13 c_14 c_15 c_16 c_17 c_18 f_19 f_20 f_21
    obtain ⟨W2, hW2, g2, q2, B2, hy2, ho2⟩ := sto3 HE.out (by omega) HB_Z.out (by decide) (.bool mg) (.slice d k e) (.slice d' k' e')
    rw [← hW2]
    clear hW2
    replace HE := hid g2
    replace HB_X := hid (ho2 _ _ _ (by omega) HB_X.out)
    replace HB_Y := hid (ho2 _ _ _ (by omega) HB_Y.out)
    replace HB_Z := hid B2
    replace kx := kx.keep q2
    replace ky := ky.keep q2
    rw [HM.out]
    obtain ⟨c_22, c_23, c_24⟩ := HB_Z.out.c3
    refine bodyPost_ret (v := .agg #[.bool mg, .slice d k e, .slice d' k' e']) (by simp [results, Tryz.results50, go_sem, c_22, c_23, c_24]) rfl ⟨_, rfl, ky, HE.out⟩
  · have hd : decide (cc < 0) = false := decide_eq_false h
    have HM : Hid (maxQ q r = q) := hid (by unfold maxQ; rw [← HC.out, if_neg h])
    clear h
    obtain ⟨c_10, c_11, c_12⟩ := HB_X.out.c3
    obtain ⟨c_13, c_14, c_15⟩ := HB_Y.out.c3
    obtain ⟨c_16, c_17, c_18⟩ := HB_Z.out.c3
    obtain ⟨f_19, f_20, f_21⟩ := HB_Z.out.f3
    go_wp2_with fail
    clear c_10 c_11 c_12 c_13 c_14 c_15 c_16 c_17 c_18 f_19 f_20 f_21
    obtain ⟨W2, hW2, g2, q2, B2, hy2, ho2⟩ := sto3 HE.out (by omega) HB_Z.out (by decide) (.bool ng) (.slice a n c) (.slice a' n' c')
    rw [← hW2]
    clear hW2
    replace HE := hid g2
    replace HB_X := hid (ho2 _ _ _ (by omega) HB_X.out)
    replace HB_Y := hid (ho2 _ _ _ (by omega) HB_Y.out)
    replace HB_Z := hid B2
    replace kx := kx.keep q2
    replace ky := ky.keep q2
    rw [HM.out]
    obtain ⟨c_22, c_23, c_24⟩ := HB_Z.out.c3
    refine bodyPost_ret (v := .agg #[.bool ng, .slice a n c, .slice a' n' c']) (by simp [results, Tryz.results50, go_sem, c_22, c_23, c_24]) rfl ⟨_, rfl, kx, HE.out⟩

/-- how many values there are, by the words of both ends. -/
def countZ (E P i j : Nat) : Int := rankZ E P j - rankZ E P i + 1
theorem rankZ_lt {E P n : Nat} (h : E + P ≤ 124) : (rankZ E P n).natAbs < 2 ^ 124 := by
  have h1 : n % 2 ^ (E + P - 1) < 2 ^ (E + P - 1) := Nat.mod_lt _ (Nat.pow_pos (by decide))
  have h2 : 2 ^ (E + P - 1) ≤ 2 ^ 124 := Nat.pow_le_pow_right (by decide) (by omega)
  unfold rankZ
  generalize n % 2 ^ (E + P - 1) = t at *
  generalize 2 ^ (E + P - 1) = s at *
  split <;> omega
theorem max0 (z : Int) : maxQ (z : Rat) ((0 : Int) : Rat) = ((max z 0 : Int) : Rat) := by
  unfold maxQ
  have h : cmpQ (z : Rat) ((0 : Int) : Rat) < 0 ↔ z < 0 := by rw [cmpQ_lt, Rat.intCast_lt_intCast]
  by_cases h2 : z < 0
  · rw [if_pos (h.2 h2), show max z 0 = 0 by omega]
  · rw [if_neg (fun k => h2 (h.1 k)), show max z 0 = z by omega]
set_option maxRecDepth 100000 in
set_option maxHeartbeats 4000000 in
theorem Count_long (E P : Nat) (x y : Value) (qx qy : Rat) (z : Int) (w : World) (hF : Fmt E P) (hx : NumV w x qx) (hy : NumV w y qy) (zx zy : Int) (hz : z = zy - zx + 1) (bx : zx.natAbs < 2 ^ 124) (bY : zy.natAbs < 2 ^ 124) (CA : Hid (∀ v w, NumV w v qx → Tabs w → Calls Tryz.prog 47 #[.agg #[.int .i64 (E : Nat), .int .i64 (P : Nat), .int .i64 0, .int .i64 (bias E : Nat)], v, .int .i64 3] w fun e w' => ∃ v, e = .returned v ∧ NumV w' v ((zx : Int) : Rat) ∧ Ext w w')) (CB : Hid (∀ v w, NumV w v qy → Tabs w → Calls Tryz.prog 47 #[.agg #[.int .i64 (E : Nat), .int .i64 (P : Nat), .int .i64 0, .int .i64 (bias E : Nat)], v, .int .i64 4] w fun e w' => ∃ v, e = .returned v ∧ NumV w' v ((zy : Int) : Rat) ∧ Ext w w')) (hT : Tabs w) (hb : 4611686018427387904 < z) :
   Calls Tryz.prog 20 #[.agg #[.int .i64 (E : Nat), .int .i64 (P : Nat)], x, y] w fun e w' => e = .returned (.tuple #[.int .i64 0, .int .i64 3]) ∧ Ext w w' := by
  obtain ⟨ng, a, n, c, a', n', c', rfl⟩ := hx.shape
  obtain ⟨mg, d, k, e, d', k', e', rfl⟩ := hy.shape
  have CW := hid (fun w => with_nil E P w hF)
  have ez : ((zy : Int) : Rat) - ((zx : Int) : Rat) + ((1 : Int) : Rat) = ((z : Int) : Rat) := by rw [hz, Rat.intCast_add, Rat.intCast_sub]
  have sx : SmQ 124 ((zx : Int) : Rat) := SmQ.int (by decide) bx
  have sy : SmQ 124 ((zy : Int) : Rat) := SmQ.int (by decide) bY
  have s1 : SmQ 124 ((1 : Int) : Rat) := SmQ.int (by decide) (by decide)
  have sd : SmQ 249 (((zy : Int) : Rat) - ((zx : Int) : Rat)) := sy.sub sx
  have sz : SmQ 374 ((z : Int) : Rat) := by rw [← ez]; exact sd.add s1
  have CSU : Hid (∀ u v w, NumV w u ((zy : Int) : Rat) → NumV w v ((zx : Int) : Rat) → _) := hid fun u v w h k => Sub_c u v _ _ 124 w h k sy sx (by decide)
  have CI1 : Hid (∀ w, _) := hid fun w => Int_c 1 w (by decide) (by decide)
  have CAD : Hid (∀ u v w, NumV w u (((zy : Int) : Rat) - ((zx : Int) : Rat)) → NumV w v ((1 : Int) : Rat) → Calls Tryz.prog 49 #[u, v] w fun e w' => ∃ t, e = .returned t ∧ NumV w' t ((z : Int) : Rat) ∧ Ext w w') := hid fun u v w h k => by
    have := Add_c u v _ _ 249 w h k sd (s1.mono (by decide)) (by decide)
    rwa [ez] at this
  have e62 : (2 : Rat) ^ (62 : Int) = ((4611686018427387904 : Int) : Rat) := by decide +kernel
  have CT : Hid (∀ w, Calls Tryz.prog 25 #[.int .i64 62] w fun e w' => ∃ v, e = .returned v ∧ NumV w' v ((4611686018427387904 : Int) : Rat) ∧ Ext w w') := hid fun w => by
    have := two_c 62 w (by decide) (by decide)
    rwa [e62] at this
  obtain ⟨cc, hcc⟩ : ∃ s, s = cmpQ ((z : Int) : Rat) ((4611686018427387904 : Int) : Rat) := ⟨_, rfl⟩
  have CCM : Hid (∀ u v w, NumV w u ((z : Int) : Rat) → NumV w v ((4611686018427387904 : Int) : Rat) → Calls Tryz.prog 13 #[u, v] w fun e w' => e = .returned (.int .i64 cc) ∧ Ext w w') := hid fun u v w h k => by
    rw [hcc]; exact Cmp_c u v _ _ 374 w h k sz ((SmQ.int (K := 124) (by decide) (by decide)).mono (by decide)) (by decide)
  have hcv : 0 < cc ↔ 4611686018427387904 < z := by rw [hcc, cmpQ_gt, Rat.intCast_lt_intCast]
  have HX := hid hx; have HY := hid hy; have HT := hid hT
  have hd : decide (0 < cc) = true := decide_eq_true (hcv.2 hb)
  clear hF hx hy hz bx bY sx sy s1 sd sz ez e62 hcc hcv hb hT
  obtain ⟨W0, hW0, g0, hz0, B_F, B_X, B_Y⟩ := pro3s w #[.int .i64 (E : Nat), .int .i64 (P : Nat)] #[.bool ng, .slice a n c, .slice a' n' c'] #[.bool mg, .slice d k e, .slice d' k' e'] 23 32 32
  have HE := hid g0
  have HB_F := hid B_F
  have HB_X := hid B_X
  have HB_Y := hid B_Y
  clear g0 B_F B_X B_Y 
  go_enter Tryz.func20, Tryz.ntmps20
  go_upto_region 1 with (fail)
  rw [← hW0]
  clear hW0
  have kx := HX.out.ext HE.out
  have ky := HY.out.ext HE.out
  obtain ⟨c_1, c_2⟩ := HB_F.out.c2
  obtain ⟨c_3, c_4, c_5⟩ := HB_X.out.c3
  obtain ⟨c_6, c_7, c_8⟩ := HB_Y.out.c3
  go_wp2_with fail
  clear c_1 c_2 c_3 c_4 c_5 c_6 c_7 c_8
  refine (CW.out _).mono ?_
  rintro e w1 ⟨rfl, g1⟩
  have hz_w1 := g1.size
  replace HE := hid (HE.out.trans g1)
  replace HB_F := hid (HB_F.out.ext g1)
  replace HB_X := hid (HB_X.out.ext g1)
  replace HB_Y := hid (HB_Y.out.ext g1)
  replace kx := kx.ext g1
  replace ky := ky.ext g1
  have gA := Ext.alloc w1 (.cells #[.int .i64 (E : Nat), .int .i64 (P : Nat), .int .i64 0, .int .i64 (bias E : Nat)] 63)
  go_upto_region 4 with (fail)
  clear gA
  obtain ⟨W2, hW2, g2, hy2, B_M⟩ := pro1 w1 #[.int .i64 (E : Nat), .int .i64 (P : Nat), .int .i64 0, .int .i64 (bias E : Nat)] 63
  rw [← hW2]
  clear hW2
  have hz_W2 := g2.size
  replace HE := hid (HE.out.trans g2)
  replace HB_F := hid (HB_F.out.ext g2)
  replace HB_X := hid (HB_X.out.ext g2)
  replace HB_Y := hid (HB_Y.out.ext g2)
  replace kx := kx.ext g2
  replace ky := ky.ext g2
  have HB_M := hid B_M
  clear B_M
  have HS : Hid (∀ w', Ext W2 w' → w'.cell? ⟨w1.heap.size, 0, none⟩ = some (.int .i64 (E : Nat)) ∧ w'.cell? ⟨w1.heap.size, 1, none⟩ = some (.int .i64 (P : Nat)) ∧ w'.cell? ⟨w1.heap.size, 2, none⟩ = some (.int .i64 0) ∧ w'.cell? ⟨w1.heap.size, 3, none⟩ = some (.int .i64 (bias E : Nat)) ∧ w'.cell? ⟨w.heap.size + 1, 0, none⟩ = some (.bool ng) ∧ w'.cell? ⟨w.heap.size + 1, 1, none⟩ = some (.slice a n c) ∧ w'.cell? ⟨w.heap.size + 1, 2, none⟩ = some (.slice a' n' c') ∧ w'.cell? ⟨w.heap.size + 1 + 1, 0, none⟩ = some (.bool mg) ∧ w'.cell? ⟨w.heap.size + 1 + 1, 1, none⟩ = some (.slice d k e) ∧ w'.cell? ⟨w.heap.size + 1 + 1, 2, none⟩ = some (.slice d' k' e')) := hid fun w' h => ⟨(HB_M.out.ext h).cell 0, (HB_M.out.ext h).cell 1, (HB_M.out.ext h).cell 2, (HB_M.out.ext h).cell 3, (HB_X.out.ext h).cell 0, (HB_X.out.ext h).cell 1, (HB_X.out.ext h).cell 2, (HB_Y.out.ext h).cell 0, (HB_Y.out.ext h).cell 1, (HB_Y.out.ext h).cell 2⟩
  have hlt_M : w1.heap.size < W2.heap.size := cell_lt HB_M.out
  have hlt_X : w.heap.size + 1 < W2.heap.size := cell_lt HB_X.out
  have hlt_Y : w.heap.size + 1 + 1 < W2.heap.size := cell_lt HB_Y.out
  have HSN : Hid (∀ (g : Nat) (v0 v1 v2 : Value) (w' : World), W2.heap.size ≤ g → Ext W2 w' → (((w'.setCell ⟨g, 0, none⟩ v0).setCell ⟨g, 1, none⟩ v1).setCell ⟨g, 2, none⟩ v2).cell? ⟨w1.heap.size, 0, none⟩ = some (.int .i64 (E : Nat)) ∧ (((w'.setCell ⟨g, 0, none⟩ v0).setCell ⟨g, 1, none⟩ v1).setCell ⟨g, 2, none⟩ v2).cell? ⟨w1.heap.size, 1, none⟩ = some (.int .i64 (P : Nat)) ∧ (((w'.setCell ⟨g, 0, none⟩ v0).setCell ⟨g, 1, none⟩ v1).setCell ⟨g, 2, none⟩ v2).cell? ⟨w1.heap.size, 2, none⟩ = some (.int .i64 0) ∧ (((w'.setCell ⟨g, 0, none⟩ v0).setCell ⟨g, 1, none⟩ v1).setCell ⟨g, 2, none⟩ v2).cell? ⟨w1.heap.size, 3, none⟩ = some (.int .i64 (bias E : Nat)) ∧ (((w'.setCell ⟨g, 0, none⟩ v0).setCell ⟨g, 1, none⟩ v1).setCell ⟨g, 2, none⟩ v2).cell? ⟨w.heap.size + 1, 0, none⟩ = some (.bool ng) ∧ (((w'.setCell ⟨g, 0, none⟩ v0).setCell ⟨g, 1, none⟩ v1).setCell ⟨g, 2, none⟩ v2).cell? ⟨w.heap.size + 1, 1, none⟩ = some (.slice a n c) ∧ (((w'.setCell ⟨g, 0, none⟩ v0).setCell ⟨g, 1, none⟩ v1).setCell ⟨g, 2, none⟩ v2).cell? ⟨w.heap.size + 1, 2, none⟩ = some (.slice a' n' c') ∧ (((w'.setCell ⟨g, 0, none⟩ v0).setCell ⟨g, 1, none⟩ v1).setCell ⟨g, 2, none⟩ v2).cell? ⟨w.heap.size + 1 + 1, 0, none⟩ = some (.bool mg) ∧ (((w'.setCell ⟨g, 0, none⟩ v0).setCell ⟨g, 1, none⟩ v1).setCell ⟨g, 2, none⟩ v2).cell? ⟨w.heap.size + 1 + 1, 1, none⟩ = some (.slice d k e) ∧ (((w'.setCell ⟨g, 0, none⟩ v0).setCell ⟨g, 1, none⟩ v1).setCell ⟨g, 2, none⟩ v2).cell? ⟨w.heap.size + 1 + 1, 2, none⟩ = some (.slice d' k' e')) := hid fun g v0 v1 v2 w' hg h => ⟨(cell_other (show w1.heap.size ≠ g by omega) (cell_other (show w1.heap.size ≠ g by omega) (cell_other (show w1.heap.size ≠ g by omega) ((HB_M.out.ext h).cell 0)))), (cell_other (show w1.heap.size ≠ g by omega) (cell_other (show w1.heap.size ≠ g by omega) (cell_other (show w1.heap.size ≠ g by omega) ((HB_M.out.ext h).cell 1)))), (cell_other (show w1.heap.size ≠ g by omega) (cell_other (show w1.heap.size ≠ g by omega) (cell_other (show w1.heap.size ≠ g by omega) ((HB_M.out.ext h).cell 2)))), (cell_other (show w1.heap.size ≠ g by omega) (cell_other (show w1.heap.size ≠ g by omega) (cell_other (show w1.heap.size ≠ g by omega) ((HB_M.out.ext h).cell 3)))), (cell_other (show w.heap.size + 1 ≠ g by omega) (cell_other (show w.heap.size + 1 ≠ g by omega) (cell_other (show w.heap.size + 1 ≠ g by omega) ((HB_X.out.ext h).cell 0)))), (cell_other (show w.heap.size + 1 ≠ g by omega) (cell_other (show w.heap.size + 1 ≠ g by omega) (cell_other (show w.heap.size + 1 ≠ g by omega) ((HB_X.out.ext h).cell 1)))), (cell_other (show w.heap.size + 1 ≠ g by omega) (cell_other (show w.heap.size + 1 ≠ g by omega) (cell_other (show w.heap.size + 1 ≠ g by omega) ((HB_X.out.ext h).cell 2)))), (cell_other (show w.heap.size + 1 + 1 ≠ g by omega) (cell_other (show w.heap.size + 1 + 1 ≠ g by omega) (cell_other (show w.heap.size + 1 + 1 ≠ g by omega) ((HB_Y.out.ext h).cell 0)))), (cell_other (show w.heap.size + 1 + 1 ≠ g by omega) (cell_other (show w.heap.size + 1 + 1 ≠ g by omega) (cell_other (show w.heap.size + 1 + 1 ≠ g by omega) ((HB_Y.out.ext h).cell 1)))), (cell_other (show w.heap.size + 1 + 1 ≠ g by omega) (cell_other (show w.heap.size + 1 + 1 ≠ g by omega) (cell_other (show w.heap.size + 1 + 1 ≠ g by omega) ((HB_Y.out.ext h).cell 2))))⟩
  clear hlt_M hlt_X hlt_Y
  have hb0 : Ext W2 W2.drew := Below.drew (Below.refl _ W2)
  have HNEW := hid newFacts
  go_cut [10] (fun sv wx => ∃ g : Nat, sv = .pointer (some ⟨g, 0, none⟩) ∧ Hid (Ext W2 wx) ∧ W2.heap.size ≤ g ∧ NumBox wx g (((z : Int) : Rat)))
  case first =>
    go_region_held3 (fun w' => w'.cell? ⟨w1.heap.size, 0, none⟩ = some (.int .i64 (E : Nat)) ∧ w'.cell? ⟨w1.heap.size, 1, none⟩ = some (.int .i64 (P : Nat)) ∧ w'.cell? ⟨w1.heap.size, 2, none⟩ = some (.int .i64 0) ∧ w'.cell? ⟨w1.heap.size, 3, none⟩ = some (.int .i64 (bias E : Nat)) ∧ w'.cell? ⟨w.heap.size + 1, 0, none⟩ = some (.bool ng) ∧ w'.cell? ⟨w.heap.size + 1, 1, none⟩ = some (.slice a n c) ∧ w'.cell? ⟨w.heap.size + 1, 2, none⟩ = some (.slice a' n' c') ∧ w'.cell? ⟨w.heap.size + 1 + 1, 0, none⟩ = some (.bool mg) ∧ w'.cell? ⟨w.heap.size + 1 + 1, 1, none⟩ = some (.slice d k e) ∧ w'.cell? ⟨w.heap.size + 1 + 1, 2, none⟩ = some (.slice d' k' e'))
        (first | exact HS.out _ (by assumption) | exact HS.out _ (Ext.trans (by assumption) (Ext.alloc _ _)) | exact HSN.out _ _ _ _ _ (by first | omega | (simp only [World.size_drew]; omega)) (by assumption) | exact HSN.out _ _ _ _ _ (by first | omega | (simp only [World.size_drew]; omega)) (Ext.trans (by assumption) (Ext.alloc _ _)))
      (first
          | (go_at_call 47; (with_reducible refine (CB.out _ _ (by first | exact ky.ext hb0 | exact (ky.ext hb0).ext (Ext.alloc _ _)) (HT.out.ext (HE.out.trans (by first | exact hb0 | exact (hb0.trans (Ext.alloc _ _)))))).mono ?_); rintro e x9_1 ⟨v1, rfl, m1, g1⟩; have hb1 : Ext W2 x9_1 := (by first | exact hb0.trans g1 | exact (hb0.trans (Ext.alloc _ _)).trans g1); have hs1 := hb1.size)
          | (go_at_call 47; (with_reducible refine (CA.out _ _ (by first | exact kx.ext hb1 | exact (kx.ext hb1).ext (Ext.alloc _ _)) (HT.out.ext (HE.out.trans (by first | exact hb1 | exact (hb1.trans (Ext.alloc _ _)))))).mono ?_); rintro e x9_2 ⟨v2, rfl, m2, g2⟩; have hb2 : Ext W2 x9_2 := (by first | exact hb1.trans g2 | exact (hb1.trans (Ext.alloc _ _)).trans g2); have hs2 := hb2.size)
          | (go_at_call 48; (with_reducible refine (CSU.out _ _ _ (by first | exact m1.ext g2 | exact (m1.ext g2).ext (Ext.alloc _ _) | exact (m1.ext (Ext.alloc _ _)).ext g2) (by first | exact m2 | exact (m2).ext (Ext.alloc _ _))).mono ?_); rintro e x9_3 ⟨v3, rfl, m3, g3⟩; have hb3 : Ext W2 x9_3 := (by first | exact hb2.trans g3 | exact (hb2.trans (Ext.alloc _ _)).trans g3); have hs3 := hb3.size)
          | (go_at_call 16; (with_reducible refine (CI1.out _).mono ?_); rintro e x9_4 ⟨v4, rfl, m4, g4⟩; have hb4 : Ext W2 x9_4 := (by first | exact hb3.trans g4 | exact (hb3.trans (Ext.alloc _ _)).trans g4); have hs4 := hb4.size)
          | (go_at_call 49; (with_reducible refine (CAD.out _ _ _ (by first | exact m3.ext g4 | exact (m3.ext g4).ext (Ext.alloc _ _) | exact (m3.ext (Ext.alloc _ _)).ext g4) (by first | exact m4 | exact (m4).ext (Ext.alloc _ _))).mono ?_); rintro e x9_5 ⟨v5, rfl, m5, g5⟩; have hb5 : Ext W2 x9_5 := (by first | exact hb4.trans g5 | exact (hb4.trans (Ext.alloc _ _)).trans g5); have hs5 := hb5.size; obtain ⟨ng5, a5, n5, c5, a5', n5', c5', rfl⟩ := m5.shape; (first | (have yy := HNEW.out _ _ g5; (try simp only [World.size_drew] at yy); obtain ⟨y0, y1, y2, y3, y4, y5⟩ := yy) | (have yy := HNEW.out _ _ (g4.trans g5); (try simp only [World.size_drew] at yy); obtain ⟨y0, y1, y2, y3, y4, y5⟩ := yy) | (have yy := HNEW.out _ _ ((g3.trans g4).trans g5); (try simp only [World.size_drew] at yy); obtain ⟨y0, y1, y2, y3, y4, y5⟩ := yy) | (have yy := HNEW.out _ _ (((g2.trans g3).trans g4).trans g5); (try simp only [World.size_drew] at yy); obtain ⟨y0, y1, y2, y3, y4, y5⟩ := yy) | (have yy := HNEW.out _ _ (((((Ext.undrew g1).trans g2).trans g3).trans g4).trans g5); (try simp only [World.size_drew] at yy); obtain ⟨y0, y1, y2, y3, y4, y5⟩ := yy) | (obtain ⟨y0, y1, y2, y3, y4, y5⟩ := HNEW.out x9_5 _ (Below.refl _ _)))))
    all_goals (go_wp2_with fail; go_meet; first | exact ⟨_, rfl, newNum0 hb5 m5⟩ | exact ⟨_, rfl, newNum hb5 (by first | omega | (simp only [World.size_drew]; omega)) ((Box.new _ _ _).ext g5) m5⟩ | exact ⟨_, rfl, newNum hb5 (by first | omega | (simp only [World.size_drew]; omega)) (((Box.new _ _ _).ext g4).ext g5) m5⟩ | exact ⟨_, rfl, newNum hb5 (by first | omega | (simp only [World.size_drew]; omega)) ((((Box.new _ _ _).ext g3).ext g4).ext g5) m5⟩ | exact ⟨_, rfl, newNum hb5 (by first | omega | (simp only [World.size_drew]; omega)) (((((Box.new _ _ _).ext g2).ext g3).ext g4).ext g5) m5⟩ | exact ⟨_, rfl, newNum hb5 (by first | omega | (simp only [World.size_drew]; omega)) ((((((Box.new _ _ _).ext (Ext.undrew g1)).ext g2).ext g3).ext g4).ext g5) m5⟩)
  case rest =>
    obtain ⟨gN, rfl, gx3, hg3, ng3, a3, n3, c3, a3', n3', c3', B3, kv3⟩ := hcut
    have hz_wc := gx3.out.size
    replace HE := hid (HE.out.trans gx3.out)
    replace HB_F := hid (HB_F.out.ext gx3.out)
    replace HB_X := hid (HB_X.out.ext gx3.out)
    replace HB_Y := hid (HB_Y.out.ext gx3.out)
    replace HB_M := hid (HB_M.out.ext gx3.out)
    replace kx := kx.ext gx3.out
    replace ky := ky.ext gx3.out
    have HB_N := hid B3
    clear B3 HS HSN HNEW
    go_upto_region 5 with (fail)
    have HS : Hid (∀ w', Ext wc w' → w'.cell? ⟨gN, 0, none⟩ = some (.bool ng3) ∧ w'.cell? ⟨gN, 1, none⟩ = some (.slice a3 n3 c3) ∧ w'.cell? ⟨gN, 2, none⟩ = some (.slice a3' n3' c3')) := hid fun w' h => ⟨(HB_N.out.ext h).cell 0, (HB_N.out.ext h).cell 1, (HB_N.out.ext h).cell 2⟩
    have hb0 : Ext wc wc.drew := Below.drew (Below.refl _ wc)
    refine wp_region_held_drew (S := fun w' => w'.cell? ⟨gN, 0, none⟩ = some (.bool ng3) ∧ w'.cell? ⟨gN, 1, none⟩ = some (.slice a3 n3 c3) ∧ w'.cell? ⟨gN, 2, none⟩ = some (.slice a3' n3' c3')) (by kernel_rfl) (HS.out _ hb0) (fun hHeld => ?_)
    refine wpAnyH_take (i := 0) (oi := { dst := some 30, op := Op.load 32 (Operand.tmp 10), type := 32, pos := "floats.go:459", after := #[], guard := none }) (v := ?_) rfl (by kernel_rfl) (by kernel_rfl) (by kernel_rfl) (fun _ _ _ h => h) (Or.inl ⟨by rfl, ?_⟩) (by assumption) ?_
    rotate_left
    · intro w' hSw
      (try dsimp only at hSw)
      go_simp <;> with_reducible rfl
    try simp only [Act.put, List.setIfInBounds_toArray, List.set_cons_zero, List.set_cons_succ]
    refine wpAnyH_ready (rs := [1]) (by kernel_rfl) (by simp) ?_
    refine AllReadyH.cons (o := { dst := some 31, op := Op.call { callee := Callee.value (Operand.func 25), args := #[Operand.const (Value.int IntKind.i64 62)], argTypes := #[3] }, type := 32, pos := "floats.go:459", after := #[], guard := none }) rfl (fun K hK => ?_) AllReadyH.nil
    go_simp
    refine (CT.out _).mono ?_
    rintro e x10_1 ⟨v6, rfl, k6, g1⟩
    have hb1 : Ext wc x10_1 := hb0.trans g1
    try dsimp only
    refine hK.out _ _ (HS.out _ hb1) ?_
    clear hHeld
    intro hHeld
    clear hK K
    try simp only [Act.put, List.setIfInBounds_toArray, List.set_cons_zero, List.set_cons_succ]
    refine wpAnyH_ready (rs := [2]) (by kernel_rfl) (by simp) ?_
    refine AllReadyH.cons (o := { dst := some 32, op := Op.call { callee := Callee.value (Operand.func 13), args := #[Operand.tmp 30, Operand.tmp 31], argTypes := #[32, 32] }, type := 3, pos := "floats.go:459", after := #[{ on := 0, ground := Ground.data }, { on := 1, ground := Ground.data }, { on := 1, ground := Ground.chain }], guard := none }) rfl (fun K hK => ?_) AllReadyH.nil
    go_simp
    refine (CCM.out _ _ _ (kv3.ext hb1) k6).mono ?_
    rintro e x10_2 ⟨rfl, g2⟩
    have hb2 : Ext wc x10_2 := hb1.trans g2
    try dsimp only
    refine hK.out _ _ (HS.out _ hb2) ?_
    clear hHeld
    intro hHeld
    clear hK K
    try simp only [Act.put, List.setIfInBounds_toArray, List.set_cons_zero, List.set_cons_succ]
    refine wpAnyH_take (i := 3) (oi := { dst := some 33, op := Op.binOp BinOp.gtr 3 (Operand.tmp 32) (Operand.const (Value.int IntKind.i64 0)) 3, type := 4, pos := "floats.go:459", after := #[{ on := 2, ground := Ground.data }], guard := none }) (v := ?_) rfl (by kernel_rfl) (by kernel_rfl) (by kernel_rfl) (fun _ _ _ h => h) (Or.inl ⟨by rfl, ?_⟩) (by assumption) ?_
    rotate_left
    · intro w' hSw
      (try dsimp only at hSw)
      go_simp <;> with_reducible rfl
    try simp only [Act.put, List.setIfInBounds_toArray, List.set_cons_zero, List.set_cons_succ]
    refine wpAnyH_done (by kernel_rfl) ?_ _
    clear HS hHeld
    have hz_x10_2 := hb2.size
    replace HE := hid (HE.out.trans hb2)
    replace HB_F := hid (HB_F.out.ext hb2)
    replace HB_X := hid (HB_X.out.ext hb2)
    replace HB_Y := hid (HB_Y.out.ext hb2)
    replace HB_M := hid (HB_M.out.ext hb2)
    replace HB_N := hid (HB_N.out.ext hb2)
    replace kx := kx.ext hb2
    replace ky := ky.ext hb2
    replace kv3 := kv3.ext hb2
    obtain ⟨c_11, c_12⟩ := HB_F.out.c2
    obtain ⟨c_13, c_14, c_15⟩ := HB_X.out.c3
    obtain ⟨c_16, c_17, c_18⟩ := HB_Y.out.c3
    obtain ⟨c_19, c_20, c_21, c_22⟩ := HB_M.out.c4
    obtain ⟨c_23, c_24, c_25⟩ := HB_N.out.c3
    go_wp2_with fail
    clear c_11 c_12 c_13 c_14 c_15 c_16 c_17 c_18 c_19 c_20 c_21 c_22 c_23 c_24 c_25
    refine bodyPost_ret (v := .tuple #[.int .i64 0, .int .i64 3]) (by simp [results, Tryz.results20, go_sem]) rfl ⟨rfl, HE.out⟩
set_option maxRecDepth 100000 in
set_option maxHeartbeats 4000000 in
theorem Count_short (E P : Nat) (x y : Value) (qx qy : Rat) (z : Int) (w : World) (hF : Fmt E P) (hx : NumV w x qx) (hy : NumV w y qy) (zx zy : Int) (hz : z = zy - zx + 1) (bx : zx.natAbs < 2 ^ 124) (bY : zy.natAbs < 2 ^ 124) (CA : Hid (∀ v w, NumV w v qx → Tabs w → Calls Tryz.prog 47 #[.agg #[.int .i64 (E : Nat), .int .i64 (P : Nat), .int .i64 0, .int .i64 (bias E : Nat)], v, .int .i64 3] w fun e w' => ∃ v, e = .returned v ∧ NumV w' v ((zx : Int) : Rat) ∧ Ext w w')) (CB : Hid (∀ v w, NumV w v qy → Tabs w → Calls Tryz.prog 47 #[.agg #[.int .i64 (E : Nat), .int .i64 (P : Nat), .int .i64 0, .int .i64 (bias E : Nat)], v, .int .i64 4] w fun e w' => ∃ v, e = .returned v ∧ NumV w' v ((zy : Int) : Rat) ∧ Ext w w')) (hT : Tabs w) (hb : z ≤ 4611686018427387904) :
   Calls Tryz.prog 20 #[.agg #[.int .i64 (E : Nat), .int .i64 (P : Nat)], x, y] w fun e w' => e = .returned (.tuple #[.int .i64 (max z 0), .int .i64 0]) ∧ Ext w w' := by
  obtain ⟨ng, a, n, c, a', n', c', rfl⟩ := hx.shape
  obtain ⟨mg, d, k, e, d', k', e', rfl⟩ := hy.shape
  have CW := hid (fun w => with_nil E P w hF)
  have ez : ((zy : Int) : Rat) - ((zx : Int) : Rat) + ((1 : Int) : Rat) = ((z : Int) : Rat) := by rw [hz, Rat.intCast_add, Rat.intCast_sub]
  have sx : SmQ 124 ((zx : Int) : Rat) := SmQ.int (by decide) bx
  have sy : SmQ 124 ((zy : Int) : Rat) := SmQ.int (by decide) bY
  have s1 : SmQ 124 ((1 : Int) : Rat) := SmQ.int (by decide) (by decide)
  have sd : SmQ 249 (((zy : Int) : Rat) - ((zx : Int) : Rat)) := sy.sub sx
  have sz : SmQ 374 ((z : Int) : Rat) := by rw [← ez]; exact sd.add s1
  have CSU : Hid (∀ u v w, NumV w u ((zy : Int) : Rat) → NumV w v ((zx : Int) : Rat) → _) := hid fun u v w h k => Sub_c u v _ _ 124 w h k sy sx (by decide)
  have CI1 : Hid (∀ w, _) := hid fun w => Int_c 1 w (by decide) (by decide)
  have CAD : Hid (∀ u v w, NumV w u (((zy : Int) : Rat) - ((zx : Int) : Rat)) → NumV w v ((1 : Int) : Rat) → Calls Tryz.prog 49 #[u, v] w fun e w' => ∃ t, e = .returned t ∧ NumV w' t ((z : Int) : Rat) ∧ Ext w w') := hid fun u v w h k => by
    have := Add_c u v _ _ 249 w h k sd (s1.mono (by decide)) (by decide)
    rwa [ez] at this
  have e62 : (2 : Rat) ^ (62 : Int) = ((4611686018427387904 : Int) : Rat) := by decide +kernel
  have CT : Hid (∀ w, Calls Tryz.prog 25 #[.int .i64 62] w fun e w' => ∃ v, e = .returned v ∧ NumV w' v ((4611686018427387904 : Int) : Rat) ∧ Ext w w') := hid fun w => by
    have := two_c 62 w (by decide) (by decide)
    rwa [e62] at this
  obtain ⟨cc, hcc⟩ : ∃ s, s = cmpQ ((z : Int) : Rat) ((4611686018427387904 : Int) : Rat) := ⟨_, rfl⟩
  have CCM : Hid (∀ u v w, NumV w u ((z : Int) : Rat) → NumV w v ((4611686018427387904 : Int) : Rat) → Calls Tryz.prog 13 #[u, v] w fun e w' => e = .returned (.int .i64 cc) ∧ Ext w w') := hid fun u v w h k => by
    rw [hcc]; exact Cmp_c u v _ _ 374 w h k sz ((SmQ.int (K := 124) (by decide) (by decide)).mono (by decide)) (by decide)
  have hcv : 0 < cc ↔ 4611686018427387904 < z := by rw [hcc, cmpQ_gt, Rat.intCast_lt_intCast]
  have HX := hid hx; have HY := hid hy; have HT := hid hT
  have hd : decide (0 < cc) = false := decide_eq_false (fun h => by have := hcv.1 h; omega)
  have CI0 : Hid (∀ w, _) := hid fun w => Int_c 0 w (by decide) (by decide)
  have CMX : Hid (∀ u v w, NumV w u ((z : Int) : Rat) → NumV w v ((0 : Int) : Rat) → Calls Tryz.prog 50 #[u, v] w fun e w' => ∃ t, e = .returned t ∧ NumV w' t ((max z 0 : Int) : Rat) ∧ Ext w w') := hid fun u v w h k => by
    have := Max_c u v _ _ 374 w h k sz ((SmQ.int (K := 124) (by decide) (by decide)).mono (by decide)) (by decide)
    rwa [max0] at this
  obtain ⟨zm, hzm⟩ : ∃ s, s = max z 0 := ⟨_, rfl⟩
  rw [← hzm] at CMX ⊢
  have C64 : Hid (∀ u w, NumV w u ((zm : Int) : Rat) → Calls Tryz.prog 51 #[u] w fun e w' => e = .returned (.tuple #[.int .i64 zm, .int .i64 0]) ∧ Ext w w') := hid fun u w h => Int64_c u _ w h rfl (by show 0 ≤ zm; omega) (by show zm < _; omega)
  clear hzm
  clear hF hx hy hz bx bY sx sy s1 sd sz ez e62 hcc hcv hb hT
  obtain ⟨W0, hW0, g0, hz0, B_F, B_X, B_Y⟩ := pro3s w #[.int .i64 (E : Nat), .int .i64 (P : Nat)] #[.bool ng, .slice a n c, .slice a' n' c'] #[.bool mg, .slice d k e, .slice d' k' e'] 23 32 32
  have HE := hid g0
  have HB_F := hid B_F
  have HB_X := hid B_X
  have HB_Y := hid B_Y
  clear g0 B_F B_X B_Y 
  go_enter Tryz.func20, Tryz.ntmps20
  go_upto_region 1 with (fail)
  rw [← hW0]
  clear hW0
  have kx := HX.out.ext HE.out
  have ky := HY.out.ext HE.out
  obtain ⟨c_1, c_2⟩ := HB_F.out.c2
  obtain ⟨c_3, c_4, c_5⟩ := HB_X.out.c3
  obtain ⟨c_6, c_7, c_8⟩ := HB_Y.out.c3
  go_wp2_with fail
  clear c_1 c_2 c_3 c_4 c_5 c_6 c_7 c_8
  refine (CW.out _).mono ?_
  rintro e w1 ⟨rfl, g1⟩
  have hz_w1 := g1.size
  replace HE := hid (HE.out.trans g1)
  replace HB_F := hid (HB_F.out.ext g1)
  replace HB_X := hid (HB_X.out.ext g1)
  replace HB_Y := hid (HB_Y.out.ext g1)
  replace kx := kx.ext g1
  replace ky := ky.ext g1
  have gA := Ext.alloc w1 (.cells #[.int .i64 (E : Nat), .int .i64 (P : Nat), .int .i64 0, .int .i64 (bias E : Nat)] 63)
  go_upto_region 4 with (fail)
  clear gA
  obtain ⟨W2, hW2, g2, hy2, B_M⟩ := pro1 w1 #[.int .i64 (E : Nat), .int .i64 (P : Nat), .int .i64 0, .int .i64 (bias E : Nat)] 63
  rw [← hW2]
  clear hW2
  have hz_W2 := g2.size
  replace HE := hid (HE.out.trans g2)
  replace HB_F := hid (HB_F.out.ext g2)
  replace HB_X := hid (HB_X.out.ext g2)
  replace HB_Y := hid (HB_Y.out.ext g2)
  replace kx := kx.ext g2
  replace ky := ky.ext g2
  have HB_M := hid B_M
  clear B_M
  have HS : Hid (∀ w', Ext W2 w' → w'.cell? ⟨w1.heap.size, 0, none⟩ = some (.int .i64 (E : Nat)) ∧ w'.cell? ⟨w1.heap.size, 1, none⟩ = some (.int .i64 (P : Nat)) ∧ w'.cell? ⟨w1.heap.size, 2, none⟩ = some (.int .i64 0) ∧ w'.cell? ⟨w1.heap.size, 3, none⟩ = some (.int .i64 (bias E : Nat)) ∧ w'.cell? ⟨w.heap.size + 1, 0, none⟩ = some (.bool ng) ∧ w'.cell? ⟨w.heap.size + 1, 1, none⟩ = some (.slice a n c) ∧ w'.cell? ⟨w.heap.size + 1, 2, none⟩ = some (.slice a' n' c') ∧ w'.cell? ⟨w.heap.size + 1 + 1, 0, none⟩ = some (.bool mg) ∧ w'.cell? ⟨w.heap.size + 1 + 1, 1, none⟩ = some (.slice d k e) ∧ w'.cell? ⟨w.heap.size + 1 + 1, 2, none⟩ = some (.slice d' k' e')) := hid fun w' h => ⟨(HB_M.out.ext h).cell 0, (HB_M.out.ext h).cell 1, (HB_M.out.ext h).cell 2, (HB_M.out.ext h).cell 3, (HB_X.out.ext h).cell 0, (HB_X.out.ext h).cell 1, (HB_X.out.ext h).cell 2, (HB_Y.out.ext h).cell 0, (HB_Y.out.ext h).cell 1, (HB_Y.out.ext h).cell 2⟩
  have hlt_M : w1.heap.size < W2.heap.size := cell_lt HB_M.out
  have hlt_X : w.heap.size + 1 < W2.heap.size := cell_lt HB_X.out
  have hlt_Y : w.heap.size + 1 + 1 < W2.heap.size := cell_lt HB_Y.out
  have HSN : Hid (∀ (g : Nat) (v0 v1 v2 : Value) (w' : World), W2.heap.size ≤ g → Ext W2 w' → (((w'.setCell ⟨g, 0, none⟩ v0).setCell ⟨g, 1, none⟩ v1).setCell ⟨g, 2, none⟩ v2).cell? ⟨w1.heap.size, 0, none⟩ = some (.int .i64 (E : Nat)) ∧ (((w'.setCell ⟨g, 0, none⟩ v0).setCell ⟨g, 1, none⟩ v1).setCell ⟨g, 2, none⟩ v2).cell? ⟨w1.heap.size, 1, none⟩ = some (.int .i64 (P : Nat)) ∧ (((w'.setCell ⟨g, 0, none⟩ v0).setCell ⟨g, 1, none⟩ v1).setCell ⟨g, 2, none⟩ v2).cell? ⟨w1.heap.size, 2, none⟩ = some (.int .i64 0) ∧ (((w'.setCell ⟨g, 0, none⟩ v0).setCell ⟨g, 1, none⟩ v1).setCell ⟨g, 2, none⟩ v2).cell? ⟨w1.heap.size, 3, none⟩ = some (.int .i64 (bias E : Nat)) ∧ (((w'.setCell ⟨g, 0, none⟩ v0).setCell ⟨g, 1, none⟩ v1).setCell ⟨g, 2, none⟩ v2).cell? ⟨w.heap.size + 1, 0, none⟩ = some (.bool ng) ∧ (((w'.setCell ⟨g, 0, none⟩ v0).setCell ⟨g, 1, none⟩ v1).setCell ⟨g, 2, none⟩ v2).cell? ⟨w.heap.size + 1, 1, none⟩ = some (.slice a n c) ∧ (((w'.setCell ⟨g, 0, none⟩ v0).setCell ⟨g, 1, none⟩ v1).setCell ⟨g, 2, none⟩ v2).cell? ⟨w.heap.size + 1, 2, none⟩ = some (.slice a' n' c') ∧ (((w'.setCell ⟨g, 0, none⟩ v0).setCell ⟨g, 1, none⟩ v1).setCell ⟨g, 2, none⟩ v2).cell? ⟨w.heap.size + 1 + 1, 0, none⟩ = some (.bool mg) ∧ (((w'.setCell ⟨g, 0, none⟩ v0).setCell ⟨g, 1, none⟩ v1).setCell ⟨g, 2, none⟩ v2).cell? ⟨w.heap.size + 1 + 1, 1, none⟩ = some (.slice d k e) ∧ (((w'.setCell ⟨g, 0, none⟩ v0).setCell ⟨g, 1, none⟩ v1).setCell ⟨g, 2, none⟩ v2).cell? ⟨w.heap.size + 1 + 1, 2, none⟩ = some (.slice d' k' e')) := hid fun g v0 v1 v2 w' hg h => ⟨(cell_other (show w1.heap.size ≠ g by omega) (cell_other (show w1.heap.size ≠ g by omega) (cell_other (show w1.heap.size ≠ g by omega) ((HB_M.out.ext h).cell 0)))), (cell_other (show w1.heap.size ≠ g by omega) (cell_other (show w1.heap.size ≠ g by omega) (cell_other (show w1.heap.size ≠ g by omega) ((HB_M.out.ext h).cell 1)))), (cell_other (show w1.heap.size ≠ g by omega) (cell_other (show w1.heap.size ≠ g by omega) (cell_other (show w1.heap.size ≠ g by omega) ((HB_M.out.ext h).cell 2)))), (cell_other (show w1.heap.size ≠ g by omega) (cell_other (show w1.heap.size ≠ g by omega) (cell_other (show w1.heap.size ≠ g by omega) ((HB_M.out.ext h).cell 3)))), (cell_other (show w.heap.size + 1 ≠ g by omega) (cell_other (show w.heap.size + 1 ≠ g by omega) (cell_other (show w.heap.size + 1 ≠ g by omega) ((HB_X.out.ext h).cell 0)))), (cell_other (show w.heap.size + 1 ≠ g by omega) (cell_other (show w.heap.size + 1 ≠ g by omega) (cell_other (show w.heap.size + 1 ≠ g by omega) ((HB_X.out.ext h).cell 1)))), (cell_other (show w.heap.size + 1 ≠ g by omega) (cell_other (show w.heap.size + 1 ≠ g by omega) (cell_other (show w.heap.size + 1 ≠ g by omega) ((HB_X.out.ext h).cell 2)))), (cell_other (show w.heap.size + 1 + 1 ≠ g by omega) (cell_other (show w.heap.size + 1 + 1 ≠ g by omega) (cell_other (show w.heap.size + 1 + 1 ≠ g by omega) ((HB_Y.out.ext h).cell 0)))), (cell_other (show w.heap.size + 1 + 1 ≠ g by omega) (cell_other (show w.heap.size + 1 + 1 ≠ g by omega) (cell_other (show w.heap.size + 1 + 1 ≠ g by omega) ((HB_Y.out.ext h).cell 1)))), (cell_other (show w.heap.size + 1 + 1 ≠ g by omega) (cell_other (show w.heap.size + 1 + 1 ≠ g by omega) (cell_other (show w.heap.size + 1 + 1 ≠ g by omega) ((HB_Y.out.ext h).cell 2))))⟩
  clear hlt_M hlt_X hlt_Y
  have hb0 : Ext W2 W2.drew := Below.drew (Below.refl _ W2)
  have HNEW := hid newFacts
  go_cut [10] (fun sv wx => ∃ g : Nat, sv = .pointer (some ⟨g, 0, none⟩) ∧ Hid (Ext W2 wx) ∧ W2.heap.size ≤ g ∧ NumBox wx g (((z : Int) : Rat)))
  case first =>
    go_region_held3 (fun w' => w'.cell? ⟨w1.heap.size, 0, none⟩ = some (.int .i64 (E : Nat)) ∧ w'.cell? ⟨w1.heap.size, 1, none⟩ = some (.int .i64 (P : Nat)) ∧ w'.cell? ⟨w1.heap.size, 2, none⟩ = some (.int .i64 0) ∧ w'.cell? ⟨w1.heap.size, 3, none⟩ = some (.int .i64 (bias E : Nat)) ∧ w'.cell? ⟨w.heap.size + 1, 0, none⟩ = some (.bool ng) ∧ w'.cell? ⟨w.heap.size + 1, 1, none⟩ = some (.slice a n c) ∧ w'.cell? ⟨w.heap.size + 1, 2, none⟩ = some (.slice a' n' c') ∧ w'.cell? ⟨w.heap.size + 1 + 1, 0, none⟩ = some (.bool mg) ∧ w'.cell? ⟨w.heap.size + 1 + 1, 1, none⟩ = some (.slice d k e) ∧ w'.cell? ⟨w.heap.size + 1 + 1, 2, none⟩ = some (.slice d' k' e'))
        (first | exact HS.out _ (by assumption) | exact HS.out _ (Ext.trans (by assumption) (Ext.alloc _ _)) | exact HSN.out _ _ _ _ _ (by first | omega | (simp only [World.size_drew]; omega)) (by assumption) | exact HSN.out _ _ _ _ _ (by first | omega | (simp only [World.size_drew]; omega)) (Ext.trans (by assumption) (Ext.alloc _ _)))
      (first
          | (go_at_call 47; (with_reducible refine (CB.out _ _ (by first | exact ky.ext hb0 | exact (ky.ext hb0).ext (Ext.alloc _ _)) (HT.out.ext (HE.out.trans (by first | exact hb0 | exact (hb0.trans (Ext.alloc _ _)))))).mono ?_); rintro e x9_1 ⟨v1, rfl, m1, g1⟩; have hb1 : Ext W2 x9_1 := (by first | exact hb0.trans g1 | exact (hb0.trans (Ext.alloc _ _)).trans g1); have hs1 := hb1.size)
          | (go_at_call 47; (with_reducible refine (CA.out _ _ (by first | exact kx.ext hb1 | exact (kx.ext hb1).ext (Ext.alloc _ _)) (HT.out.ext (HE.out.trans (by first | exact hb1 | exact (hb1.trans (Ext.alloc _ _)))))).mono ?_); rintro e x9_2 ⟨v2, rfl, m2, g2⟩; have hb2 : Ext W2 x9_2 := (by first | exact hb1.trans g2 | exact (hb1.trans (Ext.alloc _ _)).trans g2); have hs2 := hb2.size)
          | (go_at_call 48; (with_reducible refine (CSU.out _ _ _ (by first | exact m1.ext g2 | exact (m1.ext g2).ext (Ext.alloc _ _) | exact (m1.ext (Ext.alloc _ _)).ext g2) (by first | exact m2 | exact (m2).ext (Ext.alloc _ _))).mono ?_); rintro e x9_3 ⟨v3, rfl, m3, g3⟩; have hb3 : Ext W2 x9_3 := (by first | exact hb2.trans g3 | exact (hb2.trans (Ext.alloc _ _)).trans g3); have hs3 := hb3.size)
          | (go_at_call 16; (with_reducible refine (CI1.out _).mono ?_); rintro e x9_4 ⟨v4, rfl, m4, g4⟩; have hb4 : Ext W2 x9_4 := (by first | exact hb3.trans g4 | exact (hb3.trans (Ext.alloc _ _)).trans g4); have hs4 := hb4.size)
          | (go_at_call 49; (with_reducible refine (CAD.out _ _ _ (by first | exact m3.ext g4 | exact (m3.ext g4).ext (Ext.alloc _ _) | exact (m3.ext (Ext.alloc _ _)).ext g4) (by first | exact m4 | exact (m4).ext (Ext.alloc _ _))).mono ?_); rintro e x9_5 ⟨v5, rfl, m5, g5⟩; have hb5 : Ext W2 x9_5 := (by first | exact hb4.trans g5 | exact (hb4.trans (Ext.alloc _ _)).trans g5); have hs5 := hb5.size; obtain ⟨ng5, a5, n5, c5, a5', n5', c5', rfl⟩ := m5.shape; (first | (have yy := HNEW.out _ _ g5; (try simp only [World.size_drew] at yy); obtain ⟨y0, y1, y2, y3, y4, y5⟩ := yy) | (have yy := HNEW.out _ _ (g4.trans g5); (try simp only [World.size_drew] at yy); obtain ⟨y0, y1, y2, y3, y4, y5⟩ := yy) | (have yy := HNEW.out _ _ ((g3.trans g4).trans g5); (try simp only [World.size_drew] at yy); obtain ⟨y0, y1, y2, y3, y4, y5⟩ := yy) | (have yy := HNEW.out _ _ (((g2.trans g3).trans g4).trans g5); (try simp only [World.size_drew] at yy); obtain ⟨y0, y1, y2, y3, y4, y5⟩ := yy) | (have yy := HNEW.out _ _ (((((Ext.undrew g1).trans g2).trans g3).trans g4).trans g5); (try simp only [World.size_drew] at yy); obtain ⟨y0, y1, y2, y3, y4, y5⟩ := yy) | (obtain ⟨y0, y1, y2, y3, y4, y5⟩ := HNEW.out x9_5 _ (Below.refl _ _)))))
    all_goals (go_wp2_with fail; go_meet; first | exact ⟨_, rfl, newNum0 hb5 m5⟩ | exact ⟨_, rfl, newNum hb5 (by first | omega | (simp only [World.size_drew]; omega)) ((Box.new _ _ _).ext g5) m5⟩ | exact ⟨_, rfl, newNum hb5 (by first | omega | (simp only [World.size_drew]; omega)) (((Box.new _ _ _).ext g4).ext g5) m5⟩ | exact ⟨_, rfl, newNum hb5 (by first | omega | (simp only [World.size_drew]; omega)) ((((Box.new _ _ _).ext g3).ext g4).ext g5) m5⟩ | exact ⟨_, rfl, newNum hb5 (by first | omega | (simp only [World.size_drew]; omega)) (((((Box.new _ _ _).ext g2).ext g3).ext g4).ext g5) m5⟩ | exact ⟨_, rfl, newNum hb5 (by first | omega | (simp only [World.size_drew]; omega)) ((((((Box.new _ _ _).ext (Ext.undrew g1)).ext g2).ext g3).ext g4).ext g5) m5⟩)
  case rest =>
    obtain ⟨gN, rfl, gx3, hg3, ng3, a3, n3, c3, a3', n3', c3', B3, kv3⟩ := hcut
    have hz_wc := gx3.out.size
    replace HE := hid (HE.out.trans gx3.out)
    replace HB_F := hid (HB_F.out.ext gx3.out)
    replace HB_X := hid (HB_X.out.ext gx3.out)
    replace HB_Y := hid (HB_Y.out.ext gx3.out)
    replace HB_M := hid (HB_M.out.ext gx3.out)
    replace kx := kx.ext gx3.out
    replace ky := ky.ext gx3.out
    have HB_N := hid B3
    clear B3 HS HSN HNEW
    go_upto_region 5 with (fail)
    have HS : Hid (∀ w', Ext wc w' → w'.cell? ⟨gN, 0, none⟩ = some (.bool ng3) ∧ w'.cell? ⟨gN, 1, none⟩ = some (.slice a3 n3 c3) ∧ w'.cell? ⟨gN, 2, none⟩ = some (.slice a3' n3' c3')) := hid fun w' h => ⟨(HB_N.out.ext h).cell 0, (HB_N.out.ext h).cell 1, (HB_N.out.ext h).cell 2⟩
    have hb0 : Ext wc wc.drew := Below.drew (Below.refl _ wc)
    refine wp_region_held_drew (S := fun w' => w'.cell? ⟨gN, 0, none⟩ = some (.bool ng3) ∧ w'.cell? ⟨gN, 1, none⟩ = some (.slice a3 n3 c3) ∧ w'.cell? ⟨gN, 2, none⟩ = some (.slice a3' n3' c3')) (by kernel_rfl) (HS.out _ hb0) (fun hHeld => ?_)
    refine wpAnyH_take (i := 0) (oi := { dst := some 30, op := Op.load 32 (Operand.tmp 10), type := 32, pos := "floats.go:459", after := #[], guard := none }) (v := ?_) rfl (by kernel_rfl) (by kernel_rfl) (by kernel_rfl) (fun _ _ _ h => h) (Or.inl ⟨by rfl, ?_⟩) (by assumption) ?_
    rotate_left
    · intro w' hSw
      (try dsimp only at hSw)
      go_simp <;> with_reducible rfl
    try simp only [Act.put, List.setIfInBounds_toArray, List.set_cons_zero, List.set_cons_succ]
    refine wpAnyH_ready (rs := [1]) (by kernel_rfl) (by simp) ?_
    refine AllReadyH.cons (o := { dst := some 31, op := Op.call { callee := Callee.value (Operand.func 25), args := #[Operand.const (Value.int IntKind.i64 62)], argTypes := #[3] }, type := 32, pos := "floats.go:459", after := #[], guard := none }) rfl (fun K hK => ?_) AllReadyH.nil
    go_simp
    refine (CT.out _).mono ?_
    rintro e x10_1 ⟨v6, rfl, k6, g1⟩
    have hb1 : Ext wc x10_1 := hb0.trans g1
    try dsimp only
    refine hK.out _ _ (HS.out _ hb1) ?_
    clear hHeld
    intro hHeld
    clear hK K
    try simp only [Act.put, List.setIfInBounds_toArray, List.set_cons_zero, List.set_cons_succ]
    refine wpAnyH_ready (rs := [2]) (by kernel_rfl) (by simp) ?_
    refine AllReadyH.cons (o := { dst := some 32, op := Op.call { callee := Callee.value (Operand.func 13), args := #[Operand.tmp 30, Operand.tmp 31], argTypes := #[32, 32] }, type := 3, pos := "floats.go:459", after := #[{ on := 0, ground := Ground.data }, { on := 1, ground := Ground.data }, { on := 1, ground := Ground.chain }], guard := none }) rfl (fun K hK => ?_) AllReadyH.nil
    go_simp
    refine (CCM.out _ _ _ (kv3.ext hb1) k6).mono ?_
    rintro e x10_2 ⟨rfl, g2⟩
    have hb2 : Ext wc x10_2 := hb1.trans g2
    try dsimp only
    refine hK.out _ _ (HS.out _ hb2) ?_
    clear hHeld
    intro hHeld
    clear hK K
    try simp only [Act.put, List.setIfInBounds_toArray, List.set_cons_zero, List.set_cons_succ]
    refine wpAnyH_take (i := 3) (oi := { dst := some 33, op := Op.binOp BinOp.gtr 3 (Operand.tmp 32) (Operand.const (Value.int IntKind.i64 0)) 3, type := 4, pos := "floats.go:459", after := #[{ on := 2, ground := Ground.data }], guard := none }) (v := ?_) rfl (by kernel_rfl) (by kernel_rfl) (by kernel_rfl) (fun _ _ _ h => h) (Or.inl ⟨by rfl, ?_⟩) (by assumption) ?_
    rotate_left
    · intro w' hSw
      (try dsimp only at hSw)
      go_simp <;> with_reducible rfl
    try simp only [Act.put, List.setIfInBounds_toArray, List.set_cons_zero, List.set_cons_succ]
    refine wpAnyH_done (by kernel_rfl) ?_ _
    clear HS hHeld
    have hz_x10_2 := hb2.size
    replace HE := hid (HE.out.trans hb2)
    replace HB_F := hid (HB_F.out.ext hb2)
    replace HB_X := hid (HB_X.out.ext hb2)
    replace HB_Y := hid (HB_Y.out.ext hb2)
    replace HB_M := hid (HB_M.out.ext hb2)
    replace HB_N := hid (HB_N.out.ext hb2)
    replace kx := kx.ext hb2
    replace ky := ky.ext hb2
    replace kv3 := kv3.ext hb2
    go_upto_region 7 with (fail)
    have HS : Hid (∀ w', Ext x10_2 w' → w'.cell? ⟨gN, 0, none⟩ = some (.bool ng3) ∧ w'.cell? ⟨gN, 1, none⟩ = some (.slice a3 n3 c3) ∧ w'.cell? ⟨gN, 2, none⟩ = some (.slice a3' n3' c3')) := hid fun w' h => ⟨(HB_N.out.ext h).cell 0, (HB_N.out.ext h).cell 1, (HB_N.out.ext h).cell 2⟩
    have hb0 : Ext x10_2 x10_2.drew := Below.drew (Below.refl _ x10_2)
    refine wp_region_held_drew (S := fun w' => w'.cell? ⟨gN, 0, none⟩ = some (.bool ng3) ∧ w'.cell? ⟨gN, 1, none⟩ = some (.slice a3 n3 c3) ∧ w'.cell? ⟨gN, 2, none⟩ = some (.slice a3' n3' c3')) (by kernel_rfl) (HS.out _ hb0) (fun hHeld => ?_)
    refine wpAnyH_take (i := 0) (oi := { dst := some 35, op := Op.load 32 (Operand.tmp 10), type := 32, pos := "floats.go:462", after := #[], guard := none }) (v := ?_) rfl (by kernel_rfl) (by kernel_rfl) (by kernel_rfl) (fun _ _ _ h => h) (Or.inl ⟨by rfl, ?_⟩) (by assumption) ?_
    rotate_left
    · intro w' hSw
      (try dsimp only at hSw)
      go_simp <;> with_reducible rfl
    try simp only [Act.put, List.setIfInBounds_toArray, List.set_cons_zero, List.set_cons_succ]
    refine wpAnyH_ready (rs := [1]) (by kernel_rfl) (by simp) ?_
    refine AllReadyH.cons (o := { dst := some 36, op := Op.call { callee := Callee.value (Operand.func 16), args := #[Operand.const (Value.int IntKind.i64 0)], argTypes := #[2] }, type := 32, pos := "floats.go:462", after := #[], guard := none }) rfl (fun K hK => ?_) AllReadyH.nil
    go_simp
    refine (CI0.out _).mono ?_
    rintro e x11_1 ⟨v7, rfl, k7, g1⟩
    have hb1 : Ext x10_2 x11_1 := hb0.trans g1
    try dsimp only
    refine hK.out _ _ (HS.out _ hb1) ?_
    clear hHeld
    intro hHeld
    clear hK K
    try simp only [Act.put, List.setIfInBounds_toArray, List.set_cons_zero, List.set_cons_succ]
    refine wpAnyH_ready (rs := [2]) (by kernel_rfl) (by simp) ?_
    refine AllReadyH.cons (o := { dst := some 37, op := Op.call { callee := Callee.value (Operand.func 50), args := #[Operand.tmp 35, Operand.tmp 36], argTypes := #[32, 32] }, type := 32, pos := "floats.go:462", after := #[{ on := 0, ground := Ground.data }, { on := 1, ground := Ground.data }, { on := 1, ground := Ground.chain }], guard := none }) rfl (fun K hK => ?_) AllReadyH.nil
    go_simp
    refine (CMX.out _ _ _ (kv3.ext hb1) k7).mono ?_
    rintro e x11_2 ⟨v8, rfl, k8, g2⟩
    have hb2 : Ext x10_2 x11_2 := hb1.trans g2
    try dsimp only
    refine hK.out _ _ (HS.out _ hb2) ?_
    clear hHeld
    intro hHeld
    clear hK K
    try simp only [Act.put, List.setIfInBounds_toArray, List.set_cons_zero, List.set_cons_succ]
    refine wpAnyH_ready (rs := [3]) (by kernel_rfl) (by simp) ?_
    refine AllReadyH.cons (o := { dst := some 38, op := Op.call { callee := Callee.value (Operand.func 51), args := #[Operand.tmp 37], argTypes := #[32] }, type := 57, pos := "floats.go:462", after := #[{ on := 2, ground := Ground.data }, { on := 2, ground := Ground.chain }], guard := none }) rfl (fun K hK => ?_) AllReadyH.nil
    go_simp
    refine (C64.out _ _ k8).mono ?_
    rintro e x11_3 ⟨rfl, g3⟩
    have hb3 : Ext x10_2 x11_3 := hb2.trans g3
    try dsimp only
    refine hK.out _ _ (HS.out _ hb3) ?_
    clear hHeld
    intro hHeld
    clear hK K
    try simp only [Act.put, List.setIfInBounds_toArray, List.set_cons_zero, List.set_cons_succ]
    refine wpAnyH_take (i := 4) (oi := { dst := some 34, op := Op.move (Operand.tmp 38), type := 57, pos := "floats.go:462", after := #[{ on := 3, ground := Ground.data }], guard := none }) (v := ?_) rfl (by kernel_rfl) (by kernel_rfl) (by kernel_rfl) (fun _ _ _ h => h) (Or.inl ⟨by rfl, ?_⟩) (by assumption) ?_
    rotate_left
    · intro w' hSw
      (try dsimp only at hSw)
      go_simp <;> with_reducible rfl
    try simp only [Act.put, List.setIfInBounds_toArray, List.set_cons_zero, List.set_cons_succ]
    refine wpAnyH_take (i := 5) (oi := { dst := some 39, op := Op.extract (Operand.tmp 34) 0, type := 2, pos := "floats.go:462", after := #[{ on := 4, ground := Ground.data }], guard := none }) (v := ?_) rfl (by kernel_rfl) (by kernel_rfl) (by kernel_rfl) (fun _ _ _ h => h) (Or.inl ⟨by rfl, ?_⟩) (by assumption) ?_
    rotate_left
    · intro w' hSw
      (try dsimp only at hSw)
      go_simp <;> with_reducible rfl
    try simp only [Act.put, List.setIfInBounds_toArray, List.set_cons_zero, List.set_cons_succ]
    refine wpAnyH_take (i := 6) (oi := { dst := some 40, op := Op.extract (Operand.tmp 34) 1, type := 33, pos := "floats.go:462", after := #[{ on := 4, ground := Ground.data }, { on := 7, ground := Ground.gcOnly Departure.lateStores }], guard := none }) (v := ?_) rfl (by kernel_rfl) (by kernel_rfl) (by kernel_rfl) (fun _ _ _ h => h) (Or.inl ⟨by rfl, ?_⟩) (by assumption) ?_
    rotate_left
    · intro w' hSw
      (try dsimp only at hSw)
      go_simp <;> with_reducible rfl
    try simp only [Act.put, List.setIfInBounds_toArray, List.set_cons_zero, List.set_cons_succ]
    refine wpAnyH_take (i := 7) (oi := { dst := some 11, op := Op.assign (Operand.tmp 39), type := 2, pos := "floats.go:462", after := #[{ on := 5, ground := Ground.data }, { on := 3, ground := Ground.chain }, { on := 0, ground := Ground.phase }, { on := 1, ground := Ground.phase }, { on := 2, ground := Ground.phase }, { on := 3, ground := Ground.phase }, { on := 4, ground := Ground.phase }, { on := 5, ground := Ground.phase }, { on := 6, ground := Ground.textOnly Departure.lateStores }], guard := none }) (v := ?_) rfl (by kernel_rfl) (by kernel_rfl) (by kernel_rfl) (fun _ _ _ h => h) (Or.inl ⟨by rfl, ?_⟩) (by assumption) ?_
    rotate_left
    · intro w' hSw
      (try dsimp only at hSw)
      go_simp <;> with_reducible rfl
    try simp only [Act.put, List.setIfInBounds_toArray, List.set_cons_zero, List.set_cons_succ]
    refine wpAnyH_take (i := 8) (oi := { dst := some 12, op := Op.assign (Operand.tmp 40), type := 33, pos := "floats.go:462", after := #[{ on := 6, ground := Ground.data }, { on := 7, ground := Ground.chain }, { on := 0, ground := Ground.phase }, { on := 1, ground := Ground.phase }, { on := 2, ground := Ground.phase }, { on := 3, ground := Ground.phase }, { on := 4, ground := Ground.phase }, { on := 5, ground := Ground.phase }, { on := 6, ground := Ground.phase }, { on := 7, ground := Ground.phase }], guard := none }) (v := ?_) rfl (by kernel_rfl) (by kernel_rfl) (by kernel_rfl) (fun _ _ _ h => h) (Or.inl ⟨by rfl, ?_⟩) (by assumption) ?_
    rotate_left
    · intro w' hSw
      (try dsimp only at hSw)
      go_simp <;> with_reducible rfl
    try simp only [Act.put, List.setIfInBounds_toArray, List.set_cons_zero, List.set_cons_succ]
    refine wpAnyH_done (by kernel_rfl) ?_ _
    clear HS hHeld
    have hz_x11_3 := hb3.size
    replace HE := hid (HE.out.trans hb3)
    replace HB_F := hid (HB_F.out.ext hb3)
    replace HB_X := hid (HB_X.out.ext hb3)
    replace HB_Y := hid (HB_Y.out.ext hb3)
    replace HB_M := hid (HB_M.out.ext hb3)
    replace HB_N := hid (HB_N.out.ext hb3)
    replace kx := kx.ext hb3
    replace ky := ky.ext hb3
    replace kv3 := kv3.ext hb3
    obtain ⟨c_12, c_13⟩ := HB_F.out.c2
    obtain ⟨c_14, c_15, c_16⟩ := HB_X.out.c3
    obtain ⟨c_17, c_18, c_19⟩ := HB_Y.out.c3
    obtain ⟨c_20, c_21, c_22, c_23⟩ := HB_M.out.c4
    obtain ⟨c_24, c_25, c_26⟩ := HB_N.out.c3
    go_wp2_with fail
    clear c_12 c_13 c_14 c_15 c_16 c_17 c_18 c_19 c_20 c_21 c_22 c_23 c_24 c_25 c_26
    refine bodyPost_ret (v := .tuple #[.int .i64 zm, .int .i64 0]) (by simp [results, Tryz.results20, go_sem]) rfl ⟨rfl, HE.out⟩
end Go.Proofs.YtpdjenblkgaffaaGreatDoor
