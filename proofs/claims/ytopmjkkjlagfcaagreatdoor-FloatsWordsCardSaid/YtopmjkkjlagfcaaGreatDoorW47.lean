/- floats: Next, Count, Nth of words that are no NaN. -/
import Derived.Test.YtopmjkkjlagfcaaGreatDoorW44
import Derived.Test.YtopmjkkjlagfcaaGreatDoorW45
import Derived.Test.YtopmjkkjlagfcaaGreatDoorW46
import Derived.Test.YtopmjkkjlagfcaaGreatDoorW40
import Derived.Test.YtopmjkkjlagfcaaGreatDoorW38
namespace Go.Proofs.YtopmjkkjlagfcaaGreatDoor
open Go.RowKit Vn
theorem infZ_124 {E P : Nat} (hP : 1 ≤ P) (h : E + P ≤ 124) : infZ E P < 2 ^ 124 := Nat.lt_of_lt_of_le (infZ_lt hP) (Nat.pow_le_pow_right (by decide) (by omega))
theorem Next_up (E P n : Nat) (w : World) (hF : Fmt E P) (hn : n < 2 ^ (E + P)) (hk : wkind E P n ≤ 3) :
  Calls Tryz.prog 21 #[.agg #[.int .i64 (E : Nat), .int .i64 (P : Nat)], Word n, .bool true] w fun e w' => e = .returned (.tuple #[Word (nextU E P n), .int .i64 0]) ∧ Ext w w' := by
 obtain ⟨hE, hP, hb, hEP, hb1⟩ := fmt_bounds hF
 by_cases hi : n = infw E P false
 ·have e : nextU E P n = n := by unfold nextU; rw [if_pos hi]
  rw [e]
  exact Next_same_u E P n w hF hn hk hi
 ·obtain ⟨h1, h2, h3, h4⟩ := up_facts (by omega) (by omega) hn hk hi
  have hI := infZ_124 (E := E) (P := P) (by omega) hEP
  by_cases h0 : rankZ E P n + 1 = 0
  ·have e : nextU E P n = sgb E P true := by unfold nextU; rw [if_neg hi, if_pos h0]
   rw [e]
   exact Next_zero_u E P n w hF hn hk hi h0
  ·have e : nextU E P n = rankW E P (rankZ E P n + 1) := by unfold nextU; rw [if_neg hi, if_neg h0]
   rw [e]
   exact Next_step_u E P n w hF hn hk hi h0 (by omega)
theorem Next_dn (E P n : Nat) (w : World) (hF : Fmt E P) (hn : n < 2 ^ (E + P)) (hk : wkind E P n ≤ 3) :
  Calls Tryz.prog 21 #[.agg #[.int .i64 (E : Nat), .int .i64 (P : Nat)], Word n, .bool false] w fun e w' => e = .returned (.tuple #[Word (nextD E P n), .int .i64 0]) ∧ Ext w w' := by
 obtain ⟨hE, hP, hb, hEP, hb1⟩ := fmt_bounds hF
 by_cases hi : n = infw E P true
 ·have e : nextD E P n = n := by unfold nextD; rw [if_pos hi]
  rw [e]
  exact Next_same_d E P n w hF hn hk hi
 ·have e : nextD E P n = rankW E P (rankZ E P n + -1) := by unfold nextD; rw [if_neg hi]
  have hI := infZ_lt (E := E) (P := P) (by omega)
  have hm := (kind_mag (by omega)).1 hk
  have ha := rank_abs E P n
  have h2 : 2 ^ (E + P - 1) ≤ 2 ^ 123 := Nat.pow_le_pow_right (by decide) (by omega)
  rw [e]
  exact Next_step_d E P n w hF hn hk hi (by omega)
theorem rank_rnd {E P m n : Nat} {l : Int} (hE : 2 ≤ E) (hP : 1 ≤ P) (hn : n < 2 ^ (E + P)) (hk : wkind E P n ≤ 2) (hl : wvalK E P (bias E) n ≠ 0 → IsLog (absQ (wvalK E P (bias E) n)) l) :
  rankZ E P (rnd E P (bias E) m (wvalK E P (bias E) n) l).1 = rankZ E P n := by
 have hc := wkind_cases E P n
 unfold rnd
 by_cases h0 : wvalK E P (bias E) n = 0
 ·rw [if_pos h0]
  have h1 := (kind_zero hk).2 h0
  have h2 := zero_back hP hn (by omega) h1
  have h3 := sgb_rank (E := E) (P := P) (wn E P n)
  rw [h2] at h3
  rw [h3]
  have := rank_abs E P 0
  unfold mag at this
  rw [Nat.zero_mod] at this
  show rankZ E P 0 = 0
  omega
 ·rw [if_neg h0]
  have h1 : wkind E P n ≠ 1 := fun e => h0 ((kind_zero hk).1 e)
  have hv : wvalK E P (bias E) n = wval E P (bias E) n := wvalK_fin hk
  have := word_back (m := m) hE hP hn (show wkind E P n = 2 by omega) (by rw [← hv]; exact hl h0)
  rw [← hv] at this
  rw [this]
theorem Between_c (E P m n : Nat) (hF : Fmt E P) (hm : m ≤ 4) (hn : n < 2 ^ (E + P)) (hk : wkind E P n ≤ 2) : ∀ (v : Value) (w : World), NumV w v (wvalK E P (bias E) n) → Tabs w →
  Calls Tryz.prog 98 #[.agg #[.int .i64 (E : Nat), .int .i64 (P : Nat), .int .i64 0, .int .i64 (bias E : Nat)], v, .int .i64 (m : Nat)] w fun e w' => ∃ v, e = .returned v ∧ NumV w' v ((rankZ E P n : Int) : Rat) ∧ Ext w w' := fun v w h hT => by
 obtain ⟨hE, hP, hb, hEP, hb1⟩ := fmt_bounds hF
 obtain ⟨l, hl⟩ := log_there (wvalK E P (bias E) n)
 have := between_c E P m v _ l 5000 w hF hm h (wvalK_sm hF hk) (by decide) hl hT (w128_of hEP (rnd_lt hE.1 (by omega) hl))
 rwa [rank_rnd hE.1 (by omega) hn hk hl] at this
def countV (E P i j : Nat) : Int := rankZ E P j - rankZ E P i + 1
theorem countV_pos {E P i j : Nat} (hP : 1 ≤ P) (ki : wkind E P i ≤ 2) (kj : wkind E P j ≤ 2) (h : wvalK E P (bias E) i ≤ wvalK E P (bias E) j) : 0 < countV E P i j := by
 rw [wvalK_fin ki, wvalK_fin kj, rank_le_iff hP] at h
 unfold countV; omega
theorem Count_words (E P i j : Nat) (u v : Value) (w : World) (hF : Fmt E P) (hi : i < 2 ^ (E + P)) (hj : j < 2 ^ (E + P)) (ki : wkind E P i ≤ 2) (kj : wkind E P j ≤ 2) (h : wvalK E P (bias E) i ≤ wvalK E P (bias E) j)
  (hu : NumV w u (wvalK E P (bias E) i)) (hv : NumV w v (wvalK E P (bias E) j)) (hT : Tabs w) :
  Calls Tryz.prog 39 #[.agg #[.int .i64 (E : Nat), .int .i64 (P : Nat)], u, v] w fun e w' => e = .returned (.tuple #[.int .i64 (if 4611686018427387904 < countV E P i j then 0 else countV E P i j), .int .i64 (if 4611686018427387904 < countV E P i j then 3 else 0)]) ∧ Ext w w' := by
 obtain ⟨hE, hP, hb, hEP, hb1⟩ := fmt_bounds hF
 have bi := rankZ_lt (n := i) hEP
 have bj := rankZ_lt (n := j) hEP
 have hp := countV_pos (by omega) ki kj h
 by_cases hb : 4611686018427387904 < countV E P i j
 ·rw [if_pos hb, if_pos hb]
  exact Count_long E P u v _ _ (countV E P i j) w hF hu hv (rankZ E P i) (rankZ E P j) rfl bi bj (hid (Between_c E P 3 i hF (by decide) hi ki)) (hid (Between_c E P 4 j hF (by decide) hj kj)) hT hb
 ·rw [if_neg hb, if_neg hb]
  have := Count_short E P u v _ _ (countV E P i j) w hF hu hv (rankZ E P i) (rankZ E P j) rfl bi bj (hid (Between_c E P 3 i hF (by decide) hi ki)) (hid (Between_c E P 4 j hF (by decide) hj kj)) hT (by omega)
  rwa [show max (countV E P i j) 0 = countV E P i j by omega] at this
theorem Nth_words (E P i j : Nat) (u : Value) (w : World) (hF : Fmt E P) (hi : i < 2 ^ (E + P)) (hj : j < 2 ^ (E + P)) (ki : wkind E P i ≤ 2) (kj : wkind E P j ≤ 2) (h : wvalK E P (bias E) i ≤ wvalK E P (bias E) j)
  (hb : countV E P i j ≤ 4611686018427387904) (hu : NumV w u (wvalK E P (bias E) i)) (hT : Tabs w) :
  Calls Tryz.prog 40 #[.agg #[.int .i64 (E : Nat), .int .i64 (P : Nat)], u, .int .i64 (countV E P i j - 1)] w fun e w' => e = .returned (.tuple #[Word (if wvalK E P (bias E) j = 0 then 0 else j), .int .i64 0]) ∧ Ext w w' := by
 obtain ⟨hE, hP, hb2, hEP, hb1⟩ := fmt_bounds hF
 have bi := rankZ_lt (n := i) hEP
 have bj := rankZ_lt (n := j) hEP
 have hp := countV_pos (by omega) ki kj h
 have e : rankZ E P i + (countV E P i j - 1) = rankZ E P j := by unfold countV; omega
 have hI := infw_rankZ (E := E) (P := P) (by omega) (by omega) false
 rw [if_neg (by decide)] at hI
 have hm := (kind_mag (E := E) (P := P) (n := j) (by omega)).1 (by omega)
 have hm2 : mag E P j ≠ infZ E P := fun k => by have := (kind_inf (E := E) (P := P) (n := j) (by omega)).2 k; omega
 have ha := rank_abs E P j
 have hw : rankW E P (rankZ E P j) = if wvalK E P (bias E) j = 0 then 0 else j := by
  by_cases h0 : wvalK E P (bias E) j = 0
  ·rw [if_pos h0]
   have h1 := (kind_zero kj).2 h0
   have h2 := zero_back (by omega) hj (by omega) h1
   have h3 := sgb_rank (E := E) (P := P) (wn E P j)
   rw [h2] at h3
   rw [h3, rankW_zero]
  ·rw [if_neg h0]
   exact rankW_rankZ (by omega) hj (rank_zero_kind (by omega) (by omega) (fun k => h0 ((kind_zero kj).1 k)))
 have := Nth_word E P u _ (countV E P i j - 1) (rankZ E P i) w hF hu (by omega) (by omega) bi (hid (Between_c E P 3 i hF (by decide) hi ki)) hT (by rw [e, hI]; omega) (by rw [e]; omega)
 rwa [e, hw] at this
end Go.Proofs.YtopmjkkjlagfcaaGreatDoor

/- the law's numbers: the numbers of two words. -/
namespace Go.Proofs.YtopmjkkjlagfcaaGreatDoor
open Go.RowKit Vn
def TwoNums (qa : Rat) (za : Int) (qb : Rat) (zb : Int) (w : World) (e : Ending) (w' : World) : Prop :=
 ∃ u v, e = .returned (.tuple #[u, v, .bool (decide (za = 0) && decide (zb = 0))]) ∧ NumV w' u qa ∧ NumV w' v qb ∧ Ext w w'
set_option maxRecDepth 100000 in
set_option maxHeartbeats 4000000 in
theorem numbers_x (E P M : Int) (i0 i1 j0 j1 : Nat) (c0 c1 : Int) (qa : Rat) (za : Int) (qb : Rat) (zb : Int) (w : World) (hza : za = 0 ∨ za = 2 ∨ za = 4 ∨ za = 6) (_hzb : zb = 0 ∨ zb = 2 ∨ zb = 4 ∨ zb = 6) (CA : Hid (∀ w, Calls Tryz.prog 18 #[.agg #[.int .i64 E, .int .i64 P], .agg #[.int .u64 (i0 : Nat), .int .u64 (i1 : Nat)]] w (NumErr qa za w))) (CB : Hid (∀ w, Calls Tryz.prog 18 #[.agg #[.int .i64 E, .int .i64 P], .agg #[.int .u64 (j0 : Nat), .int .u64 (j1 : Nat)]] w (NumErr qb zb w))) :
  Calls Tryz.prog 38 #[.agg #[.int .i64 E, .int .i64 P, .int .i64 M, .int .u64 (i0 : Nat), .int .u64 (i1 : Nat), .int .u64 (j0 : Nat), .int .u64 (j1 : Nat), .int .u64 c0, .int .u64 c1]] w fun e w' => TwoNums qa za qb zb w e w' := by
 obtain ⟨W0, hW0, g0, hz0, B_O, B_Y, B_Z⟩ := pro3s w #[.int .i64 E, .int .i64 P, .int .i64 M, .int .u64 (i0 : Nat), .int .u64 (i1 : Nat), .int .u64 (j0 : Nat), .int .u64 (j1 : Nat), .int .u64 c0, .int .u64 c1] #[.bool false, .slice none 0 0, .slice none 0 0] #[.bool false, .slice none 0 0, .slice none 0 0] 57 40 40
 have HE := hid g0
 have HB_O := hid B_O
 have HB_Y := hid B_Y
 have HB_Z := hid B_Z
 clear g0 B_O B_Y B_Z 
 go_enter Tryz.func38, Tryz.ntmps38
 go_upto_region 1 with (fail)
 rw [← hW0]
 clear hW0
 obtain ⟨c_1, c_2, c_3, c_4, c_5, c_6, c_7, c_8, c_9⟩ := HB_O.out.c9
 obtain ⟨c_10, c_11, c_12⟩ := HB_Y.out.c3
 obtain ⟨c_13, c_14, c_15⟩ := HB_Z.out.c3
 go_wp2_with fail
 clear c_1 c_2 c_3 c_4 c_5 c_6 c_7 c_8 c_9 c_10 c_11 c_12 c_13 c_14 c_15
 refine (CA.out _).mono ?_
 rintro e w1 ⟨va, rfl, k1, g1⟩
 have hz_w1 := g1.size
 replace HE := hid (HE.out.trans g1)
 replace HB_O := hid (HB_O.out.ext g1)
 replace HB_Y := hid (HB_Y.out.ext g1)
 replace HB_Z := hid (HB_Z.out.ext g1)
 obtain ⟨nga, aa, na, ca, aa', na', ca', rfl⟩ := k1.shape
 have gA := Ext.alloc w1 (.cells #[.bool nga, .slice aa na ca, .slice aa' na' ca'] 40)
 obtain ⟨c_16, c_17, c_18, c_19, c_20, c_21, c_22, c_23, c_24⟩ := (HB_O.out.ext gA).c9
 obtain ⟨c_25, c_26, c_27⟩ := (HB_Y.out.ext gA).c3
 obtain ⟨c_28, c_29, c_30⟩ := (HB_Z.out.ext gA).c3
 go_wp2_with fail
 clear gA c_16 c_17 c_18 c_19 c_20 c_21 c_22 c_23 c_24 c_25 c_26 c_27 c_28 c_29 c_30
 obtain ⟨W2, hW2, g2, hy2, B_X⟩ := pro1 w1 #[.bool nga, .slice aa na ca, .slice aa' na' ca'] 40
 rw [← hW2]
 clear hW2
 have hz_W2 := g2.size
 replace HE := hid (HE.out.trans g2)
 replace HB_O := hid (HB_O.out.ext g2)
 replace HB_Y := hid (HB_Y.out.ext g2)
 replace HB_Z := hid (HB_Z.out.ext g2)
 replace k1 := k1.ext g2
 have HB_X := hid B_X
 clear B_X
 refine (CB.out _).mono ?_
 rintro e w3 ⟨vb, rfl, k3, g3⟩
 have hz_w3 := g3.size
 replace HE := hid (HE.out.trans g3)
 replace HB_O := hid (HB_O.out.ext g3)
 replace HB_Y := hid (HB_Y.out.ext g3)
 replace HB_Z := hid (HB_Z.out.ext g3)
 replace HB_X := hid (HB_X.out.ext g3)
 replace k1 := k1.ext g3
 obtain ⟨ngb, ab, nb, cb, ab', nb', cb', rfl⟩ := k3.shape
 have gA := Ext.alloc w3 (.cells #[.bool ngb, .slice ab nb cb, .slice ab' nb' cb'] 40)
 obtain ⟨c_31, c_32, c_33, c_34, c_35, c_36, c_37, c_38, c_39⟩ := (HB_O.out.ext gA).c9
 obtain ⟨c_40, c_41, c_42⟩ := (HB_Y.out.ext gA).c3
 obtain ⟨c_43, c_44, c_45⟩ := (HB_Z.out.ext gA).c3
 obtain ⟨c_46, c_47, c_48⟩ := (HB_X.out.ext gA).c3
 go_wp2_with fail
 clear gA c_31 c_32 c_33 c_34 c_35 c_36 c_37 c_38 c_39 c_40 c_41 c_42 c_43 c_44 c_45 c_46 c_47 c_48
 obtain ⟨W4, hW4, g4, hy4, B_V⟩ := pro1 w3 #[.bool ngb, .slice ab nb cb, .slice ab' nb' cb'] 40
 rw [← hW4]
 clear hW4
 have hz_W4 := g4.size
 replace HE := hid (HE.out.trans g4)
 replace HB_O := hid (HB_O.out.ext g4)
 replace HB_Y := hid (HB_Y.out.ext g4)
 replace HB_Z := hid (HB_Z.out.ext g4)
 replace HB_X := hid (HB_X.out.ext g4)
 replace k1 := k1.ext g4
 replace k3 := k3.ext g4
 have HB_V := hid B_V
 clear B_V
 have hb0 : Ext W4 W4.drew := Below.drew (Below.refl _ W4)
 obtain ⟨c_49, c_50, c_51⟩ := HB_X.out.c3
 obtain ⟨c_52, c_53, c_54⟩ := HB_V.out.c3
 obtain ⟨c_55, c_56, c_57⟩ := HB_Y.out.c3
 obtain ⟨c_58, c_59, c_60⟩ := HB_Z.out.c3
 obtain ⟨f_61, f_62, f_63⟩ := HB_Y.out.f3
 obtain ⟨f_64, f_65, f_66⟩ := HB_Z.out.f3
 have hyz : w.heap.size + 1 ≠ w.heap.size + 1 + 1 := by omega
 have hzy : w.heap.size + 1 + 1 ≠ w.heap.size + 1 := by omega
 rcases hza with rfl | rfl | rfl | rfl
 ·go_region
  clear c_49 c_50 c_51 c_52 c_53 c_54 c_55 c_56 c_57 c_58 c_59 c_60 f_61 f_62 f_63 f_64 f_65 f_66
  obtain ⟨W5, hW5, g5, q5, B5, hy5, ho5⟩ := sto3 HE.out (by omega) HB_Y.out (by decide) (.bool nga) (.slice aa na ca) (.slice aa' na' ca')
  rw [← hW5]
  clear hW5
  replace HE := hid g5
  replace HB_O := hid (ho5 _ _ _ (by omega) HB_O.out)
  replace HB_Z := hid (ho5 _ _ _ (by omega) HB_Z.out)
  replace HB_X := hid (ho5 _ _ _ (by omega) HB_X.out)
  replace HB_V := hid (ho5 _ _ _ (by omega) HB_V.out)
  replace HB_Y := hid B5
  replace k1 := k1.keep q5
  replace k3 := k3.keep q5
  obtain ⟨W6, hW6, g6, q6, B6, hy6, ho6⟩ := sto3 HE.out (by omega) HB_Z.out (by decide) (.bool ngb) (.slice ab nb cb) (.slice ab' nb' cb')
  rw [← hW6]
  clear hW6
  replace HE := hid g6
  replace HB_O := hid (ho6 _ _ _ (by omega) HB_O.out)
  replace HB_Y := hid (ho6 _ _ _ (by omega) HB_Y.out)
  replace HB_X := hid (ho6 _ _ _ (by omega) HB_X.out)
  replace HB_V := hid (ho6 _ _ _ (by omega) HB_V.out)
  replace HB_Z := hid B6
  replace k1 := k1.keep q6
  replace k3 := k3.keep q6
  have gd : Ext W6 W6.drew := Below.drew (Below.refl _ W6)
  replace HE := hid (HE.out.trans gd)
  replace HB_O := hid (HB_O.out.ext gd)
  replace HB_Y := hid (HB_Y.out.ext gd)
  replace HB_Z := hid (HB_Z.out.ext gd)
  replace HB_X := hid (HB_X.out.ext gd)
  replace HB_V := hid (HB_V.out.ext gd)
  replace k1 := k1.ext gd
  replace k3 := k3.ext gd
  go_wp2_with fail
  obtain ⟨c_67, c_68, c_69⟩ := HB_Y.out.c3
  obtain ⟨c_70, c_71, c_72⟩ := HB_Z.out.c3
  refine bodyPost_ret (v := .tuple #[.agg #[.bool nga, .slice aa na ca, .slice aa' na' ca'], .agg #[.bool ngb, .slice ab nb cb, .slice ab' nb' cb'], .bool (zb == 0)]) (by simp [results, Tryz.results38, go_sem, c_67, c_68, c_69, c_70, c_71, c_72]) rfl ⟨_, _, ?_, k1, k3, HE.out⟩
  rfl
 ·go_region
  clear c_49 c_50 c_51 c_52 c_53 c_54 c_55 c_56 c_57 c_58 c_59 c_60 f_61 f_62 f_63 f_64 f_65 f_66
  obtain ⟨W5, hW5, g5, q5, B5, hy5, ho5⟩ := sto3 HE.out (by omega) HB_Y.out (by decide) (.bool nga) (.slice aa na ca) (.slice aa' na' ca')
  rw [← hW5]
  clear hW5
  replace HE := hid g5
  replace HB_O := hid (ho5 _ _ _ (by omega) HB_O.out)
  replace HB_Z := hid (ho5 _ _ _ (by omega) HB_Z.out)
  replace HB_X := hid (ho5 _ _ _ (by omega) HB_X.out)
  replace HB_V := hid (ho5 _ _ _ (by omega) HB_V.out)
  replace HB_Y := hid B5
  replace k1 := k1.keep q5
  replace k3 := k3.keep q5
  obtain ⟨W6, hW6, g6, q6, B6, hy6, ho6⟩ := sto3 HE.out (by omega) HB_Z.out (by decide) (.bool ngb) (.slice ab nb cb) (.slice ab' nb' cb')
  rw [← hW6]
  clear hW6
  replace HE := hid g6
  replace HB_O := hid (ho6 _ _ _ (by omega) HB_O.out)
  replace HB_Y := hid (ho6 _ _ _ (by omega) HB_Y.out)
  replace HB_X := hid (ho6 _ _ _ (by omega) HB_X.out)
  replace HB_V := hid (ho6 _ _ _ (by omega) HB_V.out)
  replace HB_Z := hid B6
  replace k1 := k1.keep q6
  replace k3 := k3.keep q6
  have gd : Ext W6 W6.drew := Below.drew (Below.refl _ W6)
  replace HE := hid (HE.out.trans gd)
  replace HB_O := hid (HB_O.out.ext gd)
  replace HB_Y := hid (HB_Y.out.ext gd)
  replace HB_Z := hid (HB_Z.out.ext gd)
  replace HB_X := hid (HB_X.out.ext gd)
  replace HB_V := hid (HB_V.out.ext gd)
  replace k1 := k1.ext gd
  replace k3 := k3.ext gd
  go_wp2_with fail
  obtain ⟨c_67, c_68, c_69⟩ := HB_Y.out.c3
  obtain ⟨c_70, c_71, c_72⟩ := HB_Z.out.c3
  refine bodyPost_ret (v := .tuple #[.agg #[.bool nga, .slice aa na ca, .slice aa' na' ca'], .agg #[.bool ngb, .slice ab nb cb, .slice ab' nb' cb'], .bool false]) (by simp [results, Tryz.results38, go_sem, c_67, c_68, c_69, c_70, c_71, c_72]) rfl ⟨_, _, ?_, k1, k3, HE.out⟩
  rfl
 ·go_region
  clear c_49 c_50 c_51 c_52 c_53 c_54 c_55 c_56 c_57 c_58 c_59 c_60 f_61 f_62 f_63 f_64 f_65 f_66
  obtain ⟨W5, hW5, g5, q5, B5, hy5, ho5⟩ := sto3 HE.out (by omega) HB_Y.out (by decide) (.bool nga) (.slice aa na ca) (.slice aa' na' ca')
  rw [← hW5]
  clear hW5
  replace HE := hid g5
  replace HB_O := hid (ho5 _ _ _ (by omega) HB_O.out)
  replace HB_Z := hid (ho5 _ _ _ (by omega) HB_Z.out)
  replace HB_X := hid (ho5 _ _ _ (by omega) HB_X.out)
  replace HB_V := hid (ho5 _ _ _ (by omega) HB_V.out)
  replace HB_Y := hid B5
  replace k1 := k1.keep q5
  replace k3 := k3.keep q5
  obtain ⟨W6, hW6, g6, q6, B6, hy6, ho6⟩ := sto3 HE.out (by omega) HB_Z.out (by decide) (.bool ngb) (.slice ab nb cb) (.slice ab' nb' cb')
  rw [← hW6]
  clear hW6
  replace HE := hid g6
  replace HB_O := hid (ho6 _ _ _ (by omega) HB_O.out)
  replace HB_Y := hid (ho6 _ _ _ (by omega) HB_Y.out)
  replace HB_X := hid (ho6 _ _ _ (by omega) HB_X.out)
  replace HB_V := hid (ho6 _ _ _ (by omega) HB_V.out)
  replace HB_Z := hid B6
  replace k1 := k1.keep q6
  replace k3 := k3.keep q6
  have gd : Ext W6 W6.drew := Below.drew (Below.refl _ W6)
  replace HE := hid (HE.out.trans gd)
  replace HB_O := hid (HB_O.out.ext gd)
  replace HB_Y := hid (HB_Y.out.ext gd)
  replace HB_Z := hid (HB_Z.out.ext gd)
  replace HB_X := hid (HB_X.out.ext gd)
  replace HB_V := hid (HB_V.out.ext gd)
  replace k1 := k1.ext gd
  replace k3 := k3.ext gd
  go_wp2_with fail
  obtain ⟨c_67, c_68, c_69⟩ := HB_Y.out.c3
  obtain ⟨c_70, c_71, c_72⟩ := HB_Z.out.c3
  refine bodyPost_ret (v := .tuple #[.agg #[.bool nga, .slice aa na ca, .slice aa' na' ca'], .agg #[.bool ngb, .slice ab nb cb, .slice ab' nb' cb'], .bool false]) (by simp [results, Tryz.results38, go_sem, c_67, c_68, c_69, c_70, c_71, c_72]) rfl ⟨_, _, ?_, k1, k3, HE.out⟩
  rfl
 ·go_region
  clear c_49 c_50 c_51 c_52 c_53 c_54 c_55 c_56 c_57 c_58 c_59 c_60 f_61 f_62 f_63 f_64 f_65 f_66
  obtain ⟨W5, hW5, g5, q5, B5, hy5, ho5⟩ := sto3 HE.out (by omega) HB_Y.out (by decide) (.bool nga) (.slice aa na ca) (.slice aa' na' ca')
  rw [← hW5]
  clear hW5
  replace HE := hid g5
  replace HB_O := hid (ho5 _ _ _ (by omega) HB_O.out)
  replace HB_Z := hid (ho5 _ _ _ (by omega) HB_Z.out)
  replace HB_X := hid (ho5 _ _ _ (by omega) HB_X.out)
  replace HB_V := hid (ho5 _ _ _ (by omega) HB_V.out)
  replace HB_Y := hid B5
  replace k1 := k1.keep q5
  replace k3 := k3.keep q5
  obtain ⟨W6, hW6, g6, q6, B6, hy6, ho6⟩ := sto3 HE.out (by omega) HB_Z.out (by decide) (.bool ngb) (.slice ab nb cb) (.slice ab' nb' cb')
  rw [← hW6]
  clear hW6
  replace HE := hid g6
  replace HB_O := hid (ho6 _ _ _ (by omega) HB_O.out)
  replace HB_Y := hid (ho6 _ _ _ (by omega) HB_Y.out)
  replace HB_X := hid (ho6 _ _ _ (by omega) HB_X.out)
  replace HB_V := hid (ho6 _ _ _ (by omega) HB_V.out)
  replace HB_Z := hid B6
  replace k1 := k1.keep q6
  replace k3 := k3.keep q6
  have gd : Ext W6 W6.drew := Below.drew (Below.refl _ W6)
  replace HE := hid (HE.out.trans gd)
  replace HB_O := hid (HB_O.out.ext gd)
  replace HB_Y := hid (HB_Y.out.ext gd)
  replace HB_Z := hid (HB_Z.out.ext gd)
  replace HB_X := hid (HB_X.out.ext gd)
  replace HB_V := hid (HB_V.out.ext gd)
  replace k1 := k1.ext gd
  replace k3 := k3.ext gd
  go_wp2_with fail
  obtain ⟨c_67, c_68, c_69⟩ := HB_Y.out.c3
  obtain ⟨c_70, c_71, c_72⟩ := HB_Z.out.c3
  refine bodyPost_ret (v := .tuple #[.agg #[.bool nga, .slice aa na ca, .slice aa' na' ca'], .agg #[.bool ngb, .slice ab nb cb, .slice ab' nb' cb'], .bool false]) (by simp [results, Tryz.results38, go_sem, c_67, c_68, c_69, c_70, c_71, c_72]) rfl ⟨_, _, ?_, k1, k3, HE.out⟩
  rfl
end Go.Proofs.YtopmjkkjlagfcaaGreatDoor
