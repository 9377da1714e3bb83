/- floats: Value. -/
import Derived.Test.YtopmjkkjlagfcaaGreatDoorW37
import Derived.Test.YtopmjkkjlagfcaaGreatDoorW35
namespace Go.Proofs.YtopmjkkjlagfcaaGreatDoor
open Go.RowKit Vn
theorem wkind_cases (E P n : Nat) : wkind E P n = 3 ∨ wkind E P n = 4 ∨ wkind E P n = 5 ∨ wkind E P n = 1 ∨ wkind E P n = 2 := by
 unfold wkind
 split
 ·split
  ·simp
  ·split <;> simp
 ·split <;> simp
def valueR (E P n : Nat) : Rat × Int := if ¬ n < 2 ^ (E + P) then (0, 6) else if 2 < wkind E P n then (0, 4) else (wvalK E P (bias E) n, 0)
def NumErr (q : Rat) (z : Int) (w : World) (e : Ending) (w' : World) : Prop := ∃ v, e = .returned (.tuple #[v, .int .i64 z]) ∧ NumV w' v q ∧ Ext w w'
set_option maxRecDepth 100000 in
set_option maxHeartbeats 4000000 in
theorem Value_good (E P n : Nat) (w : World) (hF : Fmt E P) (hn : W128 n) :
  Calls Tryz.prog 18 #[.agg #[.int .i64 (E : Nat), .int .i64 (P : Nat)], Word n] w fun e w' => NumErr (valueR E P n).1 (valueR E P n).2 w e w' := by
 obtain ⟨n0, hn0⟩ : ∃ n0 : Nat, n0 = n / 18446744073709551616 := ⟨_, rfl⟩
 obtain ⟨n1, hn1⟩ : ∃ n1 : Nat, n1 = n % 18446744073709551616 := ⟨_, rfl⟩
 have en : Word n = .agg #[.int .u64 n0, .int .u64 n1] := by unfold Word; rw [← hn0, ← hn1]
 have CL : Hid (∀ w, Calls Tryz.prog 69 #[.agg #[.int .i64 (E : Nat), .int .i64 (P : Nat), .int .i64 (0 : Nat), .int .i64 (bias E : Nat)], .agg #[.int .u64 n0, .int .u64 n1]] w (LookPost (wkind E P n) (wn E P n) (wvalK E P (bias E) n) w)) := hid fun w => by
  rw [← en]; exact look_c E P 0 (bias E) n w hF (by
   have : 2 ^ (E - 1) ≤ 1024 := Nat.pow_le_pow_right (n := 2) (by decide) (show E - 1 ≤ 10 by unfold Fmt at hF; omega)
   unfold bias; omega) hn
 rw [en]
 have HF := hid hF; have HN := hid hn; have HN0 := hid hn0; have HN1 := hid hn1
 clear hF hn hn0 hn1 en
 obtain ⟨W0, hW0, g0, hz0, B_F, B_W, B_Z⟩ := pro3s w #[.int .i64 (E : Nat), .int .i64 (P : Nat)] #[.int .u64 n0, .int .u64 n1] #[.bool false, .slice none 0 0, .slice none 0 0] 23 29 40
 have HE := hid g0
 have HB_F := hid B_F
 have HB_W := hid B_W
 have HB_Z := hid B_Z
 clear g0 B_F B_W B_Z 
 go_enter Tryz.func18, Tryz.ntmps18
 go_upto_region 1 with (fail)
 rw [← hW0]
 clear hW0
 obtain ⟨c_1, c_2⟩ := HB_F.out.c2
 obtain ⟨c_3, c_4⟩ := HB_W.out.c2
 obtain ⟨c_5, c_6, c_7⟩ := HB_Z.out.c3
 go_wp2_with fail
 clear c_1 c_2 c_3 c_4 c_5 c_6 c_7
 obtain ⟨W1, hW1, g1, hy1, B_R⟩ := pro1 W0 #[.int .u64 n0, .int .u64 n1] 29
 rw [← hW1]
 clear hW1
 have hz_W1 := g1.size
 replace HE := hid (HE.out.trans g1)
 replace HB_F := hid (HB_F.out.ext g1)
 replace HB_W := hid (HB_W.out.ext g1)
 replace HB_Z := hid (HB_Z.out.ext g1)
 have HB_R := hid B_R
 clear B_R
 have HWS : Hid (WSl W1 (.slice (some ⟨W0.heap.size, 0, none⟩) 1 1) [n]) := hid ⟨some ⟨W0.heap.size, 0, none⟩, W0.heap.size, 0, 1, rfl, Nat.le_refl _, by decide, fun _ => rfl, fun x hx => by
   rw [List.mem_singleton] at hx; rw [hx]; exact HN.out, fun i hi => by
   obtain rfl : i = 0 := by simpa using hi
   refine ⟨?_, ?_⟩
   ·have := HB_R.out.cell 0; rw [HN0.out] at this; exact this
   ·have := HB_R.out.cell 1; rw [HN1.out] at this; exact this⟩
 by_cases hfit : n < 2 ^ (E + P)
 ·have HW : Hid (withRes E P 0 [n] = .tuple #[.agg #[.int .i64 (E : Nat), .int .i64 (P : Nat), .int .i64 (0 : Nat), .int .i64 (bias E : Nat)], .int .i64 0]) := hid (by unfold withRes; rw [if_pos (fun x hx => by rw [List.mem_singleton] at hx; rw [hx]; exact hfit)])
  have Hfit := hid hfit
  clear hfit
  refine (with_good E P 0 _ [n] _ (by decide) HF.out HWS.out).mono ?_
  rintro e w2 ⟨rfl, g2⟩
  have hz_w2 := g2.size
  replace HE := hid (HE.out.trans g2)
  replace HB_F := hid (HB_F.out.ext g2)
  replace HB_W := hid (HB_W.out.ext g2)
  replace HB_Z := hid (HB_Z.out.ext g2)
  rw [HW.out]
  have gA := Ext.alloc w2 (.cells #[.int .i64 (E : Nat), .int .i64 (P : Nat), .int .i64 0, .int .i64 (bias E : Nat)] 81)
  obtain ⟨c_8, c_9⟩ := (HB_F.out.ext gA).c2
  obtain ⟨c_10, c_11⟩ := (HB_W.out.ext gA).c2
  obtain ⟨c_12, c_13, c_14⟩ := (HB_Z.out.ext gA).c3
  go_wp2_with fail
  clear gA c_8 c_9 c_10 c_11 c_12 c_13 c_14
  obtain ⟨W3, hW3, g3, hy3, B_M⟩ := pro1 w2 #[.int .i64 (E : Nat), .int .i64 (P : Nat), .int .i64 0, .int .i64 (bias E : Nat)] 81
  rw [← hW3]
  clear hW3
  have hz_W3 := g3.size
  replace HE := hid (HE.out.trans g3)
  replace HB_F := hid (HB_F.out.ext g3)
  replace HB_W := hid (HB_W.out.ext g3)
  replace HB_Z := hid (HB_Z.out.ext g3)
  have HB_M := hid B_M
  clear B_M
  refine (CL.out _).mono ?_
  rintro e w4 ⟨v1, rfl, ⟨ng, a, k, c, a', k', c', rfl, kv⟩, g4⟩
  have hz_w4 := g4.size
  replace HE := hid (HE.out.trans g4)
  replace HB_F := hid (HB_F.out.ext g4)
  replace HB_W := hid (HB_W.out.ext g4)
  replace HB_Z := hid (HB_Z.out.ext g4)
  replace HB_M := hid (HB_M.out.ext g4)
  have HKd : Hid (wkind E P n = 3 ∨ wkind E P n = 4 ∨ wkind E P n = 5 ∨ wkind E P n = 1 ∨ wkind E P n = 2) := hid (wkind_cases E P n)
  have HV : Hid (valueR E P n = if 2 < wkind E P n then (0, 4) else (wvalK E P (bias E) n, 0)) := hid (by unfold valueR; rw [if_neg (fun h => h Hfit.out)])
  generalize wkind E P n = kd at *
  generalize wn E P n = sg at *
  by_cases h2 : 2 < kd
  ·have hd : decide (2 < kd) = true := decide_eq_true h2
   have HV2 : Hid (valueR E P n = (0, 4)) := hid (by rw [HV.out, if_pos h2])
   clear h2
   have gA := Ext.alloc w4 (.cells #[.int .i64 kd, .bool sg, .bool ng, .slice a k c, .slice a' k' c'] 112)
   obtain ⟨c_15, c_16, c_17⟩ := (HB_Z.out.ext gA).c3
   obtain ⟨f_18, f_19, f_20⟩ := (HB_Z.out.ext gA).f3
   go_wp2_with fail
   clear gA c_15 c_16 c_17 f_18 f_19 f_20
   obtain ⟨W5, hW5, g5, hy5, B_X⟩ := pro1 w4 #[.int .i64 kd, .bool sg, .bool ng, .slice a k c, .slice a' k' c'] 112
   rw [← hW5]
   clear hW5
   have hz_W5 := g5.size
   replace HE := hid (HE.out.trans g5)
   replace HB_F := hid (HB_F.out.ext g5)
   replace HB_W := hid (HB_W.out.ext g5)
   replace HB_Z := hid (HB_Z.out.ext g5)
   replace HB_M := hid (HB_M.out.ext g5)
   replace kv := kv.ext g5
   have HB_X := hid B_X
   clear B_X
   obtain ⟨W6, hW6, g6, q6, B6, hy6, ho6⟩ := sto3 HE.out (by omega) HB_Z.out (by decide) (.bool false) (.slice none 0 0) (.slice none 0 0)
   rw [← hW6]
   clear hW6
   replace HE := hid g6
   replace HB_F := hid (ho6 _ _ _ (by omega) HB_F.out)
   replace HB_W := hid (ho6 _ _ _ (by omega) HB_W.out)
   replace HB_M := hid (ho6 _ _ _ (by omega) HB_M.out)
   replace HB_X := hid (ho6 _ _ _ (by omega) HB_X.out)
   replace HB_Z := hid B6
   replace kv := kv.keep q6
   unfold NumErr
   rw [HV2.out]
   obtain ⟨c_21, c_22, c_23⟩ := HB_Z.out.c3
   refine bodyPost_ret (v := .tuple #[.agg #[.bool false, .slice none 0 0, .slice none 0 0], .int .i64 4]) (by simp [results, Tryz.results18, go_sem, c_21, c_22, c_23]) rfl ⟨_, rfl, NumV.zero _, HE.out⟩
  ·have hd : decide (2 < kd) = false := decide_eq_false h2
   have HV2 : Hid (valueR E P n = (wvalK E P (bias E) n, 0)) := hid (by rw [HV.out, if_neg h2])
   clear h2
   have gA := Ext.alloc w4 (.cells #[.int .i64 kd, .bool sg, .bool ng, .slice a k c, .slice a' k' c'] 112)
   obtain ⟨c_15, c_16, c_17⟩ := (HB_Z.out.ext gA).c3
   obtain ⟨f_18, f_19, f_20⟩ := (HB_Z.out.ext gA).f3
   go_wp2_with fail
   clear gA c_15 c_16 c_17 f_18 f_19 f_20
   obtain ⟨W5, hW5, g5, hy5, B_X⟩ := pro1 w4 #[.int .i64 kd, .bool sg, .bool ng, .slice a k c, .slice a' k' c'] 112
   rw [← hW5]
   clear hW5
   have hz_W5 := g5.size
   replace HE := hid (HE.out.trans g5)
   replace HB_F := hid (HB_F.out.ext g5)
   replace HB_W := hid (HB_W.out.ext g5)
   replace HB_Z := hid (HB_Z.out.ext g5)
   replace HB_M := hid (HB_M.out.ext g5)
   replace kv := kv.ext g5
   have HB_X := hid B_X
   clear B_X
   obtain ⟨W6, hW6, g6, q6, B6, hy6, ho6⟩ := sto3 HE.out (by omega) HB_Z.out (by decide) (.bool ng) (.slice a k c) (.slice a' k' c')
   rw [← hW6]
   clear hW6
   replace HE := hid g6
   replace HB_F := hid (ho6 _ _ _ (by omega) HB_F.out)
   replace HB_W := hid (ho6 _ _ _ (by omega) HB_W.out)
   replace HB_M := hid (ho6 _ _ _ (by omega) HB_M.out)
   replace HB_X := hid (ho6 _ _ _ (by omega) HB_X.out)
   replace HB_Z := hid B6
   replace kv := kv.keep q6
   unfold NumErr
   rw [HV2.out]
   obtain ⟨c_21, c_22, c_23⟩ := HB_Z.out.c3
   refine bodyPost_ret (v := .tuple #[.agg #[.bool ng, .slice a k c, .slice a' k' c'], .int .i64 0]) (by simp [results, Tryz.results18, go_sem, c_21, c_22, c_23]) rfl ⟨_, rfl, kv, HE.out⟩
 ·have HW : Hid (withRes E P 0 [n] = .tuple #[.agg #[.int .i64 0, .int .i64 0, .int .i64 0, .int .i64 0], .int .i64 6]) := hid (by unfold withRes; rw [if_neg (fun h => hfit (h n (by simp)))])
  have HV2 : Hid (valueR E P n = (0, 6)) := hid (by unfold valueR; rw [if_pos hfit])
  clear hfit
  refine (with_good E P 0 _ [n] _ (by decide) HF.out HWS.out).mono ?_
  rintro e w2 ⟨rfl, g2⟩
  have hz_w2 := g2.size
  replace HE := hid (HE.out.trans g2)
  replace HB_F := hid (HB_F.out.ext g2)
  replace HB_W := hid (HB_W.out.ext g2)
  replace HB_Z := hid (HB_Z.out.ext g2)
  rw [HW.out]
  have gA := Ext.alloc w2 (.cells #[.int .i64 0, .int .i64 0, .int .i64 0, .int .i64 0] 81)
  obtain ⟨c_8, c_9, c_10⟩ := (HB_Z.out.ext gA).c3
  obtain ⟨f_11, f_12, f_13⟩ := (HB_Z.out.ext gA).f3
  go_wp2_with fail
  clear gA c_8 c_9 c_10 f_11 f_12 f_13
  obtain ⟨W3, hW3, g3, hy3, B_M⟩ := pro1 w2 #[.int .i64 0, .int .i64 0, .int .i64 0, .int .i64 0] 81
  rw [← hW3]
  clear hW3
  have hz_W3 := g3.size
  replace HE := hid (HE.out.trans g3)
  replace HB_F := hid (HB_F.out.ext g3)
  replace HB_W := hid (HB_W.out.ext g3)
  replace HB_Z := hid (HB_Z.out.ext g3)
  have HB_M := hid B_M
  clear B_M
  obtain ⟨W4, hW4, g4, q4, B4, hy4, ho4⟩ := sto3 HE.out (by omega) HB_Z.out (by decide) (.bool false) (.slice none 0 0) (.slice none 0 0)
  rw [← hW4]
  clear hW4
  replace HE := hid g4
  replace HB_F := hid (ho4 _ _ _ (by omega) HB_F.out)
  replace HB_W := hid (ho4 _ _ _ (by omega) HB_W.out)
  replace HB_M := hid (ho4 _ _ _ (by omega) HB_M.out)
  replace HB_Z := hid B4
  unfold NumErr
  rw [HV2.out]
  obtain ⟨c_14, c_15, c_16⟩ := HB_Z.out.c3
  refine bodyPost_ret (v := .tuple #[.agg #[.bool false, .slice none 0 0, .slice none 0 0], .int .i64 6]) (by simp [results, Tryz.results18, go_sem, c_14, c_15, c_16]) rfl ⟨_, rfl, NumV.zero _, HE.out⟩
end Go.Proofs.YtopmjkkjlagfcaaGreatDoor

/- floats: Value of what is no format; round of 0; Round. -/
namespace Go.Proofs.YtopmjkkjlagfcaaGreatDoor
open Go.RowKit Vn
set_option maxRecDepth 100000 in
set_option maxHeartbeats 4000000 in
theorem Value_bad (E P : Int) (n : Nat) (w : World) (hF : ¬ Fmt E P) :
  Calls Tryz.prog 18 #[.agg #[.int .i64 E, .int .i64 P], Word n] w fun e w' => NumErr 0 2 w e w' := by
 obtain ⟨n0, n1, en⟩ := Word.shape n
 rw [en]
 have HF : Hid (¬ (0 ≤ (0 : Int) ∧ (0 : Int) ≤ 4 ∧ Fmt E P)) := hid (fun h => hF h.2.2)
 clear hF en
 obtain ⟨W0, hW0, g0, hz0, B_F, B_W, B_Z⟩ := pro3s w #[.int .i64 E, .int .i64 P] #[.int .u64 n0, .int .u64 n1] #[.bool false, .slice none 0 0, .slice none 0 0] 23 29 40
 have HE := hid g0
 have HB_F := hid B_F
 have HB_W := hid B_W
 have HB_Z := hid B_Z
 clear g0 B_F B_W B_Z 
 go_enter Tryz.func18, Tryz.ntmps18
 go_upto_region 1 with (fail)
 rw [← hW0]
 clear hW0
 obtain ⟨c_1, c_2⟩ := HB_F.out.c2
 obtain ⟨c_3, c_4⟩ := HB_W.out.c2
 obtain ⟨c_5, c_6, c_7⟩ := HB_Z.out.c3
 go_wp2_with fail
 clear c_1 c_2 c_3 c_4 c_5 c_6 c_7
 obtain ⟨W1, hW1, g1, hy1, B_R⟩ := pro1 W0 #[.int .u64 n0, .int .u64 n1] 29
 rw [← hW1]
 clear hW1
 have hz_W1 := g1.size
 replace HE := hid (HE.out.trans g1)
 replace HB_F := hid (HB_F.out.ext g1)
 replace HB_W := hid (HB_W.out.ext g1)
 replace HB_Z := hid (HB_Z.out.ext g1)
 have HB_R := hid B_R
 clear B_R
 refine (with_bad E P 0 _ _ HF.out).mono ?_
 rintro e w2 ⟨rfl, g2⟩
 have hz_w2 := g2.size
 replace HE := hid (HE.out.trans g2)
 replace HB_F := hid (HB_F.out.ext g2)
 replace HB_W := hid (HB_W.out.ext g2)
 replace HB_Z := hid (HB_Z.out.ext g2)
 have gA := Ext.alloc w2 (.cells #[.int .i64 0, .int .i64 0, .int .i64 0, .int .i64 0] 81)
 obtain ⟨c_8, c_9, c_10⟩ := (HB_Z.out.ext gA).c3
 obtain ⟨f_11, f_12, f_13⟩ := (HB_Z.out.ext gA).f3
 go_wp2_with fail
 clear gA c_8 c_9 c_10 f_11 f_12 f_13
 obtain ⟨W3, hW3, g3, hy3, B_M⟩ := pro1 w2 #[.int .i64 0, .int .i64 0, .int .i64 0, .int .i64 0] 81
 rw [← hW3]
 clear hW3
 have hz_W3 := g3.size
 replace HE := hid (HE.out.trans g3)
 replace HB_F := hid (HB_F.out.ext g3)
 replace HB_W := hid (HB_W.out.ext g3)
 replace HB_Z := hid (HB_Z.out.ext g3)
 have HB_M := hid B_M
 clear B_M
 obtain ⟨W4, hW4, g4, q4, B4, hy4, ho4⟩ := sto3 HE.out (by omega) HB_Z.out (by decide) (.bool false) (.slice none 0 0) (.slice none 0 0)
 rw [← hW4]
 clear hW4
 replace HE := hid g4
 replace HB_F := hid (ho4 _ _ _ (by omega) HB_F.out)
 replace HB_W := hid (ho4 _ _ _ (by omega) HB_W.out)
 replace HB_M := hid (ho4 _ _ _ (by omega) HB_M.out)
 replace HB_Z := hid B4
 unfold NumErr
 obtain ⟨c_14, c_15, c_16⟩ := HB_Z.out.c3
 refine bodyPost_ret (v := .tuple #[.agg #[.bool false, .slice none 0 0, .slice none 0 0], .int .i64 2]) (by simp [results, Tryz.results18, go_sem, c_14, c_15, c_16]) rfl ⟨_, rfl, NumV.zero _, HE.out⟩
set_option maxRecDepth 100000 in
set_option maxHeartbeats 4000000 in
theorem round_zero (E P b m : Nat) (x : Value) (w : World) (hF : Fmt E P) (hx : NumV w x 0) :
  Calls Tryz.prog 44 #[.agg #[.int .i64 E, .int .i64 P, .int .i64 m, .int .i64 b], x] w fun e w' => EndPost (0, 0) w e w' := by
 obtain ⟨ng, a, n, c, a', n', c', rfl⟩ := hx.shape
 have HX := hid hx
 have e0 : Word (sgb E P false) = .agg #[.int .u64 0, .int .u64 0] := by unfold Word sgb; simp
 have C1 : Hid (∀ w, Calls Tryz.prog 43 #[.agg #[.int .i64 E, .int .i64 P, .int .i64 m, .int .i64 b], .bool false] w fun e w' => e = .returned (.agg #[.int .u64 0, .int .u64 0]) ∧ Ext w w') := hid fun w => by rw [← e0]; exact zero_c E P m b false w hF
 clear hx hF e0
 obtain ⟨W0, hW0, g0, hz0, B_M, B_X, B_Z⟩ := pro3s w #[.int .i64 E, .int .i64 P, .int .i64 m, .int .i64 b] #[.bool ng, .slice a n c, .slice a' n' c'] #[.int .u64 0, .int .u64 0] 81 40 29
 have HE := hid g0
 have HB_M := hid B_M
 have HB_X := hid B_X
 have HB_Z := hid B_Z
 clear g0 B_M B_X B_Z 
 go_enter Tryz.func44, Tryz.ntmps44
 go_wp2_with fail
 rw [← hW0]
 clear hW0
 refine (sign_c _ 0 _ (HX.out.ext HE.out)).mono ?_
 rintro e w1 ⟨rfl, g1⟩
 have hz_w1 := g1.size
 replace HE := hid (HE.out.trans g1)
 replace HB_M := hid (HB_M.out.ext g1)
 replace HB_X := hid (HB_X.out.ext g1)
 replace HB_Z := hid (HB_Z.out.ext g1)
 rw [show (0 : Rat).num.sign = 0 from rfl]
 obtain ⟨c_1, c_2, c_3, c_4⟩ := HB_M.out.c4
 obtain ⟨c_5, c_6, c_7⟩ := HB_X.out.c3
 obtain ⟨c_8, c_9⟩ := HB_Z.out.c2
 go_wp2_with fail
 clear c_1 c_2 c_3 c_4 c_5 c_6 c_7 c_8 c_9
 refine (C1.out _).mono ?_
 rintro e w2 ⟨rfl, g2⟩
 have hz_w2 := g2.size
 replace HE := hid (HE.out.trans g2)
 replace HB_M := hid (HB_M.out.ext g2)
 replace HB_X := hid (HB_X.out.ext g2)
 replace HB_Z := hid (HB_Z.out.ext g2)
 obtain ⟨c_10, c_11, c_12, c_13⟩ := HB_M.out.c4
 obtain ⟨c_14, c_15, c_16⟩ := HB_X.out.c3
 obtain ⟨c_17, c_18⟩ := HB_Z.out.c2
 obtain ⟨f_19, f_20⟩ := HB_Z.out.f2
 go_wp2_with fail
 clear c_10 c_11 c_12 c_13 c_14 c_15 c_16 c_17 c_18 f_19 f_20
 obtain ⟨W3, hW3, g3, q3, B3, hy3, ho3⟩ := sto2 HE.out (by omega) HB_Z.out (by decide) (.int .u64 0) (.int .u64 0)
 rw [← hW3]
 clear hW3
 replace HE := hid g3
 replace HB_M := hid (ho3 _ _ _ (by omega) HB_M.out)
 replace HB_X := hid (ho3 _ _ _ (by omega) HB_X.out)
 replace HB_Z := hid B3
 unfold EndPost
 obtain ⟨c_21, c_22⟩ := HB_Z.out.c2
 refine bodyPost_ret (v := .tuple #[.agg #[.int .u64 0, .int .u64 0], .int .i64 0]) (by simp [results, Tryz.results44, go_sem, c_21, c_22]) rfl ⟨by show _ = Ending.returned (.tuple #[Word 0, .int .i64 0]); simp [Word], HE.out⟩
def rnd (E P b m : Nat) (q : Rat) (l : Int) : Nat × Nat := if q = 0 then (0, 0) else roundR E P b m q l
theorem rnd_c (E P b m : Nat) (x : Value) (q : Rat) (l : Int) (K : Nat) (w : World) (hF : Fmt E P) (hm : m ≤ 4) (hb : b = bias E) (hx : NumV w x q) (sx : SmQ K q) (hK : K ≤ 12000) (hl : q ≠ 0 → IsLog (absQ q) l) (hT : Tabs w) :
  Calls Tryz.prog 44 #[.agg #[.int .i64 E, .int .i64 P, .int .i64 m, .int .i64 b], x] w (EndPost (rnd E P b m q l) w) := by
 unfold rnd
 by_cases h : q = 0
 ·subst h
  rw [if_pos rfl]
  exact round_zero E P b m x w hF hx
 ·rw [if_neg h]
  exact round_c E P b m x q l K w hF hm hb hx sx hK (fun e => h (Rat.num_eq_zero.1 e)) (hl h) hT
theorem log_there (q : Rat) : ∃ l, q ≠ 0 → IsLog (absQ q) l := by
 by_cases h : q = 0
 ·exact ⟨0, fun h' => absurd h h'⟩
 ·exact ⟨_, fun _ => log_is (absQ_num_pos (fun e => h (Rat.num_eq_zero.1 e))) _ rfl⟩
end Go.Proofs.YtopmjkkjlagfcaaGreatDoor

/- floats: Round, number, Near (of a format and a mode that are valid). -/
namespace Go.Proofs.YtopmjkkjlagfcaaGreatDoor
open Go.RowKit Vn
def RoundPost (r : Nat × Nat) (z : Int) (w : World) (e : Ending) (w' : World) : Prop := e = .returned (.tuple #[Word r.1, .int .i64 (r.2 : Nat), .int .i64 z]) ∧ Ext w w'
def numberR (E P n : Nat) : Rat × Int := if (valueR E P n).2 ≠ 0 then (0, 7) else ((valueR E P n).1, 0)
set_option maxRecDepth 100000 in
set_option maxHeartbeats 4000000 in
theorem Round_good (E P m : Nat) (x : Value) (q : Rat) (l : Int) (K : Nat) (w : World) (hF : Fmt E P) (hm : m ≤ 4) (hx : NumV w x q) (sx : SmQ K q) (hK : K ≤ 12000) (hl : q ≠ 0 → IsLog (absQ q) l) (hT : Tabs w) :
  Calls Tryz.prog 15 #[.agg #[.int .i64 (E : Nat), .int .i64 (P : Nat)], .int .i64 (m : Nat), x] w fun e w' => RoundPost (rnd E P (bias E) m q l) 0 w e w' := by
 obtain ⟨ng, a, n, c, a', n', c', rfl⟩ := hx.shape
 have HX := hid hx
 have CR : Hid (∀ w, NumV w _ q → Tabs w → _) := hid fun w h hT => rnd_c E P (bias E) m (.agg #[.bool ng, .slice a n c, .slice a' n' c']) q l K w hF hm rfl h sx hK hl hT
 have HT := hid hT; have HF := hid hF; have HM := hid hm
 have HW : Hid (withRes E P m [] = .tuple #[.agg #[.int .i64 (E : Nat), .int .i64 (P : Nat), .int .i64 (m : Nat), .int .i64 (bias E : Nat)], .int .i64 0]) := hid (by unfold withRes; rw [if_pos (fun x hx => by simp at hx)])
 obtain ⟨r0, r1, er⟩ := Word.shape (rnd E P (bias E) m q l).1
 have Er := hid er
 clear hx sx hK hl hT hF hm er
 obtain ⟨W0, hW0, g0, hz0, B_F, B_X, B_Z⟩ := pro3s w #[.int .i64 (E : Nat), .int .i64 (P : Nat)] #[.bool ng, .slice a n c, .slice a' n' c'] #[.int .u64 0, .int .u64 0] 23 40 29
 have HE := hid g0
 have HB_F := hid B_F
 have HB_X := hid B_X
 have HB_Z := hid B_Z
 clear g0 B_F B_X B_Z 
 go_enter Tryz.func15, Tryz.ntmps15
 go_upto_region 1 with (fail)
 rw [← hW0]
 clear hW0
 have hx := HX.out.ext HE.out
 obtain ⟨c_1, c_2⟩ := HB_F.out.c2
 obtain ⟨c_3, c_4, c_5⟩ := HB_X.out.c3
 obtain ⟨c_6, c_7⟩ := HB_Z.out.c2
 go_wp2_with fail
 clear c_1 c_2 c_3 c_4 c_5 c_6 c_7
 refine (with_good E P m _ [] _ HM.out HF.out (WSl.nil _)).mono ?_
 rintro e w1 ⟨rfl, g1⟩
 have hz_w1 := g1.size
 replace HE := hid (HE.out.trans g1)
 replace HB_F := hid (HB_F.out.ext g1)
 replace HB_X := hid (HB_X.out.ext g1)
 replace HB_Z := hid (HB_Z.out.ext g1)
 replace hx := hx.ext g1
 rw [HW.out]
 have gA := Ext.alloc w1 (.cells #[.int .i64 (E : Nat), .int .i64 (P : Nat), .int .i64 (m : Nat), .int .i64 (bias E : Nat)] 81)
 obtain ⟨c_8, c_9⟩ := (HB_F.out.ext gA).c2
 obtain ⟨c_10, c_11, c_12⟩ := (HB_X.out.ext gA).c3
 obtain ⟨c_13, c_14⟩ := (HB_Z.out.ext gA).c2
 go_wp2_with fail
 clear gA c_8 c_9 c_10 c_11 c_12 c_13 c_14
 obtain ⟨W2, hW2, g2, hy2, B_M⟩ := pro1 w1 #[.int .i64 (E : Nat), .int .i64 (P : Nat), .int .i64 (m : Nat), .int .i64 (bias E : Nat)] 81
 rw [← hW2]
 clear hW2
 have hz_W2 := g2.size
 replace HE := hid (HE.out.trans g2)
 replace HB_F := hid (HB_F.out.ext g2)
 replace HB_X := hid (HB_X.out.ext g2)
 replace HB_Z := hid (HB_Z.out.ext g2)
 replace hx := hx.ext g2
 have HB_M := hid B_M
 clear B_M
 refine (CR.out _ hx (HT.out.ext HE.out)).mono ?_
 rintro e w3 ⟨rfl, g3⟩
 have hz_w3 := g3.size
 replace HE := hid (HE.out.trans g3)
 replace HB_F := hid (HB_F.out.ext g3)
 replace HB_X := hid (HB_X.out.ext g3)
 replace HB_Z := hid (HB_Z.out.ext g3)
 replace HB_M := hid (HB_M.out.ext g3)
 replace hx := hx.ext g3
 rw [Er.out]
 obtain ⟨c_15, c_16⟩ := HB_F.out.c2
 obtain ⟨c_17, c_18, c_19⟩ := HB_X.out.c3
 obtain ⟨c_20, c_21⟩ := HB_Z.out.c2
 obtain ⟨c_22, c_23, c_24, c_25⟩ := HB_M.out.c4
 obtain ⟨f_26, f_27⟩ := HB_Z.out.f2
 go_wp2_with fail
 clear c_15 c_16 c_17 c_18 c_19 c_20 c_21 c_22 c_23 c_24 c_25 f_26 f_27
 obtain ⟨W4, hW4, g4, q4, B4, hy4, ho4⟩ := sto2 HE.out (by omega) HB_Z.out (by decide) (.int .u64 r0) (.int .u64 r1)
 rw [← hW4]
 clear hW4
 replace HE := hid g4
 replace HB_F := hid (ho4 _ _ _ (by omega) HB_F.out)
 replace HB_X := hid (ho4 _ _ _ (by omega) HB_X.out)
 replace HB_M := hid (ho4 _ _ _ (by omega) HB_M.out)
 replace HB_Z := hid B4
 replace hx := hx.keep q4
 obtain ⟨W5, hW5, g5, q5, B5, hy5, ho5⟩ := sto2 HE.out (by omega) HB_Z.out (by decide) (.int .u64 r0) (.int .u64 r1)
 rw [← hW5]
 clear hW5
 replace HE := hid g5
 replace HB_F := hid (ho5 _ _ _ (by omega) HB_F.out)
 replace HB_X := hid (ho5 _ _ _ (by omega) HB_X.out)
 replace HB_M := hid (ho5 _ _ _ (by omega) HB_M.out)
 replace HB_Z := hid B5
 replace hx := hx.keep q5
 unfold RoundPost
 obtain ⟨c_28, c_29⟩ := HB_Z.out.c2
 refine bodyPost_ret (v := .tuple #[.agg #[.int .u64 r0, .int .u64 r1], .int .i64 ((rnd E P (bias E) m q l).2 : Nat), .int .i64 0]) (by simp [results, Tryz.results15, go_sem, c_28, c_29]) rfl ⟨by rw [Er.out], HE.out⟩
set_option maxRecDepth 100000 in
set_option maxHeartbeats 4000000 in
theorem number_good (E P n : Nat) (w : World) (hF : Fmt E P) (hn : W128 n) :
  Calls Tryz.prog 134 #[.agg #[.int .i64 (E : Nat), .int .i64 (P : Nat)], Word n, .int .i64 0] w fun e w' => NumErr (numberR E P n).1 (numberR E P n).2 w e w' := by
 obtain ⟨n0, n1, en⟩ := Word.shape n
 have CV : Hid (∀ w, Calls Tryz.prog 18 #[.agg #[.int .i64 (E : Nat), .int .i64 (P : Nat)], .agg #[.int .u64 n0, .int .u64 n1]] w (NumErr (valueR E P n).1 (valueR E P n).2 w)) := hid fun w => by rw [← en]; exact Value_good E P n w hF hn
 rw [en]
 clear hF hn en
 have HNR : Hid (numberR E P n = if (valueR E P n).2 ≠ 0 then (0, 7) else ((valueR E P n).1, 0)) := hid rfl
 obtain ⟨W0, hW0, g0, hz0, B_F, B_W, B_Z⟩ := pro3s w #[.int .i64 (E : Nat), .int .i64 (P : Nat)] #[.int .u64 n0, .int .u64 n1] #[.bool false, .slice none 0 0, .slice none 0 0] 23 29 40
 have HE := hid g0
 have HB_F := hid B_F
 have HB_W := hid B_W
 have HB_Z := hid B_Z
 clear g0 B_F B_W B_Z 
 go_enter Tryz.func134, Tryz.ntmps134
 go_upto_region 1 with (fail)
 rw [← hW0]
 clear hW0
 obtain ⟨c_1, c_2⟩ := HB_F.out.c2
 obtain ⟨c_3, c_4⟩ := HB_W.out.c2
 obtain ⟨c_5, c_6, c_7⟩ := HB_Z.out.c3
 go_wp2_with fail
 clear c_1 c_2 c_3 c_4 c_5 c_6 c_7
 refine (CV.out _).mono ?_
 rintro e w1 ⟨v1, rfl, kv, g1⟩
 have hz_w1 := g1.size
 replace HE := hid (HE.out.trans g1)
 replace HB_F := hid (HB_F.out.ext g1)
 replace HB_W := hid (HB_W.out.ext g1)
 replace HB_Z := hid (HB_Z.out.ext g1)
 generalize (valueR E P n).2 = z at *
 generalize (valueR E P n).1 = q at *
 obtain ⟨ng, a, k, c, a', k', c', rfl⟩ := kv.shape
 by_cases hz : z = 0
 ·subst hz
  have HR : Hid (numberR E P n = (q, 0)) := hid (by rw [HNR.out]; simp)
  have gA := Ext.alloc w1 (.cells #[.bool ng, .slice a k c, .slice a' k' c'] 40)
  obtain ⟨c_8, c_9, c_10⟩ := (HB_Z.out.ext gA).c3
  obtain ⟨f_11, f_12, f_13⟩ := (HB_Z.out.ext gA).f3
  go_wp2_with fail
  clear gA c_8 c_9 c_10 f_11 f_12 f_13
  obtain ⟨W2, hW2, g2, hy2, B_X⟩ := pro1 w1 #[.bool ng, .slice a k c, .slice a' k' c'] 40
  rw [← hW2]
  clear hW2
  have hz_W2 := g2.size
  replace HE := hid (HE.out.trans g2)
  replace HB_F := hid (HB_F.out.ext g2)
  replace HB_W := hid (HB_W.out.ext g2)
  replace HB_Z := hid (HB_Z.out.ext g2)
  replace kv := kv.ext g2
  have HB_X := hid B_X
  clear B_X
  obtain ⟨W3, hW3, g3, q3, B3, hy3, ho3⟩ := sto3 HE.out (by omega) HB_Z.out (by decide) (.bool ng) (.slice a k c) (.slice a' k' c')
  rw [← hW3]
  clear hW3
  replace HE := hid g3
  replace HB_F := hid (ho3 _ _ _ (by omega) HB_F.out)
  replace HB_W := hid (ho3 _ _ _ (by omega) HB_W.out)
  replace HB_X := hid (ho3 _ _ _ (by omega) HB_X.out)
  replace HB_Z := hid B3
  replace kv := kv.keep q3
  unfold NumErr
  rw [HR.out]
  obtain ⟨c_14, c_15, c_16⟩ := HB_Z.out.c3
  refine bodyPost_ret (v := .tuple #[.agg #[.bool ng, .slice a k c, .slice a' k' c'], .int .i64 0]) (by simp [results, Tryz.results134, go_sem, c_14, c_15, c_16]) rfl ⟨_, rfl, kv, HE.out⟩
 ·have hb : (z == 0) = false := beq_eq_false_iff_ne.2 hz
  have HR : Hid (numberR E P n = (0, 7)) := hid (by rw [HNR.out, if_pos hz])
  clear hz
  have gA := Ext.alloc w1 (.cells #[.bool ng, .slice a k c, .slice a' k' c'] 40)
  obtain ⟨c_8, c_9, c_10⟩ := (HB_Z.out.ext gA).c3
  obtain ⟨f_11, f_12, f_13⟩ := (HB_Z.out.ext gA).f3
  go_wp2_with fail
  clear gA c_8 c_9 c_10 f_11 f_12 f_13
  obtain ⟨W2, hW2, g2, hy2, B_X⟩ := pro1 w1 #[.bool ng, .slice a k c, .slice a' k' c'] 40
  rw [← hW2]
  clear hW2
  have hz_W2 := g2.size
  replace HE := hid (HE.out.trans g2)
  replace HB_F := hid (HB_F.out.ext g2)
  replace HB_W := hid (HB_W.out.ext g2)
  replace HB_Z := hid (HB_Z.out.ext g2)
  replace kv := kv.ext g2
  have HB_X := hid B_X
  clear B_X
  obtain ⟨W3, hW3, g3, q3, B3, hy3, ho3⟩ := sto3 HE.out (by omega) HB_Z.out (by decide) (.bool false) (.slice none 0 0) (.slice none 0 0)
  rw [← hW3]
  clear hW3
  replace HE := hid g3
  replace HB_F := hid (ho3 _ _ _ (by omega) HB_F.out)
  replace HB_W := hid (ho3 _ _ _ (by omega) HB_W.out)
  replace HB_X := hid (ho3 _ _ _ (by omega) HB_X.out)
  replace HB_Z := hid B3
  replace kv := kv.keep q3
  unfold NumErr
  rw [HR.out]
  obtain ⟨c_14, c_15, c_16⟩ := HB_Z.out.c3
  refine bodyPost_ret (v := .tuple #[.agg #[.bool false, .slice none 0 0, .slice none 0 0], .int .i64 7]) (by simp [results, Tryz.results134, go_sem, c_14, c_15, c_16]) rfl ⟨_, rfl, NumV.zero _, HE.out⟩
set_option maxRecDepth 100000 in
set_option maxHeartbeats 4000000 in
theorem Near_good (E P m : Nat) (x : Value) (q : Rat) (l : Int) (K : Nat) (w : World) (hF : Fmt E P) (hm : m ≤ 4) (hx : NumV w x q) (sx : SmQ K q) (hK : K ≤ 12000) (hl : q ≠ 0 → IsLog (absQ q) l) (hT : Tabs w) (hn : W128 (rnd E P (bias E) m q l).1) :
  Calls Tryz.prog 66 #[.agg #[.int .i64 (E : Nat), .int .i64 (P : Nat)], .int .i64 (m : Nat), x] w fun e w' => NumErr (numberR E P (rnd E P (bias E) m q l).1).1 (numberR E P (rnd E P (bias E) m q l).1).2 w e w' := by
 obtain ⟨ng, a, n, c, a', n', c', rfl⟩ := hx.shape
 have HX := hid hx
 have CR : Hid (∀ w, NumV w _ q → Tabs w → _) := hid fun w h hT => Round_good E P m (.agg #[.bool ng, .slice a n c, .slice a' n' c']) q l K w hF hm h sx hK hl hT
 obtain ⟨r0, r1, er⟩ := Word.shape (rnd E P (bias E) m q l).1
 have CN : Hid (∀ w, Calls Tryz.prog 134 #[.agg #[.int .i64 (E : Nat), .int .i64 (P : Nat)], .agg #[.int .u64 r0, .int .u64 r1], .int .i64 0] w (NumErr (numberR E P (rnd E P (bias E) m q l).1).1 (numberR E P (rnd E P (bias E) m q l).1).2 w)) := hid fun w => by rw [← er]; exact number_good E P _ w hF hn
 have HT := hid hT
 have Er := hid er
 clear hx sx hK hl hT hF hm er hn
 obtain ⟨W0, hW0, g0, hz0, B_F, B_X, B_Z⟩ := pro3s w #[.int .i64 (E : Nat), .int .i64 (P : Nat)] #[.bool ng, .slice a n c, .slice a' n' c'] #[.bool false, .slice none 0 0, .slice none 0 0] 23 40 40
 have HE := hid g0
 have HB_F := hid B_F
 have HB_X := hid B_X
 have HB_Z := hid B_Z
 clear g0 B_F B_X B_Z 
 go_enter Tryz.func66, Tryz.ntmps66
 go_upto_region 1 with (fail)
 rw [← hW0]
 clear hW0
 have hx := HX.out.ext HE.out
 obtain ⟨c_1, c_2⟩ := HB_F.out.c2
 obtain ⟨c_3, c_4, c_5⟩ := HB_X.out.c3
 obtain ⟨c_6, c_7, c_8⟩ := HB_Z.out.c3
 go_wp2_with fail
 clear c_1 c_2 c_3 c_4 c_5 c_6 c_7 c_8
 refine (CR.out _ hx (HT.out.ext HE.out)).mono ?_
 rintro e w1 ⟨rfl, g1⟩
 have hz_w1 := g1.size
 replace HE := hid (HE.out.trans g1)
 replace HB_F := hid (HB_F.out.ext g1)
 replace HB_X := hid (HB_X.out.ext g1)
 replace HB_Z := hid (HB_Z.out.ext g1)
 rw [Er.out]
 have gA := Ext.alloc w1 (.cells #[.int .u64 r0, .int .u64 r1] 29)
 obtain ⟨c_9, c_10⟩ := (HB_F.out.ext gA).c2
 obtain ⟨c_11, c_12, c_13⟩ := (HB_X.out.ext gA).c3
 obtain ⟨c_14, c_15, c_16⟩ := (HB_Z.out.ext gA).c3
 go_wp2_with fail
 clear gA c_9 c_10 c_11 c_12 c_13 c_14 c_15 c_16
 obtain ⟨W2, hW2, g2, hy2, B_W⟩ := pro1 w1 #[.int .u64 r0, .int .u64 r1] 29
 rw [← hW2]
 clear hW2
 have hz_W2 := g2.size
 replace HE := hid (HE.out.trans g2)
 replace HB_F := hid (HB_F.out.ext g2)
 replace HB_X := hid (HB_X.out.ext g2)
 replace HB_Z := hid (HB_Z.out.ext g2)
 have HB_W := hid B_W
 clear B_W
 refine (CN.out _).mono ?_
 rintro e w3 ⟨v1, rfl, kv, g3⟩
 have hz_w3 := g3.size
 replace HE := hid (HE.out.trans g3)
 replace HB_F := hid (HB_F.out.ext g3)
 replace HB_X := hid (HB_X.out.ext g3)
 replace HB_Z := hid (HB_Z.out.ext g3)
 replace HB_W := hid (HB_W.out.ext g3)
 obtain ⟨mg, d, k, e, d', k', e', rfl⟩ := kv.shape
 obtain ⟨c_17, c_18, c_19⟩ := HB_Z.out.c3
 obtain ⟨f_20, f_21, f_22⟩ := HB_Z.out.f3
 go_wp2_with fail
 clear c_17 c_18 c_19 f_20 f_21 f_22
 obtain ⟨W4, hW4, g4, q4, B4, hy4, ho4⟩ := sto3 HE.out (by omega) HB_Z.out (by decide) (.bool mg) (.slice d k e) (.slice d' k' e')
 rw [← hW4]
 clear hW4
 replace HE := hid g4
 replace HB_F := hid (ho4 _ _ _ (by omega) HB_F.out)
 replace HB_X := hid (ho4 _ _ _ (by omega) HB_X.out)
 replace HB_W := hid (ho4 _ _ _ (by omega) HB_W.out)
 replace HB_Z := hid B4
 replace kv := kv.keep q4
 unfold NumErr
 obtain ⟨c_23, c_24, c_25⟩ := HB_Z.out.c3
 refine bodyPost_ret (v := .tuple #[.agg #[.bool mg, .slice d k e, .slice d' k' e'], .int .i64 (numberR E P (rnd E P (bias E) m q l).1).2]) (by simp [results, Tryz.results66, go_sem, c_23, c_24, c_25]) rfl ⟨_, rfl, kv, HE.out⟩
end Go.Proofs.YtopmjkkjlagfcaaGreatDoor

/- floats: Value, of whatever format. -/
namespace Go.Proofs.YtopmjkkjlagfcaaGreatDoor
open Go.RowKit Vn
theorem Box.c9 {w : World} {b : Nat} {x0 x1 x2 x3 x4 x5 x6 x7 x8 : Value} {t : TypeId} (h : Box w b #[x0, x1, x2, x3, x4, x5, x6, x7, x8] t) :
  w.cell? ⟨b, 0, none⟩ = some x0 ∧ w.cell? ⟨b, 1, none⟩ = some x1 ∧ w.cell? ⟨b, 2, none⟩ = some x2 ∧ w.cell? ⟨b, 3, none⟩ = some x3 ∧ w.cell? ⟨b, 4, none⟩ = some x4 ∧ w.cell? ⟨b, 5, none⟩ = some x5 ∧ w.cell? ⟨b, 6, none⟩ = some x6 ∧ w.cell? ⟨b, 7, none⟩ = some x7 ∧ w.cell? ⟨b, 8, none⟩ = some x8 :=
 ⟨h.cell 0, h.cell 1, h.cell 2, h.cell 3, h.cell 4, h.cell 5, h.cell 6, h.cell 7, h.cell 8⟩
def valueZ (E P : Int) (n : Nat) : Rat × Int := if Fmt E P then valueR E.toNat P.toNat n else (0, 2)
theorem Value_c (E P : Int) (n : Nat) (w : World) (hn : W128 n) :
  Calls Tryz.prog 18 #[.agg #[.int .i64 E, .int .i64 P], Word n] w (NumErr (valueZ E P n).1 (valueZ E P n).2 w) := by
 unfold valueZ
 by_cases h : Fmt E P
 ·rw [if_pos h]
  obtain ⟨e, rfl⟩ := Int.eq_ofNat_of_zero_le (show 0 ≤ E by unfold Fmt at h; omega)
  obtain ⟨p, rfl⟩ := Int.eq_ofNat_of_zero_le (show 0 ≤ P by unfold Fmt at h; omega)
  exact Value_good e p n w h hn
 ·rw [if_neg h]
  exact Value_bad E P n w h
end Go.Proofs.YtopmjkkjlagfcaaGreatDoor

/- Plain: what the words of results stand for; a difference of near values. -/
namespace Go.Proofs.YtopmjkkjlagfcaaGreatDoor
open Go.RowKit Vn
theorem fin_wf {E P n : Nat} (h : wkind E P n ≤ 2) : wf E P n ≠ 2 ^ E - 1 := by
 intro e
 unfold wkind at h
 rw [if_pos e] at h
 split at h
 ·omega
 ·split at h <;> omega
theorem wvalK_fin {E P b n : Nat} (h : wkind E P n ≤ 2) : wvalK E P b n = wval E P b n := by
 unfold wvalK
 by_cases h2 : wkind E P n = 2
 ·rw [if_pos h2]
 ·rw [if_neg h2, if_neg (by omega), if_neg (by omega)]
  have hk : wf E P n = 0 ∧ wr P n = 0 := by
   have hne := fin_wf h
   unfold wkind at h2
   rw [if_neg hne] at h2
   by_cases h3 : wf E P n = 0 ∧ wr P n = 0
   ·exact h3
   ·rw [if_neg h3] at h2; exact absurd rfl h2
  unfold wval wfr
  rw [if_pos hk.1, hk.2]
  grind
theorem wordN_lt {E P : Nat} (h1 : 1 ≤ E + P) (neg : Bool) {n f : Nat} (h : n + f * 2 ^ (P - 1) < 2 ^ (E + P - 1)) : wordN E P neg n f < 2 ^ (E + P) := by
 rw [wordN_eq neg h]
 have h3 : 2 ^ (E + P) = 2 * 2 ^ (E + P - 1) := by rw [← Nat.pow_succ']; congr 1; omega
 cases neg
 ·simp; omega
 ·simp; omega
theorem sgb_word (E P : Nat) (s : Bool) : sgb E P s = wordN E P s 0 0 := by unfold wordN; simp
theorem wvalK_sm {E P n : Nat} (hF : Fmt E P) (h : wkind E P n ≤ 2) : SmQ 5000 (wvalK E P (bias E) n) := by
 have hE : 2 ≤ E ∧ E ≤ 11 := by unfold Fmt at hF; omega
 have hP : 2 ≤ P ∧ P ≤ 113 := by unfold Fmt at hF; omega
 rw [wvalK_fin h]
 have h1 := wfr_lt (E := E) (P := P) (n := n) (by omega)
 have hf : wf E P n < 2 ^ E := Nat.mod_lt _ (Nat.pow_pos (by decide))
 have h2 : 2 ^ E ≤ 2048 := Nat.pow_le_pow_right (n := 2) (j := 11) (by decide) hE.2
 have hb : bias E ≤ 1023 := by
  have : 2 ^ (E - 1) ≤ 1024 := Nat.pow_le_pow_right (n := 2) (j := 10) (by decide) (by omega)
  unfold bias; omega
 have s1 : SmQ 113 ((wfr E P n : Nat) : Rat) := SmQ.nat (by decide) (Nat.lt_of_lt_of_le h1 (Nat.pow_le_pow_right (by decide) hP.2))
 have s2 := s1.mul_p2 (2 - (bias E : Int) - P + ((max (wf E P n) 1 - 1 : Nat) : Int)) 3500 (by omega)
 have s3 : SmQ 5000 (((wfr E P n : Nat) : Rat) * (2 : Rat) ^ (2 - (bias E : Int) - P + ((max (wf E P n) 1 - 1 : Nat) : Int))) := s2.mono (by decide)
 unfold wval
 split
 ·have := s3.neg
  rwa [show -(((wfr E P n : Nat) : Rat) * (2 : Rat) ^ (2 - (bias E : Int) - P + ((max (wf E P n) 1 - 1 : Nat) : Int))) = -1 * (((wfr E P n : Nat) : Rat) * (2 : Rat) ^ (2 - (bias E : Int) - P + ((max (wf E P n) 1 - 1 : Nat) : Int))) from by grind] at this
 ·rwa [Rat.one_mul]
theorem SmQ.zero (K : Nat) (h : 0 < K) : SmQ K 0 := SmQ.nat (n := 0) h (Nat.pow_pos (by decide))
theorem valueZ_cases (E P : Int) (n : Nat) : (valueZ E P n).2 = 0 ∨ (valueZ E P n).2 = 2 ∨ (valueZ E P n).2 = 4 ∨ (valueZ E P n).2 = 6 := by
 unfold valueZ valueR
 split
 ·split
  ·simp
  ·split <;> simp
 ·simp
theorem valueZ_ok {E P : Int} {n : Nat} (h : (valueZ E P n).2 = 0) : Fmt E P ∧ n < 2 ^ (E.toNat + P.toNat) ∧ wkind E.toNat P.toNat n ≤ 2 ∧ (valueZ E P n).1 = wvalK E.toNat P.toNat (bias E.toNat) n := by
 unfold valueZ valueR at h ⊢
 by_cases hF : Fmt E P
 ·rw [if_pos hF] at h ⊢
  by_cases h1 : n < 2 ^ (E.toNat + P.toNat)
  ·rw [if_neg (fun k => k h1)] at h ⊢
   by_cases h2 : 2 < wkind E.toNat P.toNat n
   ·rw [if_pos h2] at h; simp at h
   ·rw [if_neg h2]; exact ⟨hF, h1, by omega, rfl⟩
  ·rw [if_pos h1] at h; simp at h
 ·rw [if_neg hF] at h; simp at h
theorem valueZ_sm (E P : Int) (n : Nat) : SmQ 5000 (valueZ E P n).1 := by
 by_cases h : (valueZ E P n).2 = 0
 ·obtain ⟨hF, h1, h2, h3⟩ := valueZ_ok h
  rw [h3]
  refine wvalK_sm ?_ h2
  obtain ⟨e, rfl⟩ := Int.eq_ofNat_of_zero_le (show 0 ≤ E by unfold Fmt at hF; omega)
  obtain ⟨p, rfl⟩ := Int.eq_ofNat_of_zero_le (show 0 ≤ P by unfold Fmt at hF; omega)
  exact hF
 ·have : (valueZ E P n).1 = 0 := by
   unfold valueZ valueR at h ⊢
   split
   ·rename_i hF
    rw [if_pos hF] at h
    split
    ·rfl
    ·rename_i h1
     rw [if_neg h1] at h
     split
     ·rfl
     ·rename_i h2; rw [if_neg h2] at h; exact absurd rfl h
   ·rfl
  rw [this]; exact SmQ.zero _ (by decide)
end Go.Proofs.YtopmjkkjlagfcaaGreatDoor
