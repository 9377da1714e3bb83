/- floats: Value. -/
import Derived.Test.YtpdjenblkgaffaaGreatDoorM38
import Derived.Test.YtpdjenblkgaffaaGreatDoorM36
import Derived.Test.YtpdjenblkgaffaaGreatDoorM34
namespace Go.Proofs.YtpdjenblkgaffaaGreatDoor
open Go.RowKit Vn

theorem wkind_cases (E P n : Nat) : wkind E P n = 3 ∨ wkind E P n = 4 ∨ wkind E P n = 5 ∨ wkind E P n = 1 ∨ wkind E P n = 2 := by
  unfold wkind
  split
  · split
    · simp
    · split <;> simp
  · split <;> simp
/-- the number and the error of a word. -/
def valueR (E P n : Nat) : Rat × Int := if ¬ n < 2 ^ (E + P) then (0, 6) else if 2 < wkind E P n then (0, 4) else (wvalK E P (bias E) n, 0)
def NumErr (q : Rat) (z : Int) (w : World) (e : Ending) (w' : World) : Prop := ∃ v, e = .returned (.tuple #[v, .int .i64 z]) ∧ NumV w' v q ∧ Ext w w'

set_option maxRecDepth 100000 in
set_option maxHeartbeats 4000000 in
theorem Value_good (E P n : Nat) (w : World) (hF : Fmt E P) (hn : W128 n) :
   Calls Tryz.prog 11 #[.agg #[.int .i64 (E : Nat), .int .i64 (P : Nat)], Word n] w fun e w' => NumErr (valueR E P n).1 (valueR E P n).2 w e w' := by
  obtain ⟨n0, hn0⟩ : ∃ n0 : Nat, n0 = n / 18446744073709551616 := ⟨_, rfl⟩
  obtain ⟨n1, hn1⟩ : ∃ n1 : Nat, n1 = n % 18446744073709551616 := ⟨_, rfl⟩
  have en : Word n = .agg #[.int .u64 n0, .int .u64 n1] := by unfold Word; rw [← hn0, ← hn1]
  have CL : Hid (∀ w, Calls Tryz.prog 36 #[.agg #[.int .i64 (E : Nat), .int .i64 (P : Nat), .int .i64 (0 : Nat), .int .i64 (bias E : Nat)], .agg #[.int .u64 n0, .int .u64 n1]] w (LookPost (wkind E P n) (wn E P n) (wvalK E P (bias E) n) w)) := hid fun w => by
    rw [← en]; exact look_c E P 0 (bias E) n w hF (by
      have : 2 ^ (E - 1) ≤ 1024 := Nat.pow_le_pow_right (n := 2) (by decide) (show E - 1 ≤ 10 by unfold Fmt at hF; omega)
      unfold bias; omega) hn
  rw [en]
  have HF := hid hF; have HN := hid hn; have HN0 := hid hn0; have HN1 := hid hn1
  clear hF hn hn0 hn1 en
  obtain ⟨W0, hW0, g0, hz0, B_F, B_W, B_Z⟩ := pro3s w #[.int .i64 (E : Nat), .int .i64 (P : Nat)] #[.int .u64 n0, .int .u64 n1] #[.bool false, .slice none 0 0, .slice none 0 0] 23 26 32
  have HE := hid g0
  have HB_F := hid B_F
  have HB_W := hid B_W
  have HB_Z := hid B_Z
  clear g0 B_F B_W B_Z 
  go_enter Tryz.func11, Tryz.ntmps11
  go_upto_region 1 with (fail)
  rw [← hW0]
  clear hW0
  obtain ⟨c_1, c_2⟩ := HB_F.out.c2
  obtain ⟨c_3, c_4⟩ := HB_W.out.c2
  obtain ⟨c_5, c_6, c_7⟩ := HB_Z.out.c3
  go_wp2_with fail
  clear c_1 c_2 c_3 c_4 c_5 c_6 c_7
  obtain ⟨W1, hW1, g1, hy1, B_R⟩ := pro1 W0 #[.int .u64 n0, .int .u64 n1] 26
  rw [← hW1]
  clear hW1
  have hz_W1 := g1.size
  replace HE := hid (HE.out.trans g1)
  replace HB_F := hid (HB_F.out.ext g1)
  replace HB_W := hid (HB_W.out.ext g1)
  replace HB_Z := hid (HB_Z.out.ext g1)
  have HB_R := hid B_R
  clear B_R
  have HWS : Hid (WSl W1 (.slice (some ⟨W0.heap.size, 0, none⟩) 1 1) [n]) := hid ⟨some ⟨W0.heap.size, 0, none⟩, W0.heap.size, 0, 1, rfl, Nat.le_refl _, by decide, fun _ => rfl, fun x hx => by
      rw [List.mem_singleton] at hx; rw [hx]; exact HN.out, fun i hi => by
      obtain rfl : i = 0 := by simpa using hi
      refine ⟨?_, ?_⟩
      · have := HB_R.out.cell 0; rw [HN0.out] at this; exact this
      · have := HB_R.out.cell 1; rw [HN1.out] at this; exact this⟩
  by_cases hfit : n < 2 ^ (E + P)
  · have HW : Hid (withRes E P 0 [n] = .tuple #[.agg #[.int .i64 (E : Nat), .int .i64 (P : Nat), .int .i64 (0 : Nat), .int .i64 (bias E : Nat)], .int .i64 0]) := hid (by unfold withRes; rw [if_pos (fun x hx => by rw [List.mem_singleton] at hx; rw [hx]; exact hfit)])
    have Hfit := hid hfit
    clear hfit
    refine (with_good E P 0 _ [n] _ (by decide) HF.out HWS.out).mono ?_
    rintro e w2 ⟨rfl, g2⟩
    have hz_w2 := g2.size
    replace HE := hid (HE.out.trans g2)
    replace HB_F := hid (HB_F.out.ext g2)
    replace HB_W := hid (HB_W.out.ext g2)
    replace HB_Z := hid (HB_Z.out.ext g2)
    rw [HW.out]
    have gA := Ext.alloc w2 (.cells #[.int .i64 (E : Nat), .int .i64 (P : Nat), .int .i64 0, .int .i64 (bias E : Nat)] 63)
    obtain ⟨c_8, c_9⟩ := (HB_F.out.ext gA).c2
    obtain ⟨c_10, c_11⟩ := (HB_W.out.ext gA).c2
    obtain ⟨c_12, c_13, c_14⟩ := (HB_Z.out.ext gA).c3
    go_wp2_with fail
    clear gA c_8 c_9 c_10 c_11 c_12 c_13 c_14
    obtain ⟨W3, hW3, g3, hy3, B_M⟩ := pro1 w2 #[.int .i64 (E : Nat), .int .i64 (P : Nat), .int .i64 0, .int .i64 (bias E : Nat)] 63
    rw [← hW3]
    clear hW3
    have hz_W3 := g3.size
    replace HE := hid (HE.out.trans g3)
    replace HB_F := hid (HB_F.out.ext g3)
    replace HB_W := hid (HB_W.out.ext g3)
    replace HB_Z := hid (HB_Z.out.ext g3)
    have HB_M := hid B_M
    clear B_M
    refine (CL.out _).mono ?_
    rintro e w4 ⟨v1, rfl, ⟨ng, a, k, c, a', k', c', rfl, kv⟩, g4⟩
    have hz_w4 := g4.size
    replace HE := hid (HE.out.trans g4)
    replace HB_F := hid (HB_F.out.ext g4)
    replace HB_W := hid (HB_W.out.ext g4)
    replace HB_Z := hid (HB_Z.out.ext g4)
    replace HB_M := hid (HB_M.out.ext g4)
    have HKd : Hid (wkind E P n = 3 ∨ wkind E P n = 4 ∨ wkind E P n = 5 ∨ wkind E P n = 1 ∨ wkind E P n = 2) := hid (wkind_cases E P n)
    have HV : Hid (valueR E P n = if 2 < wkind E P n then (0, 4) else (wvalK E P (bias E) n, 0)) := hid (by unfold valueR; rw [if_neg (fun h => h Hfit.out)])
    generalize wkind E P n = kd at *
    generalize wn E P n = sg at *
    by_cases h2 : 2 < kd
    · have hd : decide (2 < kd) = true := decide_eq_true h2
      have HV2 : Hid (valueR E P n = (0, 4)) := hid (by rw [HV.out, if_pos h2])
      clear h2
      have gA := Ext.alloc w4 (.cells #[.int .i64 kd, .bool sg, .bool ng, .slice a k c, .slice a' k' c'] 74)
      obtain ⟨c_15, c_16, c_17⟩ := (HB_Z.out.ext gA).c3
      obtain ⟨f_18, f_19, f_20⟩ := (HB_Z.out.ext gA).f3
      go_wp2_with fail
      clear gA c_15 c_16 c_17 f_18 f_19 f_20
      obtain ⟨W5, hW5, g5, hy5, B_X⟩ := pro1 w4 #[.int .i64 kd, .bool sg, .bool ng, .slice a k c, .slice a' k' c'] 74
      rw [← hW5]
      clear hW5
      have hz_W5 := g5.size
      replace HE := hid (HE.out.trans g5)
      replace HB_F := hid (HB_F.out.ext g5)
      replace HB_W := hid (HB_W.out.ext g5)
      replace HB_Z := hid (HB_Z.out.ext g5)
      replace HB_M := hid (HB_M.out.ext g5)
      replace kv := kv.ext g5
      have HB_X := hid B_X
      clear B_X
      obtain ⟨W6, hW6, g6, q6, B6, hy6, ho6⟩ := sto3 HE.out (by omega) HB_Z.out (by decide) (.bool false) (.slice none 0 0) (.slice none 0 0)
      rw [← hW6]
      clear hW6
      replace HE := hid g6
      replace HB_F := hid (ho6 _ _ _ (by omega) HB_F.out)
      replace HB_W := hid (ho6 _ _ _ (by omega) HB_W.out)
      replace HB_M := hid (ho6 _ _ _ (by omega) HB_M.out)
      replace HB_X := hid (ho6 _ _ _ (by omega) HB_X.out)
      replace HB_Z := hid B6
      replace kv := kv.keep q6
      unfold NumErr
      rw [HV2.out]
      obtain ⟨c_21, c_22, c_23⟩ := HB_Z.out.c3
      refine bodyPost_ret (v := .tuple #[.agg #[.bool false, .slice none 0 0, .slice none 0 0], .int .i64 4]) (by simp [results, Tryz.results11, go_sem, c_21, c_22, c_23]) rfl ⟨_, rfl, NumV.zero _, HE.out⟩
    · have hd : decide (2 < kd) = false := decide_eq_false h2
      have HV2 : Hid (valueR E P n = (wvalK E P (bias E) n, 0)) := hid (by rw [HV.out, if_neg h2])
      clear h2
      have gA := Ext.alloc w4 (.cells #[.int .i64 kd, .bool sg, .bool ng, .slice a k c, .slice a' k' c'] 74)
      obtain ⟨c_15, c_16, c_17⟩ := (HB_Z.out.ext gA).c3
      obtain ⟨f_18, f_19, f_20⟩ := (HB_Z.out.ext gA).f3
      go_wp2_with fail
      clear gA c_15 c_16 c_17 f_18 f_19 f_20
      obtain ⟨W5, hW5, g5, hy5, B_X⟩ := pro1 w4 #[.int .i64 kd, .bool sg, .bool ng, .slice a k c, .slice a' k' c'] 74
      rw [← hW5]
      clear hW5
      have hz_W5 := g5.size
      replace HE := hid (HE.out.trans g5)
      replace HB_F := hid (HB_F.out.ext g5)
      replace HB_W := hid (HB_W.out.ext g5)
      replace HB_Z := hid (HB_Z.out.ext g5)
      replace HB_M := hid (HB_M.out.ext g5)
      replace kv := kv.ext g5
      have HB_X := hid B_X
      clear B_X
      obtain ⟨W6, hW6, g6, q6, B6, hy6, ho6⟩ := sto3 HE.out (by omega) HB_Z.out (by decide) (.bool ng) (.slice a k c) (.slice a' k' c')
      rw [← hW6]
      clear hW6
      replace HE := hid g6
      replace HB_F := hid (ho6 _ _ _ (by omega) HB_F.out)
      replace HB_W := hid (ho6 _ _ _ (by omega) HB_W.out)
      replace HB_M := hid (ho6 _ _ _ (by omega) HB_M.out)
      replace HB_X := hid (ho6 _ _ _ (by omega) HB_X.out)
      replace HB_Z := hid B6
      replace kv := kv.keep q6
      unfold NumErr
      rw [HV2.out]
      obtain ⟨c_21, c_22, c_23⟩ := HB_Z.out.c3
      refine bodyPost_ret (v := .tuple #[.agg #[.bool ng, .slice a k c, .slice a' k' c'], .int .i64 0]) (by simp [results, Tryz.results11, go_sem, c_21, c_22, c_23]) rfl ⟨_, rfl, kv, HE.out⟩
  · have HW : Hid (withRes E P 0 [n] = .tuple #[.agg #[.int .i64 0, .int .i64 0, .int .i64 0, .int .i64 0], .int .i64 6]) := hid (by unfold withRes; rw [if_neg (fun h => hfit (h n (by simp)))])
    have HV2 : Hid (valueR E P n = (0, 6)) := hid (by unfold valueR; rw [if_pos hfit])
    clear hfit
    refine (with_good E P 0 _ [n] _ (by decide) HF.out HWS.out).mono ?_
    rintro e w2 ⟨rfl, g2⟩
    have hz_w2 := g2.size
    replace HE := hid (HE.out.trans g2)
    replace HB_F := hid (HB_F.out.ext g2)
    replace HB_W := hid (HB_W.out.ext g2)
    replace HB_Z := hid (HB_Z.out.ext g2)
    rw [HW.out]
    have gA := Ext.alloc w2 (.cells #[.int .i64 0, .int .i64 0, .int .i64 0, .int .i64 0] 63)
    obtain ⟨c_8, c_9, c_10⟩ := (HB_Z.out.ext gA).c3
    obtain ⟨f_11, f_12, f_13⟩ := (HB_Z.out.ext gA).f3
    go_wp2_with fail
    clear gA c_8 c_9 c_10 f_11 f_12 f_13
    obtain ⟨W3, hW3, g3, hy3, B_M⟩ := pro1 w2 #[.int .i64 0, .int .i64 0, .int .i64 0, .int .i64 0] 63
    rw [← hW3]
    clear hW3
    have hz_W3 := g3.size
    replace HE := hid (HE.out.trans g3)
    replace HB_F := hid (HB_F.out.ext g3)
    replace HB_W := hid (HB_W.out.ext g3)
    replace HB_Z := hid (HB_Z.out.ext g3)
    have HB_M := hid B_M
    clear B_M
    obtain ⟨W4, hW4, g4, q4, B4, hy4, ho4⟩ := sto3 HE.out (by omega) HB_Z.out (by decide) (.bool false) (.slice none 0 0) (.slice none 0 0)
    rw [← hW4]
    clear hW4
    replace HE := hid g4
    replace HB_F := hid (ho4 _ _ _ (by omega) HB_F.out)
    replace HB_W := hid (ho4 _ _ _ (by omega) HB_W.out)
    replace HB_M := hid (ho4 _ _ _ (by omega) HB_M.out)
    replace HB_Z := hid B4
    unfold NumErr
    rw [HV2.out]
    obtain ⟨c_14, c_15, c_16⟩ := HB_Z.out.c3
    refine bodyPost_ret (v := .tuple #[.agg #[.bool false, .slice none 0 0, .slice none 0 0], .int .i64 6]) (by simp [results, Tryz.results11, go_sem, c_14, c_15, c_16]) rfl ⟨_, rfl, NumV.zero _, HE.out⟩
end Go.Proofs.YtpdjenblkgaffaaGreatDoor

/- floats: Value of what is no format; round of 0; Round. -/
namespace Go.Proofs.YtpdjenblkgaffaaGreatDoor
open Go.RowKit Vn

set_option maxRecDepth 100000 in
set_option maxHeartbeats 4000000 in
theorem Value_bad (E P : Int) (n : Nat) (w : World) (hF : ¬ Fmt E P) :
   Calls Tryz.prog 11 #[.agg #[.int .i64 E, .int .i64 P], Word n] w fun e w' => NumErr 0 2 w e w' := by
  obtain ⟨n0, n1, en⟩ := Word.shape n
  rw [en]
  have HF : Hid (¬ (0 ≤ (0 : Int) ∧ (0 : Int) ≤ 4 ∧ Fmt E P)) := hid (fun h => hF h.2.2)
  clear hF en
  obtain ⟨W0, hW0, g0, hz0, B_F, B_W, B_Z⟩ := pro3s w #[.int .i64 E, .int .i64 P] #[.int .u64 n0, .int .u64 n1] #[.bool false, .slice none 0 0, .slice none 0 0] 23 26 32
  have HE := hid g0
  have HB_F := hid B_F
  have HB_W := hid B_W
  have HB_Z := hid B_Z
  clear g0 B_F B_W B_Z 
  go_enter Tryz.func11, Tryz.ntmps11
  go_upto_region 1 with (fail)
  rw [← hW0]
  clear hW0
  obtain ⟨c_1, c_2⟩ := HB_F.out.c2
  obtain ⟨c_3, c_4⟩ := HB_W.out.c2
  obtain ⟨c_5, c_6, c_7⟩ := HB_Z.out.c3
  go_wp2_with fail
  clear c_1 c_2 c_3 c_4 c_5 c_6 c_7
  obtain ⟨W1, hW1, g1, hy1, B_R⟩ := pro1 W0 #[.int .u64 n0, .int .u64 n1] 26
  rw [← hW1]
  clear hW1
  have hz_W1 := g1.size
  replace HE := hid (HE.out.trans g1)
  replace HB_F := hid (HB_F.out.ext g1)
  replace HB_W := hid (HB_W.out.ext g1)
  replace HB_Z := hid (HB_Z.out.ext g1)
  have HB_R := hid B_R
  clear B_R
  refine (with_bad E P 0 _ _ HF.out).mono ?_
  rintro e w2 ⟨rfl, g2⟩
  have hz_w2 := g2.size
  replace HE := hid (HE.out.trans g2)
  replace HB_F := hid (HB_F.out.ext g2)
  replace HB_W := hid (HB_W.out.ext g2)
  replace HB_Z := hid (HB_Z.out.ext g2)
  have gA := Ext.alloc w2 (.cells #[.int .i64 0, .int .i64 0, .int .i64 0, .int .i64 0] 63)
  obtain ⟨c_8, c_9, c_10⟩ := (HB_Z.out.ext gA).c3
  obtain ⟨f_11, f_12, f_13⟩ := (HB_Z.out.ext gA).f3
  go_wp2_with fail
  clear gA c_8 c_9 c_10 f_11 f_12 f_13
  obtain ⟨W3, hW3, g3, hy3, B_M⟩ := pro1 w2 #[.int .i64 0, .int .i64 0, .int .i64 0, .int .i64 0] 63
  rw [← hW3]
  clear hW3
  have hz_W3 := g3.size
  replace HE := hid (HE.out.trans g3)
  replace HB_F := hid (HB_F.out.ext g3)
  replace HB_W := hid (HB_W.out.ext g3)
  replace HB_Z := hid (HB_Z.out.ext g3)
  have HB_M := hid B_M
  clear B_M
  obtain ⟨W4, hW4, g4, q4, B4, hy4, ho4⟩ := sto3 HE.out (by omega) HB_Z.out (by decide) (.bool false) (.slice none 0 0) (.slice none 0 0)
  rw [← hW4]
  clear hW4
  replace HE := hid g4
  replace HB_F := hid (ho4 _ _ _ (by omega) HB_F.out)
  replace HB_W := hid (ho4 _ _ _ (by omega) HB_W.out)
  replace HB_M := hid (ho4 _ _ _ (by omega) HB_M.out)
  replace HB_Z := hid B4
  unfold NumErr
  obtain ⟨c_14, c_15, c_16⟩ := HB_Z.out.c3
  refine bodyPost_ret (v := .tuple #[.agg #[.bool false, .slice none 0 0, .slice none 0 0], .int .i64 2]) (by simp [results, Tryz.results11, go_sem, c_14, c_15, c_16]) rfl ⟨_, rfl, NumV.zero _, HE.out⟩
set_option maxRecDepth 100000 in
set_option maxHeartbeats 4000000 in
theorem round_zero (E P b m : Nat) (x : Value) (w : World) (hF : Fmt E P) (hx : NumV w x 0) :
   Calls Tryz.prog 44 #[.agg #[.int .i64 E, .int .i64 P, .int .i64 m, .int .i64 b], x] w fun e w' => EndPost (0, 0) w e w' := by
  obtain ⟨ng, a, n, c, a', n', c', rfl⟩ := hx.shape
  have HX := hid hx
  have e0 : Word (sgb E P false) = .agg #[.int .u64 0, .int .u64 0] := by unfold Word sgb; simp
  have C1 : Hid (∀ w, Calls Tryz.prog 60 #[.agg #[.int .i64 E, .int .i64 P, .int .i64 m, .int .i64 b], .bool false] w fun e w' => e = .returned (.agg #[.int .u64 0, .int .u64 0]) ∧ Ext w w') := hid fun w => by rw [← e0]; exact zero_c E P m b false w hF
  clear hx hF e0
  obtain ⟨W0, hW0, g0, hz0, B_M, B_X, B_Z⟩ := pro3s w #[.int .i64 E, .int .i64 P, .int .i64 m, .int .i64 b] #[.bool ng, .slice a n c, .slice a' n' c'] #[.int .u64 0, .int .u64 0] 63 32 26
  have HE := hid g0
  have HB_M := hid B_M
  have HB_X := hid B_X
  have HB_Z := hid B_Z
  clear g0 B_M B_X B_Z 
  go_enter Tryz.func44, Tryz.ntmps44
  go_wp2_with fail
  rw [← hW0]
  clear hW0
  refine (sign_c _ 0 _ (HX.out.ext HE.out)).mono ?_
  rintro e w1 ⟨rfl, g1⟩
  have hz_w1 := g1.size
  replace HE := hid (HE.out.trans g1)
  replace HB_M := hid (HB_M.out.ext g1)
  replace HB_X := hid (HB_X.out.ext g1)
  replace HB_Z := hid (HB_Z.out.ext g1)
  rw [show (0 : Rat).num.sign = 0 from rfl]
  obtain ⟨c_1, c_2, c_3, c_4⟩ := HB_M.out.c4
  obtain ⟨c_5, c_6, c_7⟩ := HB_X.out.c3
  obtain ⟨c_8, c_9⟩ := HB_Z.out.c2
  go_wp2_with fail
  clear c_1 c_2 c_3 c_4 c_5 c_6 c_7 c_8 c_9
  refine (C1.out _).mono ?_
  rintro e w2 ⟨rfl, g2⟩
  have hz_w2 := g2.size
  replace HE := hid (HE.out.trans g2)
  replace HB_M := hid (HB_M.out.ext g2)
  replace HB_X := hid (HB_X.out.ext g2)
  replace HB_Z := hid (HB_Z.out.ext g2)
  obtain ⟨c_10, c_11, c_12, c_13⟩ := HB_M.out.c4
  obtain ⟨c_14, c_15, c_16⟩ := HB_X.out.c3
  obtain ⟨c_17, c_18⟩ := HB_Z.out.c2
  obtain ⟨f_19, f_20⟩ := HB_Z.out.f2
  go_wp2_with fail
  clear c_10 c_11 c_12 c_13 c_14 c_15 c_16 c_17 c_18 f_19 f_20
  obtain ⟨W3, hW3, g3, q3, B3, hy3, ho3⟩ := sto2 HE.out (by omega) HB_Z.out (by decide) (.int .u64 0) (.int .u64 0)
  rw [← hW3]
  clear hW3
  replace HE := hid g3
  replace HB_M := hid (ho3 _ _ _ (by omega) HB_M.out)
  replace HB_X := hid (ho3 _ _ _ (by omega) HB_X.out)
  replace HB_Z := hid B3
  unfold EndPost
  obtain ⟨c_21, c_22⟩ := HB_Z.out.c2
  refine bodyPost_ret (v := .tuple #[.agg #[.int .u64 0, .int .u64 0], .int .i64 0]) (by simp [results, Tryz.results44, go_sem, c_21, c_22]) rfl ⟨by show _ = Ending.returned (.tuple #[Word 0, .int .i64 0]); simp [Word], HE.out⟩

/-- the word and the flags of round, of whatever number. -/
def rnd (E P b m : Nat) (q : Rat) (l : Int) : Nat × Nat := if q = 0 then (0, 0) else roundR E P b m q l
theorem rnd_c (E P b m : Nat) (x : Value) (q : Rat) (l : Int) (K : Nat) (w : World) (hF : Fmt E P) (hm : m ≤ 4) (hb : b = bias E) (hx : NumV w x q) (sx : SmQ K q) (hK : K ≤ 12000) (hl : q ≠ 0 → IsLog (absQ q) l) (hT : Tabs w) :
   Calls Tryz.prog 44 #[.agg #[.int .i64 E, .int .i64 P, .int .i64 m, .int .i64 b], x] w (EndPost (rnd E P b m q l) w) := by
  unfold rnd
  by_cases h : q = 0
  · subst h
    rw [if_pos rfl]
    exact round_zero E P b m x w hF hx
  · rw [if_neg h]
    exact round_c E P b m x q l K w hF hm hb hx sx hK (fun e => h (Rat.num_eq_zero.1 e)) (hl h) hT
/-- the logarithm of the size is there. -/
theorem log_there (q : Rat) : ∃ l, q ≠ 0 → IsLog (absQ q) l := by
  by_cases h : q = 0
  · exact ⟨0, fun h' => absurd h h'⟩
  · exact ⟨_, fun _ => log_is (absQ_num_pos (fun e => h (Rat.num_eq_zero.1 e))) _ rfl⟩

end Go.Proofs.YtpdjenblkgaffaaGreatDoor

/- floats: Round, number, Near (of a format and a mode that are valid). -/
namespace Go.Proofs.YtpdjenblkgaffaaGreatDoor
open Go.RowKit Vn

/-- what Round returns. -/
def RoundPost (r : Nat × Nat) (z : Int) (w : World) (e : Ending) (w' : World) : Prop := e = .returned (.tuple #[Word r.1, .int .i64 (r.2 : Nat), .int .i64 z]) ∧ Ext w w'

/-- what number makes of a word. -/
def numberR (E P n : Nat) : Rat × Int := if (valueR E P n).2 ≠ 0 then (0, 7) else ((valueR E P n).1, 0)

set_option maxRecDepth 100000 in
set_option maxHeartbeats 4000000 in
theorem Round_good (E P m : Nat) (x : Value) (q : Rat) (l : Int) (K : Nat) (w : World) (hF : Fmt E P) (hm : m ≤ 4) (hx : NumV w x q) (sx : SmQ K q) (hK : K ≤ 12000) (hl : q ≠ 0 → IsLog (absQ q) l) (hT : Tabs w) :
   Calls Tryz.prog 17 #[.agg #[.int .i64 (E : Nat), .int .i64 (P : Nat)], .int .i64 (m : Nat), x] w fun e w' => RoundPost (rnd E P (bias E) m q l) 0 w e w' := by
  obtain ⟨ng, a, n, c, a', n', c', rfl⟩ := hx.shape
  have HX := hid hx
  have CR : Hid (∀ w, NumV w _ q → Tabs w → _) := hid fun w h hT => rnd_c E P (bias E) m (.agg #[.bool ng, .slice a n c, .slice a' n' c']) q l K w hF hm rfl h sx hK hl hT
  have HT := hid hT; have HF := hid hF; have HM := hid hm
  have HW : Hid (withRes E P m [] = .tuple #[.agg #[.int .i64 (E : Nat), .int .i64 (P : Nat), .int .i64 (m : Nat), .int .i64 (bias E : Nat)], .int .i64 0]) := hid (by unfold withRes; rw [if_pos (fun x hx => by simp at hx)])
  obtain ⟨r0, r1, er⟩ := Word.shape (rnd E P (bias E) m q l).1
  have Er := hid er
  clear hx sx hK hl hT hF hm er
  obtain ⟨W0, hW0, g0, hz0, B_F, B_X, B_Z⟩ := pro3s w #[.int .i64 (E : Nat), .int .i64 (P : Nat)] #[.bool ng, .slice a n c, .slice a' n' c'] #[.int .u64 0, .int .u64 0] 23 32 26
  have HE := hid g0
  have HB_F := hid B_F
  have HB_X := hid B_X
  have HB_Z := hid B_Z
  clear g0 B_F B_X B_Z 
  go_enter Tryz.func17, Tryz.ntmps17
  go_upto_region 1 with (fail)
  rw [← hW0]
  clear hW0
  have hx := HX.out.ext HE.out
  obtain ⟨c_1, c_2⟩ := HB_F.out.c2
  obtain ⟨c_3, c_4, c_5⟩ := HB_X.out.c3
  obtain ⟨c_6, c_7⟩ := HB_Z.out.c2
  go_wp2_with fail
  clear c_1 c_2 c_3 c_4 c_5 c_6 c_7
  refine (with_good E P m _ [] _ HM.out HF.out (WSl.nil _)).mono ?_
  rintro e w1 ⟨rfl, g1⟩
  have hz_w1 := g1.size
  replace HE := hid (HE.out.trans g1)
  replace HB_F := hid (HB_F.out.ext g1)
  replace HB_X := hid (HB_X.out.ext g1)
  replace HB_Z := hid (HB_Z.out.ext g1)
  replace hx := hx.ext g1
  rw [HW.out]
  have gA := Ext.alloc w1 (.cells #[.int .i64 (E : Nat), .int .i64 (P : Nat), .int .i64 (m : Nat), .int .i64 (bias E : Nat)] 63)
  obtain ⟨c_8, c_9⟩ := (HB_F.out.ext gA).c2
  obtain ⟨c_10, c_11, c_12⟩ := (HB_X.out.ext gA).c3
  obtain ⟨c_13, c_14⟩ := (HB_Z.out.ext gA).c2
  go_wp2_with fail
  clear gA c_8 c_9 c_10 c_11 c_12 c_13 c_14
  obtain ⟨W2, hW2, g2, hy2, B_M⟩ := pro1 w1 #[.int .i64 (E : Nat), .int .i64 (P : Nat), .int .i64 (m : Nat), .int .i64 (bias E : Nat)] 63
  rw [← hW2]
  clear hW2
  have hz_W2 := g2.size
  replace HE := hid (HE.out.trans g2)
  replace HB_F := hid (HB_F.out.ext g2)
  replace HB_X := hid (HB_X.out.ext g2)
  replace HB_Z := hid (HB_Z.out.ext g2)
  replace hx := hx.ext g2
  have HB_M := hid B_M
  clear B_M
  refine (CR.out _ hx (HT.out.ext HE.out)).mono ?_
  rintro e w3 ⟨rfl, g3⟩
  have hz_w3 := g3.size
  replace HE := hid (HE.out.trans g3)
  replace HB_F := hid (HB_F.out.ext g3)
  replace HB_X := hid (HB_X.out.ext g3)
  replace HB_Z := hid (HB_Z.out.ext g3)
  replace HB_M := hid (HB_M.out.ext g3)
  replace hx := hx.ext g3
  rw [Er.out]
  obtain ⟨c_15, c_16⟩ := HB_F.out.c2
  obtain ⟨c_17, c_18, c_19⟩ := HB_X.out.c3
  obtain ⟨c_20, c_21⟩ := HB_Z.out.c2
  obtain ⟨c_22, c_23, c_24, c_25⟩ := HB_M.out.c4
  obtain ⟨f_26, f_27⟩ := HB_Z.out.f2
  go_wp2_with fail
  clear c_15 c_16 c_17 c_18 c_19 c_20 c_21 c_22 c_23 c_24 c_25 f_26 f_27
  obtain ⟨W4, hW4, g4, q4, B4, hy4, ho4⟩ := sto2 HE.out (by omega) HB_Z.out (by decide) (.int .u64 r0) (.int .u64 r1)
  rw [← hW4]
  clear hW4
  replace HE := hid g4
  replace HB_F := hid (ho4 _ _ _ (by omega) HB_F.out)
  replace HB_X := hid (ho4 _ _ _ (by omega) HB_X.out)
  replace HB_M := hid (ho4 _ _ _ (by omega) HB_M.out)
  replace HB_Z := hid B4
  replace hx := hx.keep q4
  obtain ⟨W5, hW5, g5, q5, B5, hy5, ho5⟩ := sto2 HE.out (by omega) HB_Z.out (by decide) (.int .u64 r0) (.int .u64 r1)
  rw [← hW5]
  clear hW5
  replace HE := hid g5
  replace HB_F := hid (ho5 _ _ _ (by omega) HB_F.out)
  replace HB_X := hid (ho5 _ _ _ (by omega) HB_X.out)
  replace HB_M := hid (ho5 _ _ _ (by omega) HB_M.out)
  replace HB_Z := hid B5
  replace hx := hx.keep q5
  unfold RoundPost
  obtain ⟨c_28, c_29⟩ := HB_Z.out.c2
  refine bodyPost_ret (v := .tuple #[.agg #[.int .u64 r0, .int .u64 r1], .int .i64 ((rnd E P (bias E) m q l).2 : Nat), .int .i64 0]) (by simp [results, Tryz.results17, go_sem, c_28, c_29]) rfl ⟨by rw [Er.out], HE.out⟩
set_option maxRecDepth 100000 in
set_option maxHeartbeats 4000000 in
theorem number_good (E P n : Nat) (w : World) (hF : Fmt E P) (hn : W128 n) :
   Calls Tryz.prog 45 #[.agg #[.int .i64 (E : Nat), .int .i64 (P : Nat)], Word n, .int .i64 0] w fun e w' => NumErr (numberR E P n).1 (numberR E P n).2 w e w' := by
  obtain ⟨n0, n1, en⟩ := Word.shape n
  have CV : Hid (∀ w, Calls Tryz.prog 11 #[.agg #[.int .i64 (E : Nat), .int .i64 (P : Nat)], .agg #[.int .u64 n0, .int .u64 n1]] w (NumErr (valueR E P n).1 (valueR E P n).2 w)) := hid fun w => by rw [← en]; exact Value_good E P n w hF hn
  rw [en]
  clear hF hn en
  have HNR : Hid (numberR E P n = if (valueR E P n).2 ≠ 0 then (0, 7) else ((valueR E P n).1, 0)) := hid rfl
  obtain ⟨W0, hW0, g0, hz0, B_F, B_W, B_Z⟩ := pro3s w #[.int .i64 (E : Nat), .int .i64 (P : Nat)] #[.int .u64 n0, .int .u64 n1] #[.bool false, .slice none 0 0, .slice none 0 0] 23 26 32
  have HE := hid g0
  have HB_F := hid B_F
  have HB_W := hid B_W
  have HB_Z := hid B_Z
  clear g0 B_F B_W B_Z 
  go_enter Tryz.func45, Tryz.ntmps45
  go_upto_region 1 with (fail)
  rw [← hW0]
  clear hW0
  obtain ⟨c_1, c_2⟩ := HB_F.out.c2
  obtain ⟨c_3, c_4⟩ := HB_W.out.c2
  obtain ⟨c_5, c_6, c_7⟩ := HB_Z.out.c3
  go_wp2_with fail
  clear c_1 c_2 c_3 c_4 c_5 c_6 c_7
  refine (CV.out _).mono ?_
  rintro e w1 ⟨v1, rfl, kv, g1⟩
  have hz_w1 := g1.size
  replace HE := hid (HE.out.trans g1)
  replace HB_F := hid (HB_F.out.ext g1)
  replace HB_W := hid (HB_W.out.ext g1)
  replace HB_Z := hid (HB_Z.out.ext g1)
  generalize (valueR E P n).2 = z at *
  generalize (valueR E P n).1 = q at *
  obtain ⟨ng, a, k, c, a', k', c', rfl⟩ := kv.shape
  by_cases hz : z = 0
  · subst hz
    have HR : Hid (numberR E P n = (q, 0)) := hid (by rw [HNR.out]; simp)
    have gA := Ext.alloc w1 (.cells #[.bool ng, .slice a k c, .slice a' k' c'] 32)
    obtain ⟨c_8, c_9, c_10⟩ := (HB_Z.out.ext gA).c3
    obtain ⟨f_11, f_12, f_13⟩ := (HB_Z.out.ext gA).f3
    go_wp2_with fail
    clear gA c_8 c_9 c_10 f_11 f_12 f_13
    obtain ⟨W2, hW2, g2, hy2, B_X⟩ := pro1 w1 #[.bool ng, .slice a k c, .slice a' k' c'] 32
    rw [← hW2]
    clear hW2
    have hz_W2 := g2.size
    replace HE := hid (HE.out.trans g2)
    replace HB_F := hid (HB_F.out.ext g2)
    replace HB_W := hid (HB_W.out.ext g2)
    replace HB_Z := hid (HB_Z.out.ext g2)
    replace kv := kv.ext g2
    have HB_X := hid B_X
    clear B_X
    obtain ⟨W3, hW3, g3, q3, B3, hy3, ho3⟩ := sto3 HE.out (by omega) HB_Z.out (by decide) (.bool ng) (.slice a k c) (.slice a' k' c')
    rw [← hW3]
    clear hW3
    replace HE := hid g3
    replace HB_F := hid (ho3 _ _ _ (by omega) HB_F.out)
    replace HB_W := hid (ho3 _ _ _ (by omega) HB_W.out)
    replace HB_X := hid (ho3 _ _ _ (by omega) HB_X.out)
    replace HB_Z := hid B3
    replace kv := kv.keep q3
    unfold NumErr
    rw [HR.out]
    obtain ⟨c_14, c_15, c_16⟩ := HB_Z.out.c3
    refine bodyPost_ret (v := .tuple #[.agg #[.bool ng, .slice a k c, .slice a' k' c'], .int .i64 0]) (by simp [results, Tryz.results45, go_sem, c_14, c_15, c_16]) rfl ⟨_, rfl, kv, HE.out⟩
  · have hb : (z == 0) = false := beq_eq_false_iff_ne.2 hz
    have HR : Hid (numberR E P n = (0, 7)) := hid (by rw [HNR.out, if_pos hz])
    clear hz
    have gA := Ext.alloc w1 (.cells #[.bool ng, .slice a k c, .slice a' k' c'] 32)
    obtain ⟨c_8, c_9, c_10⟩ := (HB_Z.out.ext gA).c3
    obtain ⟨f_11, f_12, f_13⟩ := (HB_Z.out.ext gA).f3
    go_wp2_with fail
    clear gA c_8 c_9 c_10 f_11 f_12 f_13
    obtain ⟨W2, hW2, g2, hy2, B_X⟩ := pro1 w1 #[.bool ng, .slice a k c, .slice a' k' c'] 32
    rw [← hW2]
    clear hW2
    have hz_W2 := g2.size
    replace HE := hid (HE.out.trans g2)
    replace HB_F := hid (HB_F.out.ext g2)
    replace HB_W := hid (HB_W.out.ext g2)
    replace HB_Z := hid (HB_Z.out.ext g2)
    replace kv := kv.ext g2
    have HB_X := hid B_X
    clear B_X
    obtain ⟨W3, hW3, g3, q3, B3, hy3, ho3⟩ := sto3 HE.out (by omega) HB_Z.out (by decide) (.bool false) (.slice none 0 0) (.slice none 0 0)
    rw [← hW3]
    clear hW3
    replace HE := hid g3
    replace HB_F := hid (ho3 _ _ _ (by omega) HB_F.out)
    replace HB_W := hid (ho3 _ _ _ (by omega) HB_W.out)
    replace HB_X := hid (ho3 _ _ _ (by omega) HB_X.out)
    replace HB_Z := hid B3
    replace kv := kv.keep q3
    unfold NumErr
    rw [HR.out]
    obtain ⟨c_14, c_15, c_16⟩ := HB_Z.out.c3
    refine bodyPost_ret (v := .tuple #[.agg #[.bool false, .slice none 0 0, .slice none 0 0], .int .i64 7]) (by simp [results, Tryz.results45, go_sem, c_14, c_15, c_16]) rfl ⟨_, rfl, NumV.zero _, HE.out⟩
set_option maxRecDepth 100000 in
set_option maxHeartbeats 4000000 in
theorem Near_good (E P m : Nat) (x : Value) (q : Rat) (l : Int) (K : Nat) (w : World) (hF : Fmt E P) (hm : m ≤ 4) (hx : NumV w x q) (sx : SmQ K q) (hK : K ≤ 12000) (hl : q ≠ 0 → IsLog (absQ q) l) (hT : Tabs w) (hn : W128 (rnd E P (bias E) m q l).1) :
   Calls Tryz.prog 18 #[.agg #[.int .i64 (E : Nat), .int .i64 (P : Nat)], .int .i64 (m : Nat), x] w fun e w' => NumErr (numberR E P (rnd E P (bias E) m q l).1).1 (numberR E P (rnd E P (bias E) m q l).1).2 w e w' := by
  obtain ⟨ng, a, n, c, a', n', c', rfl⟩ := hx.shape
  have HX := hid hx
  have CR : Hid (∀ w, NumV w _ q → Tabs w → _) := hid fun w h hT => Round_good E P m (.agg #[.bool ng, .slice a n c, .slice a' n' c']) q l K w hF hm h sx hK hl hT
  obtain ⟨r0, r1, er⟩ := Word.shape (rnd E P (bias E) m q l).1
  have CN : Hid (∀ w, Calls Tryz.prog 45 #[.agg #[.int .i64 (E : Nat), .int .i64 (P : Nat)], .agg #[.int .u64 r0, .int .u64 r1], .int .i64 0] w (NumErr (numberR E P (rnd E P (bias E) m q l).1).1 (numberR E P (rnd E P (bias E) m q l).1).2 w)) := hid fun w => by rw [← er]; exact number_good E P _ w hF hn
  have HT := hid hT
  have Er := hid er
  clear hx sx hK hl hT hF hm er hn
  obtain ⟨W0, hW0, g0, hz0, B_F, B_X, B_Z⟩ := pro3s w #[.int .i64 (E : Nat), .int .i64 (P : Nat)] #[.bool ng, .slice a n c, .slice a' n' c'] #[.bool false, .slice none 0 0, .slice none 0 0] 23 32 32
  have HE := hid g0
  have HB_F := hid B_F
  have HB_X := hid B_X
  have HB_Z := hid B_Z
  clear g0 B_F B_X B_Z 
  go_enter Tryz.func18, Tryz.ntmps18
  go_upto_region 1 with (fail)
  rw [← hW0]
  clear hW0
  have hx := HX.out.ext HE.out
  obtain ⟨c_1, c_2⟩ := HB_F.out.c2
  obtain ⟨c_3, c_4, c_5⟩ := HB_X.out.c3
  obtain ⟨c_6, c_7, c_8⟩ := HB_Z.out.c3
  go_wp2_with fail
  clear c_1 c_2 c_3 c_4 c_5 c_6 c_7 c_8
  refine (CR.out _ hx (HT.out.ext HE.out)).mono ?_
  rintro e w1 ⟨rfl, g1⟩
  have hz_w1 := g1.size
  replace HE := hid (HE.out.trans g1)
  replace HB_F := hid (HB_F.out.ext g1)
  replace HB_X := hid (HB_X.out.ext g1)
  replace HB_Z := hid (HB_Z.out.ext g1)
  rw [Er.out]
  have gA := Ext.alloc w1 (.cells #[.int .u64 r0, .int .u64 r1] 26)
  obtain ⟨c_9, c_10⟩ := (HB_F.out.ext gA).c2
  obtain ⟨c_11, c_12, c_13⟩ := (HB_X.out.ext gA).c3
  obtain ⟨c_14, c_15, c_16⟩ := (HB_Z.out.ext gA).c3
  go_wp2_with fail
  clear gA c_9 c_10 c_11 c_12 c_13 c_14 c_15 c_16
  obtain ⟨W2, hW2, g2, hy2, B_W⟩ := pro1 w1 #[.int .u64 r0, .int .u64 r1] 26
  rw [← hW2]
  clear hW2
  have hz_W2 := g2.size
  replace HE := hid (HE.out.trans g2)
  replace HB_F := hid (HB_F.out.ext g2)
  replace HB_X := hid (HB_X.out.ext g2)
  replace HB_Z := hid (HB_Z.out.ext g2)
  have HB_W := hid B_W
  clear B_W
  refine (CN.out _).mono ?_
  rintro e w3 ⟨v1, rfl, kv, g3⟩
  have hz_w3 := g3.size
  replace HE := hid (HE.out.trans g3)
  replace HB_F := hid (HB_F.out.ext g3)
  replace HB_X := hid (HB_X.out.ext g3)
  replace HB_Z := hid (HB_Z.out.ext g3)
  replace HB_W := hid (HB_W.out.ext g3)
  obtain ⟨mg, d, k, e, d', k', e', rfl⟩ := kv.shape
  obtain ⟨c_17, c_18, c_19⟩ := HB_Z.out.c3
  obtain ⟨f_20, f_21, f_22⟩ := HB_Z.out.f3
  go_wp2_with fail
  clear c_17 c_18 c_19 f_20 f_21 f_22
  obtain ⟨W4, hW4, g4, q4, B4, hy4, ho4⟩ := sto3 HE.out (by omega) HB_Z.out (by decide) (.bool mg) (.slice d k e) (.slice d' k' e')
  rw [← hW4]
  clear hW4
  replace HE := hid g4
  replace HB_F := hid (ho4 _ _ _ (by omega) HB_F.out)
  replace HB_X := hid (ho4 _ _ _ (by omega) HB_X.out)
  replace HB_W := hid (ho4 _ _ _ (by omega) HB_W.out)
  replace HB_Z := hid B4
  replace kv := kv.keep q4
  unfold NumErr
  obtain ⟨c_23, c_24, c_25⟩ := HB_Z.out.c3
  refine bodyPost_ret (v := .tuple #[.agg #[.bool mg, .slice d k e, .slice d' k' e'], .int .i64 (numberR E P (rnd E P (bias E) m q l).1).2]) (by simp [results, Tryz.results18, go_sem, c_23, c_24, c_25]) rfl ⟨_, rfl, kv, HE.out⟩
end Go.Proofs.YtpdjenblkgaffaaGreatDoor

/- floats: Value, of whatever format. -/
namespace Go.Proofs.YtpdjenblkgaffaaGreatDoor
open Go.RowKit Vn

theorem Box.c9 {w : World} {b : Nat} {x0 x1 x2 x3 x4 x5 x6 x7 x8 : Value} {t : TypeId} (h : Box w b #[x0, x1, x2, x3, x4, x5, x6, x7, x8] t) :
    w.cell? ⟨b, 0, none⟩ = some x0 ∧ w.cell? ⟨b, 1, none⟩ = some x1 ∧ w.cell? ⟨b, 2, none⟩ = some x2 ∧ w.cell? ⟨b, 3, none⟩ = some x3 ∧ w.cell? ⟨b, 4, none⟩ = some x4 ∧ w.cell? ⟨b, 5, none⟩ = some x5 ∧ w.cell? ⟨b, 6, none⟩ = some x6 ∧ w.cell? ⟨b, 7, none⟩ = some x7 ∧ w.cell? ⟨b, 8, none⟩ = some x8 :=
  ⟨h.cell 0, h.cell 1, h.cell 2, h.cell 3, h.cell 4, h.cell 5, h.cell 6, h.cell 7, h.cell 8⟩
/-- the number and the error of a word of whatever format. -/
def valueZ (E P : Int) (n : Nat) : Rat × Int := if Fmt E P then valueR E.toNat P.toNat n else (0, 2)
theorem Value_c (E P : Int) (n : Nat) (w : World) (hn : W128 n) :
   Calls Tryz.prog 11 #[.agg #[.int .i64 E, .int .i64 P], Word n] w (NumErr (valueZ E P n).1 (valueZ E P n).2 w) := by
  unfold valueZ
  by_cases h : Fmt E P
  · rw [if_pos h]
    obtain ⟨e, rfl⟩ := Int.eq_ofNat_of_zero_le (show 0 ≤ E by unfold Fmt at h; omega)
    obtain ⟨p, rfl⟩ := Int.eq_ofNat_of_zero_le (show 0 ≤ P by unfold Fmt at h; omega)
    exact Value_good e p n w h hn
  · rw [if_neg h]
    exact Value_bad E P n w h
end Go.Proofs.YtpdjenblkgaffaaGreatDoor

/- Plain: what the words of results stand for; a difference of near values. -/
namespace Go.Proofs.YtpdjenblkgaffaaGreatDoor
open Go.RowKit Vn

theorem kind_fin {E P n : Nat} (h : wf E P n ≠ 2 ^ E - 1) : wkind E P n ≤ 2 := by unfold wkind; rw [if_neg h]; split <;> omega
theorem fin_wf {E P n : Nat} (h : wkind E P n ≤ 2) : wf E P n ≠ 2 ^ E - 1 := by
  intro e
  unfold wkind at h
  rw [if_pos e] at h
  split at h
  · omega
  · split at h <;> omega
theorem wvalK_fin {E P b n : Nat} (h : wkind E P n ≤ 2) : wvalK E P b n = wval E P b n := by
  unfold wvalK
  by_cases h2 : wkind E P n = 2
  · rw [if_pos h2]
  · rw [if_neg h2, if_neg (by omega), if_neg (by omega)]
    have hk : wf E P n = 0 ∧ wr P n = 0 := by
      have hne := fin_wf h
      unfold wkind at h2
      rw [if_neg hne] at h2
      by_cases h3 : wf E P n = 0 ∧ wr P n = 0
      · exact h3
      · rw [if_neg h3] at h2; exact absurd rfl h2
    unfold wval wfr
    rw [if_pos hk.1, hk.2]
    grind
theorem value_fin {E P n : Nat} (hn : n < 2 ^ (E + P)) (h : wkind E P n ≤ 2) : valueR E P n = (wval E P (bias E) n, 0) := by
  unfold valueR; rw [if_neg (fun k => k hn), if_neg (by omega), wvalK_fin h]
theorem grQ_nonneg (P b : Nat) : 0 ≤ grQ P b := by unfold grQ; exact steps_nonneg _ _
theorem kind_of_le {E P n : Nat} (hE : 2 ≤ E) (hP : 1 ≤ P) (h : absQ (wval E P (bias E) n) ≤ grQ P (bias E)) : wkind E P n ≤ 2 := by
  refine kind_fin (fun e => ?_)
  rw [wval_abs, e] at h
  have h2 := two_bias (E := E) (by omega)
  have hp : 0 < 2 ^ (P - 1) := Nat.pow_pos (by decide)
  have hfr : 2 ^ (P - 1) ≤ wfr E P n := by unfold wfr; rw [if_neg (by rw [e]; omega)]; omega
  have h1 : max (2 ^ E - 1) 1 - 1 = 2 * bias E := by omega
  rw [h1] at h
  have h3 : (2 : Rat) ^ (((P - 1 : Nat) : Int) + (2 - (bias E : Int) - P + ((2 * bias E : Nat) : Int))) ≤ grQ P (bias E) := by
    refine Rat.le_trans ?_ h
    rw [p2_add, p2_nat]
    exact Rat.mul_le_mul_of_nonneg_right (by rw [Rat.natCast_le_natCast]; exact hfr) (Rat.le_of_lt (p2_pos _))
  have h4 := grQ_lt P (bias E)
  have h5 : ((P - 1 : Nat) : Int) + (2 - (bias E : Int) - P + ((2 * bias E : Nat) : Int)) = (bias E : Int) + 1 := by omega
  rw [h5] at h3
  exact absurd h4 (Rat.not_lt.2 h3)
theorem wordN_lt {E P : Nat} (h1 : 1 ≤ E + P) (neg : Bool) {n f : Nat} (h : n + f * 2 ^ (P - 1) < 2 ^ (E + P - 1)) : wordN E P neg n f < 2 ^ (E + P) := by
  rw [wordN_eq neg h]
  have h3 : 2 ^ (E + P) = 2 * 2 ^ (E + P - 1) := by rw [← Nat.pow_succ']; congr 1; omega
  cases neg
  · simp; omega
  · simp; omega
theorem sgb_word (E P : Nat) (s : Bool) : sgb E P s = wordN E P s 0 0 := by unfold wordN; simp
theorem sgb_ok {E P : Nat} (hE : 2 ≤ E) (hP : 1 ≤ P) (s : Bool) : sgb E P s < 2 ^ (E + P) ∧ valueR E P (sgb E P s) = (0, 0) := by
  have h0 : 0 + 0 * 2 ^ (P - 1) < 2 ^ (E + P - 1) := by rw [Nat.zero_mul]; exact Nat.pow_pos (by decide)
  have hv : wval E P (bias E) (sgb E P s) = 0 := by
    rw [sgb_word, wordN_val hP s h0 (Nat.zero_le _) (.inl rfl)]
    grind
  have hlt : sgb E P s < 2 ^ (E + P) := by rw [sgb_word]; exact wordN_lt (by omega) s h0
  refine ⟨hlt, ?_⟩
  rw [value_fin hlt (kind_of_le hE hP (by rw [hv, absQ_nonneg Rat.le_refl]; exact grQ_nonneg _ _)), hv]
theorem round_ok {E P m : Nat} {q : Rat} {l : Int} (hE : 2 ≤ E) (hP : 1 ≤ P) (hl : IsLog (absQ q) l) (h : IsVal P (bias E) q) (hg : absQ q ≤ grQ P (bias E)) :
    (roundR E P (bias E) m q l).2 = 0 ∧ (roundR E P (bias E) m q l).1 < 2 ^ (E + P) ∧ valueR E P (roundR E P (bias E) m q l).1 = (q, 0) := by
  obtain ⟨h1, h2⟩ := round_value (E := E) (m := m) (by omega) hP hl h hg
  obtain ⟨h3, h4⟩ := round_exact (E := E) (m := m) hl h hg
  have hlt : (roundR E P (bias E) m q l).1 < 2 ^ (E + P) := by
    rw [h3]; exact wordN_lt (by omega) _ (rd_fits (by omega) hP (rdN_lt hl) (rdN_ge hP hl) (by rw [← h4]; exact hg))
  refine ⟨h1, hlt, ?_⟩
  rw [value_fin hlt (kind_of_le hE hP (by rw [h2]; exact hg)), h2]

theorem differs_ok {E P m i j : Nat} {l : Int} (hE : 2 ≤ E) (hP : 1 ≤ P) (ki : wkind E P i ≤ 2) (kj : wkind E P j ≤ 2)
    (a0 : 0 ≤ wvalK E P (bias E) i) (b0 : 0 ≤ wvalK E P (bias E) j) (h1 : wvalK E P (bias E) i ≤ wvalK E P (bias E) j + wvalK E P (bias E) j) (h2 : wvalK E P (bias E) j ≤ wvalK E P (bias E) i + wvalK E P (bias E) i)
    (hl : wvalK E P (bias E) i + -wvalK E P (bias E) j ≠ 0 → IsLog (absQ (wvalK E P (bias E) i + -wvalK E P (bias E) j)) l) (r : Nat × Nat)
    (hr : r = addR E P (bias E) m (wkind E P i) (wn E P i) (wvalK E P (bias E) i) (wkind E P j) (!(wn E P j)) (-(wvalK E P (bias E) j)) l) :
    r.2 = 0 ∧ r.1 < 2 ^ (E + P) ∧ valueR E P r.1 = (wvalK E P (bias E) i - wvalK E P (bias E) j, 0) := by
  have va : IsVal P (bias E) (wvalK E P (bias E) i) := by rw [wvalK_fin ki]; exact wval_isVal hP
  have vb : IsVal P (bias E) (wvalK E P (bias E) j) := by rw [wvalK_fin kj]; exact wval_isVal hP
  have ga : absQ (wvalK E P (bias E) i) ≤ grQ P (bias E) := by rw [wvalK_fin ki]; exact wval_le hE hP (fin_wf ki)
  have gb : absQ (wvalK E P (bias E) j) ≤ grQ P (bias E) := by rw [wvalK_fin kj]; exact wval_le hE hP (fin_wf kj)
  rw [absQ_nonneg a0] at ga
  rw [absQ_nonneg b0] at gb
  obtain ⟨k1, k2⟩ := sterbenz va vb a0 b0 h1 h2
  generalize wvalK E P (bias E) i = a at *
  generalize wvalK E P (bias E) j = b at *
  have e : a + -b = a - b := by grind
  rw [e] at hl
  unfold addR at hr
  rw [if_neg (by omega), if_neg (by omega), if_neg (by omega), e] at hr
  have gd : absQ (a - b) ≤ grQ P (bias E) := by rcases k2 with k | k; exact Rat.le_trans k ga; exact Rat.le_trans k gb
  by_cases hd : a - b = 0
  · rw [if_neg (fun k => k hd)] at hr
    rw [hd]
    split at hr
    · rw [hr]; exact ⟨rfl, sgb_ok hE hP _⟩
    · rw [hr]; exact ⟨rfl, sgb_ok hE hP _⟩
  · rw [if_pos hd] at hr
    rw [hr]
    exact round_ok hE hP (hl hd) k1 gd

/-- how large a value is. -/
theorem wvalK_sm {E P n : Nat} (hF : Fmt E P) (h : wkind E P n ≤ 2) : SmQ 5000 (wvalK E P (bias E) n) := by
  have hE : 2 ≤ E ∧ E ≤ 11 := by unfold Fmt at hF; omega
  have hP : 2 ≤ P ∧ P ≤ 113 := by unfold Fmt at hF; omega
  rw [wvalK_fin h]
  have h1 := wfr_lt (E := E) (P := P) (n := n) (by omega)
  have hf : wf E P n < 2 ^ E := Nat.mod_lt _ (Nat.pow_pos (by decide))
  have h2 : 2 ^ E ≤ 2048 := Nat.pow_le_pow_right (n := 2) (j := 11) (by decide) hE.2
  have hb : bias E ≤ 1023 := by
    have : 2 ^ (E - 1) ≤ 1024 := Nat.pow_le_pow_right (n := 2) (j := 10) (by decide) (by omega)
    unfold bias; omega
  have s1 : SmQ 113 ((wfr E P n : Nat) : Rat) := SmQ.nat (by decide) (Nat.lt_of_lt_of_le h1 (Nat.pow_le_pow_right (by decide) hP.2))
  have s2 := s1.mul_p2 (2 - (bias E : Int) - P + ((max (wf E P n) 1 - 1 : Nat) : Int)) 3500 (by omega)
  have s3 : SmQ 5000 (((wfr E P n : Nat) : Rat) * (2 : Rat) ^ (2 - (bias E : Int) - P + ((max (wf E P n) 1 - 1 : Nat) : Int))) := s2.mono (by decide)
  unfold wval
  split
  · have := s3.neg
    rwa [show -(((wfr E P n : Nat) : Rat) * (2 : Rat) ^ (2 - (bias E : Int) - P + ((max (wf E P n) 1 - 1 : Nat) : Int))) = -1 * (((wfr E P n : Nat) : Rat) * (2 : Rat) ^ (2 - (bias E : Int) - P + ((max (wf E P n) 1 - 1 : Nat) : Int))) from by grind] at this
  · rwa [Rat.one_mul]
theorem SmQ.zero (K : Nat) (h : 0 < K) : SmQ K 0 := SmQ.nat (n := 0) h (Nat.pow_pos (by decide))
theorem valueZ_cases (E P : Int) (n : Nat) : (valueZ E P n).2 = 0 ∨ (valueZ E P n).2 = 2 ∨ (valueZ E P n).2 = 4 ∨ (valueZ E P n).2 = 6 := by
  unfold valueZ valueR
  split
  · split
    · simp
    · split <;> simp
  · simp
/-- a word that has a number. -/
theorem valueZ_ok {E P : Int} {n : Nat} (h : (valueZ E P n).2 = 0) : Fmt E P ∧ n < 2 ^ (E.toNat + P.toNat) ∧ wkind E.toNat P.toNat n ≤ 2 ∧ (valueZ E P n).1 = wvalK E.toNat P.toNat (bias E.toNat) n := by
  unfold valueZ valueR at h ⊢
  by_cases hF : Fmt E P
  · rw [if_pos hF] at h ⊢
    by_cases h1 : n < 2 ^ (E.toNat + P.toNat)
    · rw [if_neg (fun k => k h1)] at h ⊢
      by_cases h2 : 2 < wkind E.toNat P.toNat n
      · rw [if_pos h2] at h; simp at h
      · rw [if_neg h2]; exact ⟨hF, h1, by omega, rfl⟩
    · rw [if_pos h1] at h; simp at h
  · rw [if_neg hF] at h; simp at h
theorem valueZ_sm (E P : Int) (n : Nat) : SmQ 5000 (valueZ E P n).1 := by
  by_cases h : (valueZ E P n).2 = 0
  · obtain ⟨hF, h1, h2, h3⟩ := valueZ_ok h
    rw [h3]
    refine wvalK_sm ?_ h2
    obtain ⟨e, rfl⟩ := Int.eq_ofNat_of_zero_le (show 0 ≤ E by unfold Fmt at hF; omega)
    obtain ⟨p, rfl⟩ := Int.eq_ofNat_of_zero_le (show 0 ≤ P by unfold Fmt at hF; omega)
    exact hF
  · have : (valueZ E P n).1 = 0 := by
      unfold valueZ valueR at h ⊢
      split
      · rename_i hF
        rw [if_pos hF] at h
        split
        · rfl
        · rename_i h1
          rw [if_neg h1] at h
          split
          · rfl
          · rename_i h2; rw [if_neg h2] at h; exact absurd rfl h
      · rfl
    rw [this]; exact SmQ.zero _ (by decide)
end Go.Proofs.YtpdjenblkgaffaaGreatDoor

/- floats: exactly. -/
namespace Go.Proofs.YtpdjenblkgaffaaGreatDoor
open Go.RowKit Vn

/-- the word and the flags of a number that may be 0 or infinite. -/
def exR (E P b m : Nat) (k : Int) (n : Bool) (q : Rat) (l : Int) : Nat × Nat := if k = 1 then (sgb E P n, 0) else if k = 3 then (infw E P n, 0) else rnd E P b m q l

set_option maxRecDepth 100000 in
set_option maxHeartbeats 8000000 in
theorem exactly_c (E P b m : Nat) (x : Value) (kx : Int) (nx : Bool) (q : Rat) (l : Int) (K : Nat) (w : World) (hF : Fmt E P) (hm : m ≤ 4) (hb : b = bias E) (hx : OpV w x kx nx q) (sx : SmQ K q) (hK : K ≤ 12000) (hl : q ≠ 0 → IsLog (absQ q) l) (hT : Tabs w) :
   Calls Tryz.prog 38 #[.agg #[.int .i64 E, .int .i64 P, .int .i64 m, .int .i64 b], x] w fun e w' => EndPost (exR E P b m kx nx q l) w e w' := by
  obtain ⟨ng, a, n, c, a', n', c', rfl, hvx⟩ := hx
  have HX := hid hvx
  have CR : Hid (∀ w, NumV w _ q → Tabs w → _) := hid fun w h hT => rnd_c E P b m (.agg #[.bool ng, .slice a n c, .slice a' n' c']) q l K w hF hm hb h sx hK hl hT
  have HT := hid hT; have HF := hid hF
  clear hvx sx hK hl hT hF hm hb
  obtain ⟨W0, hW0, g0, hz0, B_M, B_X, B_Z⟩ := pro3s w #[.int .i64 E, .int .i64 P, .int .i64 m, .int .i64 b] #[.int .i64 kx, .bool nx, .bool ng, .slice a n c, .slice a' n' c'] #[.int .u64 0, .int .u64 0] 63 74 26
  have HE := hid g0
  have HB_M := hid B_M
  have HB_X := hid B_X
  have HB_Z := hid B_Z
  clear g0 B_M B_X B_Z 
  go_enter Tryz.func38, Tryz.ntmps38
  go_upto_region 1 with (fail)
  rw [← hW0]
  clear hW0
  by_cases h1 : kx = 1
  · subst h1
    have HR : Hid (exR E P b m 1 nx q l = (sgb E P nx, 0)) := hid (by unfold exR; simp)
    obtain ⟨r0, r1, er⟩ := Word.shape (sgb E P nx)
    have Er := hid er
    clear er
    obtain ⟨c_1, c_2, c_3, c_4⟩ := HB_M.out.c4
    obtain ⟨c_5, c_6, c_7, c_8, c_9⟩ := HB_X.out.c5
    obtain ⟨c_10, c_11⟩ := HB_Z.out.c2
    go_wp2_with fail
    clear c_1 c_2 c_3 c_4 c_5 c_6 c_7 c_8 c_9 c_10 c_11
    refine (zero_c E P m b nx _ HF.out).mono ?_
    rintro e w1 ⟨rfl, g1⟩
    have hz_w1 := g1.size
    replace HE := hid (HE.out.trans g1)
    replace HB_M := hid (HB_M.out.ext g1)
    replace HB_X := hid (HB_X.out.ext g1)
    replace HB_Z := hid (HB_Z.out.ext g1)
    rw [Er.out]
    obtain ⟨c_12, c_13, c_14, c_15⟩ := HB_M.out.c4
    obtain ⟨c_16, c_17, c_18, c_19, c_20⟩ := HB_X.out.c5
    obtain ⟨c_21, c_22⟩ := HB_Z.out.c2
    obtain ⟨f_23, f_24⟩ := HB_Z.out.f2
    go_wp2_with fail
    clear c_12 c_13 c_14 c_15 c_16 c_17 c_18 c_19 c_20 c_21 c_22 f_23 f_24
    obtain ⟨W2, hW2, g2, q2, B2, hy2, ho2⟩ := sto2 HE.out (by omega) HB_Z.out (by decide) (.int .u64 r0) (.int .u64 r1)
    rw [← hW2]
    clear hW2
    replace HE := hid g2
    replace HB_M := hid (ho2 _ _ _ (by omega) HB_M.out)
    replace HB_X := hid (ho2 _ _ _ (by omega) HB_X.out)
    replace HB_Z := hid B2
    unfold EndPost
    rw [HR.out]
    obtain ⟨c_25, c_26⟩ := HB_Z.out.c2
    refine bodyPost_ret (v := .tuple #[.agg #[.int .u64 r0, .int .u64 r1], .int .i64 0]) (by simp [results, Tryz.results38, go_sem, c_25, c_26]) rfl ⟨by (show _ = Ending.returned (.tuple #[Word (sgb E P nx), .int .i64 0]); rw [Er.out]), HE.out⟩
  · have hb1 : (kx == 1) = false := beq_eq_false_iff_ne.2 h1
    by_cases h3 : kx = 3
    · subst h3
      have HR : Hid (exR E P b m 3 nx q l = (infw E P nx, 0)) := hid (by unfold exR; simp)
      obtain ⟨r0, r1, er⟩ := Word.shape (infw E P nx)
      have Er := hid er
      clear er h1 hb1
      obtain ⟨c_1, c_2, c_3, c_4⟩ := HB_M.out.c4
      obtain ⟨c_5, c_6, c_7, c_8, c_9⟩ := HB_X.out.c5
      obtain ⟨c_10, c_11⟩ := HB_Z.out.c2
      go_wp2_with fail
      clear c_1 c_2 c_3 c_4 c_5 c_6 c_7 c_8 c_9 c_10 c_11
      refine (infinite_c E P m b nx _ HF.out).mono ?_
      rintro e w1 ⟨rfl, g1⟩
      have hz_w1 := g1.size
      replace HE := hid (HE.out.trans g1)
      replace HB_M := hid (HB_M.out.ext g1)
      replace HB_X := hid (HB_X.out.ext g1)
      replace HB_Z := hid (HB_Z.out.ext g1)
      rw [Er.out]
      obtain ⟨c_12, c_13, c_14, c_15⟩ := HB_M.out.c4
      obtain ⟨c_16, c_17, c_18, c_19, c_20⟩ := HB_X.out.c5
      obtain ⟨c_21, c_22⟩ := HB_Z.out.c2
      obtain ⟨f_23, f_24⟩ := HB_Z.out.f2
      go_wp2_with fail
      clear c_12 c_13 c_14 c_15 c_16 c_17 c_18 c_19 c_20 c_21 c_22 f_23 f_24
      obtain ⟨W2, hW2, g2, q2, B2, hy2, ho2⟩ := sto2 HE.out (by omega) HB_Z.out (by decide) (.int .u64 r0) (.int .u64 r1)
      rw [← hW2]
      clear hW2
      replace HE := hid g2
      replace HB_M := hid (ho2 _ _ _ (by omega) HB_M.out)
      replace HB_X := hid (ho2 _ _ _ (by omega) HB_X.out)
      replace HB_Z := hid B2
      unfold EndPost
      rw [HR.out]
      obtain ⟨c_25, c_26⟩ := HB_Z.out.c2
      refine bodyPost_ret (v := .tuple #[.agg #[.int .u64 r0, .int .u64 r1], .int .i64 0]) (by simp [results, Tryz.results38, go_sem, c_25, c_26]) rfl ⟨by (show _ = Ending.returned (.tuple #[Word (infw E P nx), .int .i64 0]); rw [Er.out]), HE.out⟩
    · have hb3 : (kx == 3) = false := beq_eq_false_iff_ne.2 h3
      have HR : Hid (exR E P b m kx nx q l = rnd E P b m q l) := hid (by unfold exR; rw [if_neg h1, if_neg h3])
      obtain ⟨r0, r1, er⟩ := Word.shape (rnd E P b m q l).1
      have Er := hid er
      clear er h1 h3
      have hvx := HX.out.ext HE.out
      obtain ⟨c_1, c_2, c_3, c_4⟩ := HB_M.out.c4
      obtain ⟨c_5, c_6, c_7, c_8, c_9⟩ := HB_X.out.c5
      obtain ⟨c_10, c_11⟩ := HB_Z.out.c2
      go_wp2_with fail
      clear c_1 c_2 c_3 c_4 c_5 c_6 c_7 c_8 c_9 c_10 c_11
      refine (CR.out _ hvx (HT.out.ext HE.out)).mono ?_
      rintro e w1 ⟨rfl, g1⟩
      have hz_w1 := g1.size
      replace HE := hid (HE.out.trans g1)
      replace HB_M := hid (HB_M.out.ext g1)
      replace HB_X := hid (HB_X.out.ext g1)
      replace HB_Z := hid (HB_Z.out.ext g1)
      rw [Er.out]
      obtain ⟨c_12, c_13, c_14, c_15⟩ := HB_M.out.c4
      obtain ⟨c_16, c_17, c_18, c_19, c_20⟩ := HB_X.out.c5
      obtain ⟨c_21, c_22⟩ := HB_Z.out.c2
      obtain ⟨f_23, f_24⟩ := HB_Z.out.f2
      go_wp2_with fail
      clear c_12 c_13 c_14 c_15 c_16 c_17 c_18 c_19 c_20 c_21 c_22 f_23 f_24
      obtain ⟨W2, hW2, g2, q2, B2, hy2, ho2⟩ := sto2 HE.out (by omega) HB_Z.out (by decide) (.int .u64 r0) (.int .u64 r1)
      rw [← hW2]
      clear hW2
      replace HE := hid g2
      replace HB_M := hid (ho2 _ _ _ (by omega) HB_M.out)
      replace HB_X := hid (ho2 _ _ _ (by omega) HB_X.out)
      replace HB_Z := hid B2
      unfold EndPost
      rw [HR.out]
      obtain ⟨c_25, c_26⟩ := HB_Z.out.c2
      refine bodyPost_ret (v := .tuple #[.agg #[.int .u64 r0, .int .u64 r1], .int .i64 ((rnd E P b m q l).2 : Nat)]) (by simp [results, Tryz.results38, go_sem, c_25, c_26]) rfl ⟨by rw [Er.out], HE.out⟩
end Go.Proofs.YtpdjenblkgaffaaGreatDoor

/- Plain: the nearest whole number of a quotient, and what remains. -/
namespace Go.Proofs.YtpdjenblkgaffaaGreatDoor
open Go.RowKit Vn

theorem SmQ.mul {K L : Nat} {q r : Rat} (h : SmQ K q) (k : SmQ L r) : SmQ (K + L) (q * r) := by
  have e1 : q.num.natAbs * r.num.natAbs < 2 ^ (K + L) := by
    rw [Nat.pow_add]; exact Nat.mul_lt_mul_of_lt_of_le h.1 (Nat.le_of_lt k.1) (Nat.pow_pos (by decide))
  have e2 : q.den * r.den < 2 ^ (K + L) := by
    rw [Nat.pow_add]; exact Nat.mul_lt_mul_of_lt_of_le h.2 (Nat.le_of_lt k.2) (Nat.pow_pos (by decide))
  rw [Rat.mul_def']
  exact SmQ.mk _ _ (Nat.mul_ne_zero q.den_nz r.den_nz) (by rw [Int.natAbs_mul]; exact e1) e2
theorem SmQ.div {K L : Nat} {q r : Rat} (h : SmQ K q) (k : SmQ L r) (hr : r ≠ 0) : SmQ (K + L) (q / r) := by
  have e1 : q.num.natAbs * r.den < 2 ^ (K + L) := by
    rw [Nat.pow_add]; exact Nat.mul_lt_mul_of_lt_of_le h.1 (Nat.le_of_lt k.2) (Nat.pow_pos (by decide))
  have e2 : q.den * r.num.natAbs < 2 ^ (K + L) := by
    rw [Nat.pow_add]; exact Nat.mul_lt_mul_of_lt_of_le h.2 (Nat.le_of_lt k.1) (Nat.pow_pos (by decide))
  have h1 : r.num.natAbs ≠ 0 := fun e => hr (Rat.num_eq_zero.1 (by omega))
  rw [← quo_value q r hr]
  unfold SmQ Sm
  rw [mkq_natAbs _ _ _ (Nat.mul_ne_zero q.den_nz h1), mkq_den _ _ _ (Nat.mul_ne_zero q.den_nz h1)]
  exact ⟨Nat.lt_of_le_of_lt (Nat.div_le_self _ _) e1, Nat.lt_of_le_of_lt (Nat.div_le_self _ _) e2⟩
theorem SmQ.pos {K : Nat} {q : Rat} (h : SmQ K q) : 0 < K := by
  rcases Nat.eq_zero_or_pos K with e | e
  · subst e
    have h1 : q.den < 2 ^ 0 := h.2
    have := q.den_pos
    omega
  · exact e
theorem SmQ.floor {K : Nat} {q : Rat} (h : SmQ K q) : SmQ K ((q.floor : Int) : Rat) := by
  refine SmQ.int h.pos ?_
  rw [Rat.floor_def]
  exact Nat.lt_of_le_of_lt (Int.natAbs_ediv_le_natAbs _ _) h.1

/-- the whole number nearest to q, of two the even one. -/
def remN (q : Rat) : Int := if upB 0 (decide (q.floor ≠ 0) && decide (q.floor.natAbs % 2 = 1)) (cmpQ ((q - ((q.floor : Int) : Rat)) * (2 : Rat) ^ (1 : Int)) 1) = true then q.floor + 1 else q.floor
theorem remN_sm {K : Nat} {q : Rat} (h : SmQ K q) : SmQ (K + 3) ((remN q : Int) : Rat) := by
  have h1 := h.floor
  unfold remN
  split
  · rw [show ((q.floor + 1 : Int) : Rat) = ((q.floor : Int) : Rat) + 1 from by rw [Rat.intCast_add]; rfl]
    exact (h1.add (SmQ.nat (K := 2) (n := 1) (by decide) (by decide))).mono (by omega)
  · exact h1.mono (by omega)
theorem remN_near (q : Rat) : absQ (q - ((remN q : Int) : Rat)) + absQ (q - ((remN q : Int) : Rat)) ≤ 1 := by
  have h1 : ((q.floor : Int) : Rat) ≤ q := Rat.floor_le q
  have h2 : q < ((q.floor : Int) : Rat) + 1 := by
    have := Rat.lt_floor_add_one q
    rwa [Rat.intCast_add] at this
  have e2 : (2 : Rat) ^ (1 : Int) = 2 := by rfl
  have lo : (q - ((q.floor : Int) : Rat)) * 2 ≤ 1 → absQ (q - ((q.floor : Int) : Rat)) + absQ (q - ((q.floor : Int) : Rat)) ≤ 1 := fun h => by
    rw [absQ_nonneg (by grind)]; grind
  have hi : 1 ≤ (q - ((q.floor : Int) : Rat)) * 2 → absQ (q - ((q.floor + 1 : Int) : Rat)) + absQ (q - ((q.floor + 1 : Int) : Rat)) ≤ 1 := fun h => by
    rw [show ((q.floor + 1 : Int) : Rat) = ((q.floor : Int) : Rat) + 1 from by rw [Rat.intCast_add]; rfl]
    rw [← absQ_neg, absQ_nonneg (by grind)]; grind
  unfold remN
  rw [e2]
  by_cases a : (q - ((q.floor : Int) : Rat)) * 2 < 1
  · have hc : cmpQ ((q - ((q.floor : Int) : Rat)) * 2) 1 = -1 := by unfold cmpQ; rw [if_pos a]
    rw [hc, if_neg (by unfold upB; simp)]
    exact lo (by grind)
  · by_cases b : 1 < (q - ((q.floor : Int) : Rat)) * 2
    · have hc : cmpQ ((q - ((q.floor : Int) : Rat)) * 2) 1 = 1 := by unfold cmpQ; rw [if_neg a, if_pos b]
      rw [hc, if_pos (by unfold upB; simp)]
      exact hi (by grind)
    · have e : (q - ((q.floor : Int) : Rat)) * 2 = 1 := Rat.le_antisymm (Rat.not_lt.1 b) (Rat.not_lt.1 a)
      split
      · exact hi (by rw [e]; exact Rat.le_refl)
      · exact lo (by rw [e]; exact Rat.le_refl)
theorem absQ_mul (a b : Rat) : absQ (a * b) = absQ a * absQ b := by
  rcases Rat.le_total (a := 0) (b := a) with g | g <;> rcases Rat.le_total (a := 0) (b := b) with h | h
  · rw [absQ_nonneg g, absQ_nonneg h, absQ_nonneg (Rat.mul_nonneg g h)]
  · have h' : 0 ≤ -b := by grind
    rw [absQ_nonneg g, ← absQ_neg b, absQ_nonneg h', ← absQ_neg (a * b), show -(a * b) = a * -b from by grind, absQ_nonneg (Rat.mul_nonneg g h')]
  · have g' : 0 ≤ -a := by grind
    rw [absQ_nonneg h, ← absQ_neg a, absQ_nonneg g', ← absQ_neg (a * b), show -(a * b) = -a * b from by grind, absQ_nonneg (Rat.mul_nonneg g' h)]
  · have h' : 0 ≤ -b := by grind
    have g' : 0 ≤ -a := by grind
    rw [← absQ_neg b, absQ_nonneg h', ← absQ_neg a, absQ_nonneg g', show a * b = -a * -b from by grind, absQ_nonneg (Rat.mul_nonneg g' h')]
theorem rem_near (a c : Rat) (hc : c ≠ 0) : absQ (a - c * ((remN (a / c) : Int) : Rat)) + absQ (a - c * ((remN (a / c) : Int) : Rat)) ≤ absQ c := by
  have h1 := remN_near (a / c)
  have e : a - c * ((remN (a / c) : Int) : Rat) = c * (a / c - ((remN (a / c) : Int) : Rat)) := by
    have : c * (a / c) = a := by rw [Rat.mul_comm, Rat.div_mul_cancel hc]
    grind
  have h0 := absQ_zero_le c
  rw [e, absQ_mul]
  have h2 := Rat.mul_le_mul_of_nonneg_left h1 h0
  grind

/-- what is rounded, if anything is. -/
def remV (kx : Int) (qx : Rat) (ky : Int) (qy : Rat) : Rat := if kx = 1 ∨ ky = 3 then qx else qx - qy * ((remN (qx / qy) : Int) : Rat)
/-- the word and the flags of a remainder of operands that are no NaN. -/
def remR (E P b m : Nat) (kx : Int) (nx : Bool) (qx : Rat) (ky : Int) (qy : Rat) (l : Int) : Nat × Nat :=
  if kx = 3 ∨ ky = 1 then (nanw E P, 1) else if kx = 1 ∨ ky = 3 then exR E P b m kx nx qx l
  else if qx - qy * ((remN (qx / qy) : Int) : Rat) = 0 then (sgb E P nx, 0) else rnd E P b m (qx - qy * ((remN (qx / qy) : Int) : Rat)) l

theorem kind_zero {E P b n : Nat} (h : wkind E P n ≤ 2) : wkind E P n = 1 ↔ wvalK E P b n = 0 := by
  have hne := fin_wf h
  constructor
  · intro h1
    unfold wvalK
    rw [if_neg (by omega), if_neg (by omega), if_neg (by omega)]
  · intro h0
    rw [wvalK_fin h] at h0
    have h2 : absQ (wval E P b n) = 0 := by rw [h0]; exact absQ_nonneg Rat.le_refl
    rw [wval_abs] at h2
    have h3 : wfr E P n = 0 := by
      rcases Nat.eq_zero_or_pos (wfr E P n) with e | e
      · exact e
      · exfalso
        have h4 : (0 : Rat) < ((wfr E P n : Nat) : Rat) := by exact_mod_cast e
        have h5 := Rat.mul_pos h4 (p2_pos (2 - (b : Int) - P + ((max (wf E P n) 1 - 1 : Nat) : Int)))
        grind
    have hp : 0 < 2 ^ (P - 1) := Nat.pow_pos (by decide)
    unfold wfr at h3
    unfold wkind
    rw [if_neg hne]
    by_cases hf : wf E P n = 0
    · rw [if_pos hf] at h3
      rw [if_pos ⟨hf, h3⟩]
    · rw [if_neg hf] at h3; omega
theorem nan_ok {E P : Nat} (hP : 2 ≤ P) : nanw E P < 2 ^ (E + P) ∧ valueR E P (nanw E P) = (0, 4) := by
  have hp : 0 < 2 ^ (P - 1) := Nat.pow_pos (by decide)
  have hp2 : 0 < 2 ^ (P - 2) := Nat.pow_pos (by decide)
  have hpp : 2 ^ (P - 1) = 2 * 2 ^ (P - 2) := by rw [← Nat.pow_succ']; congr 1; omega
  have he : 0 < 2 ^ E := Nat.pow_pos (by decide)
  have h0 : 2 ^ (P - 2) + (2 ^ E - 1) * 2 ^ (P - 1) < 2 ^ (E + P - 1) := by
    rw [pow_EP (by omega), Nat.mul_comm (2 ^ (P - 1))]
    have : (2 ^ E - 1) * 2 ^ (P - 1) + 2 ^ (P - 1) = 2 ^ E * 2 ^ (P - 1) := by
      rw [← Nat.succ_mul]; congr 1; omega
    omega
  have ew : nanw E P = wordN E P false (2 ^ (P - 2)) (2 ^ E - 1) := by
    unfold nanw infw wordN sgb
    rw [if_neg (by decide), Nat.zero_or, Nat.zero_or, Nat.add_comm, Nat.mul_comm]
    exact (Nat.two_pow_add_eq_or_of_lt (by omega) _).symm
  have hlt : nanw E P < 2 ^ (E + P) := by rw [ew]; exact wordN_lt (by omega) false h0
  refine ⟨hlt, ?_⟩
  have e1 : wf E P (nanw E P) = 2 ^ E - 1 := by
    rw [ew, wordN_wf (by omega) false h0, Nat.add_mul_div_right _ _ hp, Nat.div_eq_of_lt (by omega), Nat.zero_add]
  have e2 : wr P (nanw E P) = 2 ^ (P - 2) := by rw [ew, wordN_wr (by omega) false h0, Nat.mod_eq_of_lt (by omega)]
  have e3 : 2 < wkind E P (nanw E P) := by unfold wkind; rw [if_pos e1, if_neg (by omega)]; split <;> omega
  unfold valueR
  rw [if_neg (fun k => k hlt), if_pos e3]

theorem rem_bad {E P m i j : Nat} {l : Int} (hP : 2 ≤ P) (kj : wkind E P j ≤ 2) (b0 : wvalK E P (bias E) j = 0) (r : Nat × Nat)
    (hr : r = remR E P (bias E) m (wkind E P i) (wn E P i) (wvalK E P (bias E) i) (wkind E P j) (wvalK E P (bias E) j) l) :
    r.2 = 1 ∧ r.1 < 2 ^ (E + P) ∧ valueR E P r.1 = (0, 4) := by
  have k1 := (kind_zero kj).2 b0
  unfold remR at hr
  rw [if_pos (.inr k1)] at hr
  rw [hr]
  exact ⟨rfl, nan_ok hP⟩
theorem rem_ok {E P m i j : Nat} {l : Int} (hE : 2 ≤ E) (hP : 1 ≤ P) (ki : wkind E P i ≤ 2) (kj : wkind E P j ≤ 2) (b0 : wvalK E P (bias E) j ≠ 0)
    (hl : remV (wkind E P i) (wvalK E P (bias E) i) (wkind E P j) (wvalK E P (bias E) j) ≠ 0 → IsLog (absQ (remV (wkind E P i) (wvalK E P (bias E) i) (wkind E P j) (wvalK E P (bias E) j))) l) (r : Nat × Nat)
    (hr : r = remR E P (bias E) m (wkind E P i) (wn E P i) (wvalK E P (bias E) i) (wkind E P j) (wvalK E P (bias E) j) l) :
    r.2 = 0 ∧ r.1 < 2 ^ (E + P) ∧ ∃ z : Int, valueR E P r.1 = (wvalK E P (bias E) i - wvalK E P (bias E) j * (z : Rat), 0) ∧
      absQ (wvalK E P (bias E) i - wvalK E P (bias E) j * (z : Rat)) + absQ (wvalK E P (bias E) i - wvalK E P (bias E) j * (z : Rat)) ≤ absQ (wvalK E P (bias E) j) := by
  have va : IsVal P (bias E) (wvalK E P (bias E) i) := by rw [wvalK_fin ki]; exact wval_isVal hP
  have vb : IsVal P (bias E) (wvalK E P (bias E) j) := by rw [wvalK_fin kj]; exact wval_isVal hP
  have gb : absQ (wvalK E P (bias E) j) ≤ grQ P (bias E) := by rw [wvalK_fin kj]; exact wval_le hE hP (fin_wf kj)
  have kb : wkind E P j ≠ 1 := fun e => b0 ((kind_zero kj).1 e)
  have ka : wkind E P i = 1 → wvalK E P (bias E) i = 0 := (kind_zero ki).1
  unfold remR at hr
  unfold remV at hl
  rw [if_neg (by omega)] at hr
  generalize wvalK E P (bias E) i = a at *
  generalize wvalK E P (bias E) j = c at *
  by_cases h1 : wkind E P i = 1
  · rw [if_pos (.inl h1)] at hr
    unfold exR at hr
    rw [if_pos h1] at hr
    obtain ⟨k1, k2⟩ := sgb_ok hE hP (wn E P i)
    have e : a - c * ((0 : Int) : Rat) = 0 := by
      rw [ka h1, show ((0 : Int) : Rat) = 0 from rfl]; grind
    rw [hr]
    refine ⟨rfl, k1, 0, ?_, ?_⟩
    · rw [e]; exact k2
    · rw [e, absQ_nonneg Rat.le_refl]
      have := absQ_zero_le c
      grind
  · rw [if_neg (by omega)] at hr hl
    have near := rem_near a c b0
    have vr := rem_val va vb _ near
    have gr : absQ (a - c * ((remN (a / c) : Int) : Rat)) ≤ grQ P (bias E) := by
      have := absQ_zero_le (a - c * ((remN (a / c) : Int) : Rat))
      grind
    by_cases hd : a - c * ((remN (a / c) : Int) : Rat) = 0
    · rw [if_pos hd] at hr
      obtain ⟨k1, k2⟩ := sgb_ok hE hP (wn E P i)
      rw [hr]
      exact ⟨rfl, k1, _, by rw [hd]; exact k2, near⟩
    · rw [if_neg hd] at hr
      unfold rnd at hr
      rw [if_neg hd] at hr
      rw [hr]
      obtain ⟨k1, k2, k3⟩ := round_ok (m := m) hE hP (hl hd) vr gr
      exact ⟨k1, k2, _, k3, near⟩
end Go.Proofs.YtpdjenblkgaffaaGreatDoor

/- exact, floats: the logarithm of the size of a number that is not 0. -/
namespace Go.Proofs.YtpdjenblkgaffaaGreatDoor
open Go.RowKit Vn

theorem absQ_parts (q : Rat) : (absQ q).num.natAbs = q.num.natAbs ∧ (absQ q).den = q.den := by
  rw [absQ_eq]; split
  · simp [Rat.neg_num, Rat.neg_den]
  · exact ⟨rfl, rfl⟩
theorem logA_c (x : Value) (q : Rat) (K : Nat) (w : World) (hx : NumV w x q) (sx : SmQ K q) (hK : K ≤ 10000000) (h : q.num ≠ 0) :
   Calls Tryz.prog 96 #[x] w fun e w' => ∃ k, e = .returned (.int .i64 k) ∧ IsLog (absQ q) k ∧ Ext w w' := by
  have h1 : bl q.num.natAbs ≤ K := bl_le_of_lt sx.1
  have h2 : bl q.den ≤ K := bl_le_of_lt sx.2
  refine (log_core x q K _ _ w hx sx hK (hid rfl) (by omega) (by omega) (hid rfl)).mono ?_
  rintro e w' ⟨rfl, g⟩
  obtain ⟨e1, e2⟩ := absQ_parts q
  have hl := log_is (absQ_num_pos h) _ rfl
  rw [e1, e2] at hl
  exact ⟨_, rfl, hl, g⟩

set_option maxRecDepth 100000 in
set_option maxHeartbeats 8000000 in
theorem LogA_c (x : Value) (q : Rat) (K : Nat) (w : World) (hx : NumV w x q) (sx : SmQ K q) (hK : K ≤ 10000000) (h : q.num ≠ 0) :
   Calls Tryz.prog 68 #[x] w fun e w' => ∃ k, e = .returned (.tuple #[.int .i64 k, .int .i64 0]) ∧ IsLog (absQ q) k ∧ Ext w w' := by
  obtain ⟨ng, a, n, c, a', n', c', rfl⟩ := hx.shape
  obtain ⟨W0, hW0⟩ : ∃ W0, W0 = w.alloc (.cells #[.bool ng, .slice a n c, .slice a' n' c'] 32) := ⟨_, rfl⟩
  have HE : Hid (Ext w W0) := hid (by rw [hW0]; exact Ext.alloc w _)
  have hBx : Box W0 w.heap.size #[.bool ng, .slice a n c, .slice a' n' c'] 32 := by rw [hW0]; exact Box.new w _ _
  have HS : Hid (∀ w', Ext W0 w' → Tri w.heap.size (.bool ng) (.slice a n c) (.slice a' n' c') w') := hid fun w' h => Tri.of (hBx.ext h)
  have Hx := hid hx
  have hb0 : Ext W0 W0.drew := Below.drew (Below.refl _ W0)
  have HK := hid hK
  have Sx := hid sx
  have H0 := hid h
  have hs : (q.num.sign == 0) = false := beq_eq_false_iff_ne.2 (fun e => h (Int.sign_eq_zero_iff_zero.1 e))
  clear hx hBx hK sx h
  obtain ⟨x0, x1, x2⟩ := HS.out _ (Below.refl _ W0)
  go_enter Tryz.func68, Tryz.ntmps68
  go_wp2_with fail
  rw [← hW0]
  clear hW0
  refine (sign_c _ q _ (Hx.out.ext HE.out)).mono ?_
  rintro e w1 ⟨rfl, hb1⟩
  clear x0 x1 x2
  obtain ⟨x0, x1, x2⟩ := HS.out _ hb1
  go_wp2_with fail
  refine (logA_c _ q K _ (Hx.out.ext (HE.out.trans hb1)) Sx.out HK.out H0.out).mono ?_
  rintro e w2 ⟨k, rfl, hl, g2⟩
  have Hl := hid hl
  clear hl
  go_wp2_with fail
  exact bodyPost_ret (v := .tuple #[.int .i64 k, .int .i64 0]) (by simp [results, Tryz.results68, go_sem]) rfl ⟨k, rfl, Hl.out, HE.out.trans (hb1.trans g2)⟩

set_option maxRecDepth 100000 in
set_option maxHeartbeats 8000000 in
theorem flogA_c (x : Value) (q : Rat) (K : Nat) (w : World) (hx : NumV w x q) (sx : SmQ K q) (hK : K ≤ 10000000) (h : q.num ≠ 0) :
   Calls Tryz.prog 33 #[x] w fun e w' => ∃ k, e = .returned (.int .i64 k) ∧ IsLog (absQ q) k ∧ Ext w w' := by
  obtain ⟨ng, a, n, c, a', n', c', rfl⟩ := hx.shape
  obtain ⟨W0, hW0⟩ : ∃ W0, W0 = w.alloc (.cells #[.bool ng, .slice a n c, .slice a' n' c'] 32) := ⟨_, rfl⟩
  have HE : Hid (Ext w W0) := hid (by rw [hW0]; exact Ext.alloc w _)
  have hBx : Box W0 w.heap.size #[.bool ng, .slice a n c, .slice a' n' c'] 32 := by rw [hW0]; exact Box.new w _ _
  have HS : Hid (∀ w', Ext W0 w' → Tri w.heap.size (.bool ng) (.slice a n c) (.slice a' n' c') w') := hid fun w' h => Tri.of (hBx.ext h)
  have Hx := hid hx
  have hb0 : Ext W0 W0.drew := Below.drew (Below.refl _ W0)
  have HK := hid hK
  have Sx := hid sx
  have H0 := hid h
  clear hx hBx hK sx h
  obtain ⟨x0, x1, x2⟩ := HS.out _ (Below.refl _ W0)
  go_enter Tryz.func33, Tryz.ntmps33
  go_wp2_with fail
  rw [← hW0]
  clear hW0
  refine (LogA_c _ q K _ (Hx.out.ext HE.out) Sx.out HK.out H0.out).mono ?_
  rintro e w1 ⟨k, rfl, hl, hb1⟩
  have Hl := hid hl
  clear hl
  go_wp2_with fail
  go_ret
  exact ⟨k, rfl, Hl.out, HE.out.trans hb1⟩

end Go.Proofs.YtpdjenblkgaffaaGreatDoor

/- floats: Has, of a number that is a value. -/
namespace Go.Proofs.YtpdjenblkgaffaaGreatDoor
open Go.RowKit Vn

theorem has_int {P b : Nat} {q : Rat} {l : Int} (hl : IsLog (absQ q) l) (hv : IsVal P b q) : (q * (2 : Rat) ^ (-(max l (1 - (b : Int)) - P + 1))).den = 1 := by
  obtain ⟨N, h1, h2⟩ := isVal_step hl hv
  have hk : rdK P b l = max l (1 - (b : Int)) - P + 1 := by unfold rdK rdF; omega
  rw [← hk]
  have e : absQ q * (2 : Rat) ^ (-(rdK P b l)) = (N : Rat) := h1
  rw [absQ_eq] at e
  split at e
  · have : q * (2 : Rat) ^ (-(rdK P b l)) = ((-(N : Int) : Int) : Rat) := by
      have e2 : q * (2 : Rat) ^ (-(rdK P b l)) = -(N : Rat) := by grind
      rw [e2, Rat.intCast_neg]; rfl
    rw [this]; rfl
  · rw [e]; rfl
theorem cmpQ_le {q r : Rat} (h : q ≤ r) : cmpQ q r ≤ 0 := by
  have : ¬ r < q := Rat.not_lt.2 h
  unfold cmpQ
  split
  · decide
  · simp
theorem grQ_sm {P b : Nat} (hP : 2 ≤ P ∧ P ≤ 113) (hb : b ≤ 1023) : SmQ 16000 (grQ P b) := by
  have h1 : 2 ^ P - 1 < 2 ^ 113 := by
    have h2 : 2 ^ P ≤ 2 ^ 113 := Nat.pow_le_pow_right (n := 2) (j := 113) (by decide) hP.2
    have : 0 < 2 ^ P := Nat.pow_pos (by decide)
    omega
  have s1 : SmQ 113 ((2 ^ P - 1 : Nat) : Rat) := SmQ.nat (by decide) h1
  exact (s1.mul_p2 ((b : Int) - P + 1) 2000 (by omega)).mono (by decide)

set_option maxRecDepth 100000 in
set_option maxHeartbeats 4000000 in
theorem Has_true (E P : Nat) (x : Value) (q : Rat) (K : Nat) (w : World) (hF : Fmt E P) (hx : NumV w x q) (sx : SmQ K q) (hK : K ≤ 16000) (hv : IsVal P (bias E) q) (hg : absQ q ≤ grQ P (bias E)) :
   Calls Tryz.prog 10 #[.agg #[.int .i64 (E : Nat), .int .i64 (P : Nat)], x] w fun e w' => e = .returned (.bool true) ∧ Ext w w' := by
  obtain ⟨ng, a, n, c, a', n', c', rfl⟩ := hx.shape
  have hE : 2 ≤ E ∧ E ≤ 11 := by unfold Fmt at hF; omega
  have hP : 2 ≤ P ∧ P ≤ 113 := by unfold Fmt at hF; omega
  have hb : bias E ≤ 1023 := by
    have : 2 ^ (E - 1) ≤ 1024 := Nat.pow_le_pow_right (n := 2) (by decide) (show E - 1 ≤ 10 by omega)
    unfold bias; omega
  have HX := hid hx
  have CW : Hid (∀ (w : World), Calls Tryz.prog 24 #[.agg #[.int .i64 (E : Nat), .int .i64 (P : Nat)], .int .i64 0, .slice none 0 0] w fun e w' => e = .returned (.tuple #[.agg #[.int .i64 (E : Nat), .int .i64 (P : Nat), .int .i64 0, .int .i64 (bias E : Nat)], .int .i64 0]) ∧ Ext w w') := hid fun w => by
    have := with_good E P 0 _ [] w (by decide) hF (WSl.nil w)
    rwa [show withRes E P 0 [] = .tuple #[.agg #[.int .i64 (E : Nat), .int .i64 (P : Nat), .int .i64 0, .int .i64 (bias E : Nat)], .int .i64 0] from by unfold withRes; rw [if_pos (fun x hx => by simp at hx)]; rfl] at this
  obtain ⟨s0, hs0⟩ : ∃ s, s = q.num.sign := ⟨_, rfl⟩
  have CSG : Hid (∀ v w, NumV w v q → Calls Tryz.prog 30 #[v] w fun e w' => e = .returned (.int .i64 s0) ∧ Ext w w') := hid fun v w h => by rw [hs0]; exact sign_c v q w h
  have CLG : Hid (q.num ≠ 0 → ∀ v w, NumV w v q → _) := hid fun h0 v w h => flogA_c v q K w h sx (by omega) h0
  have HST : Hid (∀ l, IsLog (absQ q) l → ∀ w, Calls Tryz.prog 32 #[.agg #[.int .i64 (E : Nat), .int .i64 (P : Nat), .int .i64 0, .int .i64 (bias E : Nat)], .int .i64 l] w fun e w' => ∃ s, e = .returned (.int .i64 s) ∧ (-20000 ≤ s ∧ s ≤ 20000) ∧ (q * (2 : Rat) ^ (-s)).den = 1 ∧ Ext w w') := hid fun l hl w => by
    have hbd := hl.bound sx.absQ
    refine (step_c E P 0 (bias E) l w hP hb (by omega)).mono fun e w' ⟨h1, h2⟩ => ⟨_, h1, ?_, has_int hl hv, h2⟩
    omega
  have CSH : Hid (∀ s, -20000 ≤ s → s ≤ 20000 → ∀ v w, NumV w v q → _) := hid fun s h0 h1 v w h => shift_c v q K (-s) w h sx (by omega) (by omega) (by omega)
  have CII : Hid (∀ (s : Int), (q * (2 : Rat) ^ (-s)).den = 1 → ∀ v w, NumV w v (q * (2 : Rat) ^ (-s)) → Calls Tryz.prog 34 #[v] w fun e w' => e = .returned (.bool true) ∧ Ext w w') := hid fun s hd v w h => by
    have := isInt_c v _ w h
    rwa [decide_eq_true hd] at this
  have CAB : Hid (∀ v w, NumV w v q → _) := hid fun v w h => abs_c v q w h
  have CGR : Hid (∀ w, Calls Tryz.prog 27 #[.agg #[.int .i64 (E : Nat), .int .i64 (P : Nat), .int .i64 0, .int .i64 (bias E : Nat)]] w fun e w' => ∃ v, e = .returned v ∧ NumV w' v (grQ P (bias E)) ∧ Ext w w') := hid fun w => greatest_c E P 0 (bias E) w hP hb
  obtain ⟨cG, hcG⟩ : ∃ s, s = cmpQ (absQ q) (grQ P (bias E)) := ⟨_, rfl⟩
  have hcg : cG ≤ 0 := by rw [hcG]; exact cmpQ_le hg
  have sg : SmQ 16000 (grQ P (bias E)) := grQ_sm hP hb
  have CCM : Hid (∀ u v w, NumV w u (absQ q) → NumV w v (grQ P (bias E)) → Calls Tryz.prog 13 #[u, v] w fun e w' => e = .returned (.int .i64 cG) ∧ Ext w w') := hid fun u v w h k => by
    rw [hcG]; exact Cmp_c u v _ _ 16000 w h k (sx.absQ.mono hK) sg (by decide)
  have HS0 := hid hs0
  clear hF hx sx hK hv hg hE hP hb hs0 hcG sg
  obtain ⟨W0, hW0, g0, hz0, B_F, B_X⟩ := pro2s w #[.int .i64 (E : Nat), .int .i64 (P : Nat)] #[.bool ng, .slice a n c, .slice a' n' c'] 23 32
  have HE := hid g0
  have HB_F := hid B_F
  have HB_X := hid B_X
  clear g0 B_F B_X 
  go_enter Tryz.func10, Tryz.ntmps10
  go_upto_region 1 with (fail)
  rw [← hW0]
  clear hW0
  have kx := HX.out.ext HE.out
  obtain ⟨c_1, c_2⟩ := HB_F.out.c2
  obtain ⟨c_3, c_4, c_5⟩ := HB_X.out.c3
  go_wp2_with fail
  clear c_1 c_2 c_3 c_4 c_5
  refine (CW.out _).mono ?_
  rintro e w1 ⟨rfl, g1⟩
  have hz_w1 := g1.size
  replace HE := hid (HE.out.trans g1)
  replace HB_F := hid (HB_F.out.ext g1)
  replace HB_X := hid (HB_X.out.ext g1)
  replace kx := kx.ext g1
  have gA := Ext.alloc w1 (.cells #[.int .i64 (E : Nat), .int .i64 (P : Nat), .int .i64 0, .int .i64 (bias E : Nat)] 63)
  obtain ⟨c_6, c_7⟩ := (HB_F.out.ext gA).c2
  obtain ⟨c_8, c_9, c_10⟩ := (HB_X.out.ext gA).c3
  go_wp2_with fail
  clear gA c_6 c_7 c_8 c_9 c_10
  obtain ⟨W2, hW2, g2, hy2, B_M⟩ := pro1 w1 #[.int .i64 (E : Nat), .int .i64 (P : Nat), .int .i64 0, .int .i64 (bias E : Nat)] 63
  rw [← hW2]
  clear hW2
  have hz_W2 := g2.size
  replace HE := hid (HE.out.trans g2)
  replace HB_F := hid (HB_F.out.ext g2)
  replace HB_X := hid (HB_X.out.ext g2)
  replace kx := kx.ext g2
  have HB_M := hid B_M
  clear B_M
  refine (CSG.out _ _ kx).mono ?_
  rintro e w3 ⟨rfl, g3⟩
  have hz_w3 := g3.size
  replace HE := hid (HE.out.trans g3)
  replace HB_F := hid (HB_F.out.ext g3)
  replace HB_X := hid (HB_X.out.ext g3)
  replace HB_M := hid (HB_M.out.ext g3)
  replace kx := kx.ext g3
  by_cases h0 : s0 = 0
  · subst h0
    obtain ⟨c_11, c_12⟩ := HB_F.out.c2
    obtain ⟨c_13, c_14, c_15⟩ := HB_X.out.c3
    obtain ⟨c_16, c_17, c_18, c_19⟩ := HB_M.out.c4
    go_wp2_with fail
    clear c_11 c_12 c_13 c_14 c_15 c_16 c_17 c_18 c_19
    refine bodyPost_ret (v := .bool true) (by simp [results, Tryz.results10, go_sem]) rfl ⟨rfl, HE.out⟩
  · have hq0 : q.num ≠ 0 := fun e => h0 (by rw [HS0.out, e]; rfl)
    have HQ0 := hid hq0
    have hsb : (s0 == 0) = false := beq_eq_false_iff_ne.2 h0
    clear hq0
    obtain ⟨c_11, c_12⟩ := HB_F.out.c2
    obtain ⟨c_13, c_14, c_15⟩ := HB_X.out.c3
    obtain ⟨c_16, c_17, c_18, c_19⟩ := HB_M.out.c4
    go_wp2_with fail
    clear c_11 c_12 c_13 c_14 c_15 c_16 c_17 c_18 c_19
    have HS : Hid (∀ w', Ext w3 w' → w'.cell? ⟨w1.heap.size, 0, none⟩ = some (.int .i64 (E : Nat)) ∧ w'.cell? ⟨w1.heap.size, 1, none⟩ = some (.int .i64 (P : Nat)) ∧ w'.cell? ⟨w1.heap.size, 2, none⟩ = some (.int .i64 0) ∧ w'.cell? ⟨w1.heap.size, 3, none⟩ = some (.int .i64 (bias E : Nat)) ∧ w'.cell? ⟨w.heap.size + 1, 0, none⟩ = some (.bool ng) ∧ w'.cell? ⟨w.heap.size + 1, 1, none⟩ = some (.slice a n c) ∧ w'.cell? ⟨w.heap.size + 1, 2, none⟩ = some (.slice a' n' c')) := hid fun w' h => ⟨(HB_M.out.ext h).cell 0, (HB_M.out.ext h).cell 1, (HB_M.out.ext h).cell 2, (HB_M.out.ext h).cell 3, (HB_X.out.ext h).cell 0, (HB_X.out.ext h).cell 1, (HB_X.out.ext h).cell 2⟩
    have hb0 : Ext w3 w3.drew := Below.drew (Below.refl _ w3)
    go_region_held3 (fun w' => w'.cell? ⟨w1.heap.size, 0, none⟩ = some (.int .i64 (E : Nat)) ∧ w'.cell? ⟨w1.heap.size, 1, none⟩ = some (.int .i64 (P : Nat)) ∧ w'.cell? ⟨w1.heap.size, 2, none⟩ = some (.int .i64 0) ∧ w'.cell? ⟨w1.heap.size, 3, none⟩ = some (.int .i64 (bias E : Nat)) ∧ w'.cell? ⟨w.heap.size + 1, 0, none⟩ = some (.bool ng) ∧ w'.cell? ⟨w.heap.size + 1, 1, none⟩ = some (.slice a n c) ∧ w'.cell? ⟨w.heap.size + 1, 2, none⟩ = some (.slice a' n' c'))
        (first | exact HS.out _ (by assumption))
      (first
      | (go_at_call 33; (with_reducible refine (CLG.out HQ0.out _ _ (kx.ext hb0)).mono ?_); rintro e x20_1 ⟨l, rfl, hl, g1⟩; have hb1 : Ext w3 x20_1 := hb0.trans g1; have HL := hid hl; clear hl)
      | (go_at_call 32; (with_reducible refine (HST.out l HL.out _).mono ?_); rintro e x20_2 ⟨s, rfl, ⟨hs1, hs2⟩, hs3, g2⟩; have hb2 : Ext w3 x20_2 := hb1.trans g2; have HD := hid hs3; clear hs3; have hw2 : wrap64 (-s) = -s := (IntWalk.i64_left (-s)).symm.trans (by rw [IntKind.wrap_i64]; omega); have hw3 : IntKind.i64.wrap (-s) = -s := IntWalk.i64_in _ (by omega))
      | (go_at_call 31; (with_reducible refine (CSH.out s hs1 hs2 _ _ (kx.ext hb2)).mono ?_); rintro e x20_3 ⟨v3, rfl, k3, g3⟩; have hb3 : Ext w3 x20_3 := hb2.trans g3)
      | (go_at_call 34; (with_reducible refine (CII.out s HD.out _ _ k3).mono ?_); rintro e x20_4 ⟨rfl, g4⟩; have hb4 : Ext w3 x20_4 := hb3.trans g4)
      | (go_at_call 35; (with_reducible refine (CAB.out _ _ (kx.ext hb4)).mono ?_); rintro e x20_5 ⟨v5, rfl, k5, g5⟩; have hb5 : Ext w3 x20_5 := hb4.trans g5)
      | (go_at_call 27; (with_reducible refine (CGR.out _).mono ?_); rintro e x20_6 ⟨v6, rfl, k6, g6⟩; have hb6 : Ext w3 x20_6 := hb5.trans g6)
      | (go_at_call 13; (with_reducible refine (CCM.out _ _ _ (k5.ext g6) k6).mono ?_); rintro e x20_7 ⟨rfl, g7⟩; have hb7 : Ext w3 x20_7 := hb6.trans g7))
    clear HS
    have hz_x20_7 := hb7.size
    replace HE := hid (HE.out.trans hb7)
    replace HB_F := hid (HB_F.out.ext hb7)
    replace HB_X := hid (HB_X.out.ext hb7)
    replace HB_M := hid (HB_M.out.ext hb7)
    replace kx := kx.ext hb7
    obtain ⟨c_21, c_22⟩ := HB_F.out.c2
    obtain ⟨c_23, c_24, c_25⟩ := HB_X.out.c3
    obtain ⟨c_26, c_27, c_28, c_29⟩ := HB_M.out.c4
    go_wp2_with fail
    clear c_21 c_22 c_23 c_24 c_25 c_26 c_27 c_28 c_29
    refine bodyPost_ret (v := .bool true) (by simp [results, Tryz.results10, go_sem]) rfl ⟨rfl, HE.out⟩
end Go.Proofs.YtpdjenblkgaffaaGreatDoor

/- Plain: which numbers are values of a wider format; a word is what its value is rounded to. -/
namespace Go.Proofs.YtpdjenblkgaffaaGreatDoor
open Go.RowKit Vn

theorem ltle {a b c : Rat} (h : a < b) (k : b ≤ c) : a < c := by grind
theorem lelt {a b c : Rat} (h : a ≤ b) (k : b < c) : a < c := by grind
theorem isVal_of_int {P b : Nat} {q : Rat} {l : Int} (hl : IsLog (absQ q) l) (hd : (q * (2 : Rat) ^ (-(max l (1 - (b : Int)) - P + 1))).den = 1) : IsVal P b q := by
  obtain ⟨k, hk⟩ : ∃ k, k = max l (1 - (b : Int)) - P + 1 := ⟨_, rfl⟩
  rw [← hk] at hd
  obtain ⟨z, hz⟩ : ∃ z : Int, q * (2 : Rat) ^ (-k) = (z : Rat) := ⟨_, (den_one hd).symm⟩
  have e : q = (z : Rat) * (2 : Rat) ^ k := by
    rw [← hz, Rat.mul_assoc, p2_cancel, Rat.mul_one]
  have ea : absQ q = ((z.natAbs : Nat) : Rat) * (2 : Rat) ^ k := by rw [e, absQ_int]
  refine ⟨z.natAbs, k, by omega, ?_, ea⟩
  have h1 : absQ q < (2 : Rat) ^ (l + 1) := hl.2
  have h2 : (2 : Rat) ^ (l + 1) ≤ (2 : Rat) ^ ((P : Int) + k) := p2_mono (by omega)
  rw [ea] at h1
  rw [p2_add (P : Int) k] at h2
  have h3 : ((z.natAbs : Nat) : Rat) * (2 : Rat) ^ k < (2 : Rat) ^ (P : Int) * (2 : Rat) ^ k := ltle h1 h2
  rw [Rat.mul_lt_mul_right (p2_pos k), p2_nat, Rat.natCast_lt_natCast] at h3
  exact h3
theorem isVal_iff_int {P b : Nat} {q : Rat} {l : Int} (hl : IsLog (absQ q) l) : (q * (2 : Rat) ^ (-(max l (1 - (b : Int)) - P + 1))).den = 1 ↔ IsVal P b q := ⟨isVal_of_int hl, has_int hl⟩
theorem cmpQ_iff {q r : Rat} : cmpQ q r ≤ 0 ↔ q ≤ r := by
  constructor
  · intro h
    unfold cmpQ at h
    split at h
    · rename_i k; exact Rat.le_of_lt k
    · split at h
      · omega
      · rename_i k; exact Rat.not_lt.1 k
  · exact cmpQ_le

theorem bias_pos {E : Nat} (hE : 2 ≤ E) : 1 ≤ bias E := by
  have h2 := two_bias (E := E) (by omega)
  have : 2 ^ 2 ≤ 2 ^ E := Nat.pow_le_pow_right (by decide) hE
  omega
theorem grQ_ge {P b : Nat} (hP : 1 ≤ P) : (2 : Rat) ^ (b : Int) ≤ grQ P b := by
  unfold grQ
  rw [show (b : Int) = ((P - 1 : Nat) : Int) + ((b : Int) - P + 1) by omega, p2_add ((P - 1 : Nat) : Int), p2_nat]
  rw [show ((P - 1 : Nat) : Int) + ((b : Int) - P + 1) - P + 1 = (b : Int) - P + 1 by omega]
  refine Rat.mul_le_mul_of_nonneg_right ?_ (Rat.le_of_lt (p2_pos _))
  rw [Rat.natCast_le_natCast]
  have : 2 ^ P = 2 * 2 ^ (P - 1) := by rw [← Nat.pow_succ']; congr 1; omega
  have : 0 < 2 ^ (P - 1) := Nat.pow_pos (by decide)
  omega
theorem absQ_p2 (k : Int) : absQ ((2 : Rat) ^ k) = (2 : Rat) ^ k := absQ_nonneg (Rat.le_of_lt (p2_pos k))

/-- a format is inside another one. -/
def InsideP (P b P' b' : Nat) : Prop := P ≤ P' ∧ 2 - (b' : Int) - P' ≤ 2 - (b : Int) - P ∧ grQ P b ≤ grQ P' b'
theorem least_has {P b P' b' : Nat} (hP : 1 ≤ P) (hP' : 1 ≤ P') (hb : 1 ≤ b) : (IsVal P' b' ((2 : Rat) ^ (2 - (b : Int) - P)) ∧ absQ ((2 : Rat) ^ (2 - (b : Int) - P)) ≤ grQ P' b') ↔ 2 - (b' : Int) - P' ≤ 2 - (b : Int) - P := by
  rw [absQ_p2]
  constructor
  · rintro ⟨⟨m, j, h1, h2, h3⟩, -⟩
    rw [absQ_p2] at h3
    have hm : 1 ≤ m := by
      rcases Nat.eq_zero_or_pos m with e | e
      · exfalso
        rw [e, show ((0 : Nat) : Rat) = 0 from rfl, Rat.zero_mul] at h3
        exact p2_ne _ h3
      · exact e
    have h4 : (1 : Rat) ≤ ((m : Nat) : Rat) := by exact_mod_cast hm
    have h5 := Rat.mul_le_mul_of_nonneg_right h4 (Rat.le_of_lt (p2_pos j))
    rw [Rat.one_mul, ← h3, p2_le_iff] at h5
    omega
  · intro h
    refine ⟨⟨1, _, h, ?_, ?_⟩, Rat.le_trans (p2_mono (by omega)) (grQ_ge hP')⟩
    · have : 2 ^ 1 ≤ 2 ^ P' := Nat.pow_le_pow_right (by decide) hP'
      omega
    · rw [absQ_p2, show ((1 : Nat) : Rat) = 1 from rfl, Rat.one_mul]
theorem most_has {P b P' b' : Nat} (hb : 1 ≤ b) (hb' : 1 ≤ b') (hPP : P ≤ P') : (IsVal P' b' (grQ P b) ∧ absQ (grQ P b) ≤ grQ P' b') ↔ grQ P b ≤ grQ P' b' := by
  rw [absQ_nonneg (grQ_nonneg P b)]
  constructor
  · exact fun h => h.2
  · intro h
    refine ⟨⟨2 ^ P - 1, (b : Int) - P + 1, by omega, ?_, absQ_nonneg (grQ_nonneg P b)⟩, h⟩
    have : 2 ^ P ≤ 2 ^ P' := Nat.pow_le_pow_right (by decide) hPP
    have : 0 < 2 ^ P := Nat.pow_pos (by decide)
    omega
theorem inside_iff {P b P' b' : Nat} (hP : 1 ≤ P) (hP' : 1 ≤ P') (hb : 1 ≤ b) (hb' : 1 ≤ b') :
    InsideP P b P' b' ↔ (IsVal P' b' ((2 : Rat) ^ (2 - (b : Int) - P)) ∧ absQ ((2 : Rat) ^ (2 - (b : Int) - P)) ≤ grQ P' b') ∧ (IsVal P' b' (grQ P b) ∧ absQ (grQ P b) ≤ grQ P' b') ∧ P ≤ P' := by
  rw [least_has hP hP' hb]
  unfold InsideP
  constructor
  · rintro ⟨h1, h2, h3⟩; exact ⟨h2, (most_has hb hb' h1).2 h3, h1⟩
  · rintro ⟨h1, h2, h3⟩; exact ⟨h3, h1, (most_has hb hb' h3).1 h2⟩
theorem IsVal.wider {P b P' b' : Nat} {q : Rat} (h : IsVal P b q) (hi : InsideP P b P' b') : IsVal P' b' q := by
  obtain ⟨m, j, h1, h2, h3⟩ := h
  obtain ⟨i1, i2, _⟩ := hi
  exact ⟨m, j, by omega, Nat.lt_of_lt_of_le h2 (Nat.pow_le_pow_right (by decide) i1), h3⟩

theorem log_steps {P b f N : Nat} {q : Rat} {l : Int} (hP : 1 ≤ P) (hl : IsLog (absQ q) l) (e : absQ q = (N : Rat) * (2 : Rat) ^ (2 - (b : Int) - P + (f : Nat))) (hN : N < 2 ^ P) (hf : f = 0 ∨ 2 ^ (P - 1) ≤ N) : rdF b l = f ∧ rdN P b l q = N := by
  have u : l < (P : Int) + (2 - (b : Int) - P + (f : Nat)) := by
    rw [← p2_lt_iff, p2_add, p2_nat]
    refine lelt hl.1 ?_
    rw [e, Rat.mul_lt_mul_right (p2_pos _), Rat.natCast_lt_natCast]
    exact hN
  have hF : rdF b l = f := by
    unfold rdF
    rcases hf with h | h
    · omega
    · have h1 : ((P - 1 : Nat) : Int) + (2 - (b : Int) - P + (f : Nat)) < l + 1 := by
        rw [← p2_lt_iff, p2_add, p2_nat]
        refine lelt ?_ hl.2
        rw [e]
        refine Rat.mul_le_mul_of_nonneg_right ?_ (Rat.le_of_lt (p2_pos _))
        rw [Rat.natCast_le_natCast]; exact h
      omega
  refine ⟨hF, ?_⟩
  refine rdN_of ?_
  unfold rdT rdK
  rw [hF, e, Rat.mul_assoc, p2_cancel', Rat.mul_one]
theorem word_back {E P m n : Nat} {l : Int} (hE : 2 ≤ E) (hP : 1 ≤ P) (hn : n < 2 ^ (E + P)) (hk : wkind E P n = 2) (hl : IsLog (absQ (wval E P (bias E) n)) l) : (roundR E P (bias E) m (wval E P (bias E) n) l).1 = n := by
  have k2 : wkind E P n ≤ 2 := by omega
  have hfin := fin_wf k2
  have hp : 0 < 2 ^ (P - 1) := Nat.pow_pos (by decide)
  have hpp : 2 ^ P = 2 * 2 ^ (P - 1) := by rw [← Nat.pow_succ']; congr 1; omega
  have hr : wr P n < 2 ^ (P - 1) := Nat.mod_lt _ hp
  obtain ⟨h1, _⟩ := round_exact (E := E) (m := m) hl (wval_isVal hP) (wval_le hE hP hfin)
  have hN : wfr E P n < 2 ^ P := wfr_lt hP
  have hff : max (wf E P n) 1 - 1 = 0 ∨ 2 ^ (P - 1) ≤ wfr E P n := by
    by_cases h0 : wf E P n = 0
    · left; omega
    · right; unfold wfr; rw [if_neg h0]; omega
  obtain ⟨e1, e2⟩ := log_steps hP hl (wval_abs E P (bias E) n) hN hff
  have hpos : 0 < wfr E P n := by
    unfold wfr
    split
    · rename_i h0
      unfold wkind at hk
      rw [if_neg hfin] at hk
      by_cases h3 : wf E P n = 0 ∧ wr P n = 0
      · rw [if_pos h3] at hk; omega
      · have : wr P n ≠ 0 := fun e => h3 ⟨h0, e⟩
        omega
    · omega
  have hsz : (0 : Rat) < ((wfr E P n : Nat) : Rat) * (2 : Rat) ^ (2 - (bias E : Int) - P + ((max (wf E P n) 1 - 1 : Nat) : Int)) := Rat.mul_pos (by exact_mod_cast hpos) (p2_pos _)
  have hs : decide ((wval E P (bias E) n).num < 0) = wn E P n := by
    unfold wval
    cases wn E P n
    · rw [decide_eq_false]
      rw [num_neg_iff, if_neg (by decide), Rat.one_mul]
      exact Rat.not_lt.2 (Rat.le_of_lt hsz)
    · rw [decide_eq_true]
      rw [num_neg_iff, if_pos rfl]
      grind
  rw [h1, hs, e1, e2]
  have hsum : wfr E P n + (max (wf E P n) 1 - 1) * 2 ^ (P - 1) = n % 2 ^ (E + P - 1) := by
    have e3 : n % 2 ^ (E + P - 1) = wr P n + wf E P n * 2 ^ (P - 1) := by
      unfold wr wf
      rw [pow_EP hP, Nat.mod_mul, Nat.mul_comm]
    rw [e3]
    unfold wfr
    split
    · rename_i h0; rw [h0]; simp
    · rename_i h0
      have : wf E P n = (max (wf E P n) 1 - 1) + 1 := by omega
      conv => rhs; rw [this, Nat.add_mul]
      omega
  have hlt : wfr E P n + (max (wf E P n) 1 - 1) * 2 ^ (P - 1) < 2 ^ (E + P - 1) := by rw [hsum]; exact Nat.mod_lt _ (Nat.pow_pos (by decide))
  show wordN E P (wn E P n) (wfr E P n) (max (wf E P n) 1 - 1) = n
  rw [wordN_eq _ hlt, hsum]
  have h2 : 2 ^ (E + P) = 2 * 2 ^ (E + P - 1) := by rw [← Nat.pow_succ']; congr 1; omega
  have hq : n / 2 ^ (E + P - 1) < 2 := by rw [Nat.div_lt_iff_lt_mul (Nat.pow_pos (by decide))]; omega
  have hdm := Nat.div_add_mod n (2 ^ (E + P - 1))
  unfold wn
  by_cases h0 : n / 2 ^ (E + P - 1) = 0
  · rw [h0] at hdm
    simp only [h0]
    simp
    omega
  · have h1 : n / 2 ^ (E + P - 1) = 1 := Nat.le_antisymm (Nat.le_of_lt_succ hq) (Nat.pos_of_ne_zero h0)
    rw [h1] at hdm
    simp only [h1]
    simp
    omega
theorem zero_back {E P n : Nat} (hP : 1 ≤ P) (hn : n < 2 ^ (E + P)) (hE : 1 ≤ E) (hk : wkind E P n = 1) : sgb E P (wn E P n) = n := by
  have hfin := fin_wf (show wkind E P n ≤ 2 by omega)
  unfold wkind at hk
  rw [if_neg hfin] at hk
  by_cases h3 : wf E P n = 0 ∧ wr P n = 0
  · have e3 : n % 2 ^ (E + P - 1) = wr P n + wf E P n * 2 ^ (P - 1) := by
      unfold wr wf
      rw [pow_EP hP, Nat.mod_mul, Nat.mul_comm]
    rw [h3.1, h3.2] at e3
    have h2 : 2 ^ (E + P) = 2 * 2 ^ (E + P - 1) := by rw [← Nat.pow_succ']; congr 1; omega
    have hq : n / 2 ^ (E + P - 1) < 2 := by rw [Nat.div_lt_iff_lt_mul (Nat.pow_pos (by decide))]; omega
    have hdm := Nat.div_add_mod n (2 ^ (E + P - 1))
    unfold sgb wn
    by_cases h0 : n / 2 ^ (E + P - 1) = 0
    · rw [h0] at hdm
      simp only [h0]
      simp
      omega
    · have h1 : n / 2 ^ (E + P - 1) = 1 := Nat.le_antisymm (Nat.le_of_lt_succ hq) (Nat.pos_of_ne_zero h0)
      rw [h1] at hdm
      simp only [h1]
      simp
      omega
  · rw [if_neg h3] at hk; omega
end Go.Proofs.YtpdjenblkgaffaaGreatDoor

/- floats: Least, Greatest, of whatever format. -/
namespace Go.Proofs.YtpdjenblkgaffaaGreatDoor
open Go.RowKit Vn

theorem fmt_bounds {E P : Nat} (hF : Fmt E P) : (2 ≤ E ∧ E ≤ 11) ∧ (2 ≤ P ∧ P ≤ 113) ∧ bias E ≤ 1023 ∧ E + P ≤ 124 ∧ 1 ≤ bias E := by
  have hE : 2 ≤ E ∧ E ≤ 11 := by unfold Fmt at hF; omega
  have hP : 2 ≤ P ∧ P ≤ 113 := by unfold Fmt at hF; omega
  have hb : bias E ≤ 1023 := by
    have : 2 ^ (E - 1) ≤ 1024 := Nat.pow_le_pow_right (n := 2) (j := 10) (by decide) (by omega)
    unfold bias; omega
  exact ⟨hE, hP, hb, by omega, bias_pos hE.1⟩
theorem fmt_nat {E P : Int} (hF : Fmt E P) : ∃ e p : Nat, E = e ∧ P = p := by
  obtain ⟨e, he⟩ := Int.eq_ofNat_of_zero_le (show 0 ≤ E by unfold Fmt at hF; omega)
  obtain ⟨p, hp⟩ := Int.eq_ofNat_of_zero_le (show 0 ≤ P by unfold Fmt at hF; omega)
  exact ⟨e, p, he, hp⟩
theorem with_nil (E P : Nat) (w : World) (hF : Fmt E P) : Calls Tryz.prog 24 #[.agg #[.int .i64 (E : Nat), .int .i64 (P : Nat)], .int .i64 0, .slice none 0 0] w fun e w' => e = .returned (.tuple #[.agg #[.int .i64 (E : Nat), .int .i64 (P : Nat), .int .i64 0, .int .i64 (bias E : Nat)], .int .i64 0]) ∧ Ext w w' := by
  have := with_good E P 0 _ [] w (by decide) hF (WSl.nil w)
  rwa [show withRes E P 0 [] = .tuple #[.agg #[.int .i64 (E : Nat), .int .i64 (P : Nat), .int .i64 0, .int .i64 (bias E : Nat)], .int .i64 0] from by unfold withRes; rw [if_pos (fun x hx => by simp at hx)]; rfl] at this
theorem with_nilbad (E P : Int) (w : World) (hF : ¬ Fmt E P) : Calls Tryz.prog 24 #[.agg #[.int .i64 E, .int .i64 P], .int .i64 0, .slice none 0 0] w fun e w' => e = .returned (.tuple #[.agg #[.int .i64 0, .int .i64 0, .int .i64 0, .int .i64 0], .int .i64 2]) ∧ Ext w w' := with_bad E P 0 _ w (fun h => hF h.2.2)

set_option maxRecDepth 100000 in
set_option maxHeartbeats 4000000 in
theorem Least_good (E P : Nat) (w : World) (hF : Fmt E P) :
   Calls Tryz.prog 5 #[.agg #[.int .i64 (E : Nat), .int .i64 (P : Nat)]] w fun e w' => NumErr ((2 : Rat) ^ (2 - (bias E : Int) - P)) 0 w e w' := by
  obtain ⟨hE, hP, hb, hEP, hb1⟩ := fmt_bounds hF
  have CW := hid (fun w => with_nil E P w hF)
  have CL := hid (fun w => least_c E P 0 (bias E) w (hid (by omega)) (hid (by omega)))
  have CT := hid (fun w => two_c (2 - (bias E : Int) - P) w (by omega) (by omega))
  clear hF hE hP hb hEP hb1
  obtain ⟨W0, hW0, g0, hz0, B_F, B_Z⟩ := pro2s w #[.int .i64 (E : Nat), .int .i64 (P : Nat)] #[.bool false, .slice none 0 0, .slice none 0 0] 23 32
  have HE := hid g0
  have HB_F := hid B_F
  have HB_Z := hid B_Z
  clear g0 B_F B_Z 
  go_enter Tryz.func5, Tryz.ntmps5
  go_upto_region 1 with (fail)
  rw [← hW0]
  clear hW0
  obtain ⟨c_1, c_2⟩ := HB_F.out.c2
  obtain ⟨c_3, c_4, c_5⟩ := HB_Z.out.c3
  go_wp2_with fail
  clear c_1 c_2 c_3 c_4 c_5
  refine (CW.out _).mono ?_
  rintro e w1 ⟨rfl, g1⟩
  have hz_w1 := g1.size
  replace HE := hid (HE.out.trans g1)
  replace HB_F := hid (HB_F.out.ext g1)
  replace HB_Z := hid (HB_Z.out.ext g1)
  have gA := Ext.alloc w1 (.cells #[.int .i64 (E : Nat), .int .i64 (P : Nat), .int .i64 0, .int .i64 (bias E : Nat)] 63)
  obtain ⟨c_6, c_7⟩ := (HB_F.out.ext gA).c2
  obtain ⟨c_8, c_9, c_10⟩ := (HB_Z.out.ext gA).c3
  go_wp2_with fail
  clear gA c_6 c_7 c_8 c_9 c_10
  obtain ⟨W2, hW2, g2, hy2, B_M⟩ := pro1 w1 #[.int .i64 (E : Nat), .int .i64 (P : Nat), .int .i64 0, .int .i64 (bias E : Nat)] 63
  rw [← hW2]
  clear hW2
  have hz_W2 := g2.size
  replace HE := hid (HE.out.trans g2)
  replace HB_F := hid (HB_F.out.ext g2)
  replace HB_Z := hid (HB_Z.out.ext g2)
  have HB_M := hid B_M
  clear B_M
  refine (CL.out _).mono ?_
  rintro e w3 ⟨rfl, g3⟩
  have hz_w3 := g3.size
  replace HE := hid (HE.out.trans g3)
  replace HB_F := hid (HB_F.out.ext g3)
  replace HB_Z := hid (HB_Z.out.ext g3)
  replace HB_M := hid (HB_M.out.ext g3)
  obtain ⟨c_11, c_12⟩ := HB_F.out.c2
  obtain ⟨c_13, c_14, c_15⟩ := HB_Z.out.c3
  obtain ⟨c_16, c_17, c_18, c_19⟩ := HB_M.out.c4
  go_wp2_with fail
  clear c_11 c_12 c_13 c_14 c_15 c_16 c_17 c_18 c_19
  refine (CT.out _).mono ?_
  rintro e w4 ⟨v, rfl, kv, g4⟩
  have hz_w4 := g4.size
  replace HE := hid (HE.out.trans g4)
  replace HB_F := hid (HB_F.out.ext g4)
  replace HB_Z := hid (HB_Z.out.ext g4)
  replace HB_M := hid (HB_M.out.ext g4)
  obtain ⟨ng, a, n, c, a', n', c', rfl⟩ := kv.shape
  obtain ⟨c_20, c_21⟩ := HB_F.out.c2
  obtain ⟨c_22, c_23, c_24⟩ := HB_Z.out.c3
  obtain ⟨c_25, c_26, c_27, c_28⟩ := HB_M.out.c4
  obtain ⟨f_29, f_30, f_31⟩ := HB_Z.out.f3
  go_wp2_with fail
  clear c_20 c_21 c_22 c_23 c_24 c_25 c_26 c_27 c_28 f_29 f_30 f_31
  obtain ⟨W5, hW5, g5, q5, B5, hy5, ho5⟩ := sto3 HE.out (by omega) HB_Z.out (by decide) (.bool ng) (.slice a n c) (.slice a' n' c')
  rw [← hW5]
  clear hW5
  replace HE := hid g5
  replace HB_F := hid (ho5 _ _ _ (by omega) HB_F.out)
  replace HB_M := hid (ho5 _ _ _ (by omega) HB_M.out)
  replace HB_Z := hid B5
  replace kv := kv.keep q5
  unfold NumErr
  obtain ⟨c_32, c_33, c_34⟩ := HB_Z.out.c3
  refine bodyPost_ret (v := .tuple #[.agg #[.bool ng, .slice a n c, .slice a' n' c'], .int .i64 0]) (by simp [results, Tryz.results5, go_sem, c_32, c_33, c_34]) rfl ⟨_, rfl, kv, HE.out⟩
set_option maxRecDepth 100000 in
set_option maxHeartbeats 4000000 in
theorem Least_bad (E P : Int) (w : World) (hF : ¬ Fmt E P) :
   Calls Tryz.prog 5 #[.agg #[.int .i64 E, .int .i64 P]] w fun e w' => NumErr 0 2 w e w' := by
  have CW := hid (fun w => with_nilbad E P w hF)
  clear hF
  obtain ⟨W0, hW0, g0, hz0, B_F, B_Z⟩ := pro2s w #[.int .i64 E, .int .i64 P] #[.bool false, .slice none 0 0, .slice none 0 0] 23 32
  have HE := hid g0
  have HB_F := hid B_F
  have HB_Z := hid B_Z
  clear g0 B_F B_Z 
  go_enter Tryz.func5, Tryz.ntmps5
  go_upto_region 1 with (fail)
  rw [← hW0]
  clear hW0
  obtain ⟨c_1, c_2⟩ := HB_F.out.c2
  obtain ⟨c_3, c_4, c_5⟩ := HB_Z.out.c3
  go_wp2_with fail
  clear c_1 c_2 c_3 c_4 c_5
  refine (CW.out _).mono ?_
  rintro e w1 ⟨rfl, g1⟩
  have hz_w1 := g1.size
  replace HE := hid (HE.out.trans g1)
  replace HB_F := hid (HB_F.out.ext g1)
  replace HB_Z := hid (HB_Z.out.ext g1)
  have gA := Ext.alloc w1 (.cells #[.int .i64 0, .int .i64 0, .int .i64 0, .int .i64 0] 63)
  obtain ⟨c_6, c_7, c_8⟩ := (HB_Z.out.ext gA).c3
  obtain ⟨f_9, f_10, f_11⟩ := (HB_Z.out.ext gA).f3
  go_wp2_with fail
  clear gA c_6 c_7 c_8 f_9 f_10 f_11
  obtain ⟨W2, hW2, g2, hy2, B_M⟩ := pro1 w1 #[.int .i64 0, .int .i64 0, .int .i64 0, .int .i64 0] 63
  rw [← hW2]
  clear hW2
  have hz_W2 := g2.size
  replace HE := hid (HE.out.trans g2)
  replace HB_F := hid (HB_F.out.ext g2)
  replace HB_Z := hid (HB_Z.out.ext g2)
  have HB_M := hid B_M
  clear B_M
  obtain ⟨W3, hW3, g3, q3, B3, hy3, ho3⟩ := sto3 HE.out (by omega) HB_Z.out (by decide) (.bool false) (.slice none 0 0) (.slice none 0 0)
  rw [← hW3]
  clear hW3
  replace HE := hid g3
  replace HB_F := hid (ho3 _ _ _ (by omega) HB_F.out)
  replace HB_M := hid (ho3 _ _ _ (by omega) HB_M.out)
  replace HB_Z := hid B3
  unfold NumErr
  obtain ⟨c_12, c_13, c_14⟩ := HB_Z.out.c3
  refine bodyPost_ret (v := .tuple #[.agg #[.bool false, .slice none 0 0, .slice none 0 0], .int .i64 2]) (by simp [results, Tryz.results5, go_sem, c_12, c_13, c_14]) rfl ⟨_, rfl, NumV.zero _, HE.out⟩
set_option maxRecDepth 100000 in
set_option maxHeartbeats 4000000 in
theorem Greatest_good (E P : Nat) (w : World) (hF : Fmt E P) :
   Calls Tryz.prog 6 #[.agg #[.int .i64 (E : Nat), .int .i64 (P : Nat)]] w fun e w' => NumErr (grQ P (bias E)) 0 w e w' := by
  obtain ⟨hE, hP, hb, hEP, hb1⟩ := fmt_bounds hF
  have CW := hid (fun w => with_nil E P w hF)
  have CG := hid (fun w => greatest_c E P 0 (bias E) w hP hb)
  clear hF hE hP hb hEP hb1
  obtain ⟨W0, hW0, g0, hz0, B_F, B_Z⟩ := pro2s w #[.int .i64 (E : Nat), .int .i64 (P : Nat)] #[.bool false, .slice none 0 0, .slice none 0 0] 23 32
  have HE := hid g0
  have HB_F := hid B_F
  have HB_Z := hid B_Z
  clear g0 B_F B_Z 
  go_enter Tryz.func6, Tryz.ntmps6
  go_upto_region 1 with (fail)
  rw [← hW0]
  clear hW0
  obtain ⟨c_1, c_2⟩ := HB_F.out.c2
  obtain ⟨c_3, c_4, c_5⟩ := HB_Z.out.c3
  go_wp2_with fail
  clear c_1 c_2 c_3 c_4 c_5
  refine (CW.out _).mono ?_
  rintro e w1 ⟨rfl, g1⟩
  have hz_w1 := g1.size
  replace HE := hid (HE.out.trans g1)
  replace HB_F := hid (HB_F.out.ext g1)
  replace HB_Z := hid (HB_Z.out.ext g1)
  have gA := Ext.alloc w1 (.cells #[.int .i64 (E : Nat), .int .i64 (P : Nat), .int .i64 0, .int .i64 (bias E : Nat)] 63)
  obtain ⟨c_6, c_7⟩ := (HB_F.out.ext gA).c2
  obtain ⟨c_8, c_9, c_10⟩ := (HB_Z.out.ext gA).c3
  go_wp2_with fail
  clear gA c_6 c_7 c_8 c_9 c_10
  obtain ⟨W2, hW2, g2, hy2, B_M⟩ := pro1 w1 #[.int .i64 (E : Nat), .int .i64 (P : Nat), .int .i64 0, .int .i64 (bias E : Nat)] 63
  rw [← hW2]
  clear hW2
  have hz_W2 := g2.size
  replace HE := hid (HE.out.trans g2)
  replace HB_F := hid (HB_F.out.ext g2)
  replace HB_Z := hid (HB_Z.out.ext g2)
  have HB_M := hid B_M
  clear B_M
  refine (CG.out _).mono ?_
  rintro e w3 ⟨v, rfl, kv, g3⟩
  have hz_w3 := g3.size
  replace HE := hid (HE.out.trans g3)
  replace HB_F := hid (HB_F.out.ext g3)
  replace HB_Z := hid (HB_Z.out.ext g3)
  replace HB_M := hid (HB_M.out.ext g3)
  obtain ⟨ng, a, n, c, a', n', c', rfl⟩ := kv.shape
  obtain ⟨c_11, c_12⟩ := HB_F.out.c2
  obtain ⟨c_13, c_14, c_15⟩ := HB_Z.out.c3
  obtain ⟨c_16, c_17, c_18, c_19⟩ := HB_M.out.c4
  obtain ⟨f_20, f_21, f_22⟩ := HB_Z.out.f3
  go_wp2_with fail
  clear c_11 c_12 c_13 c_14 c_15 c_16 c_17 c_18 c_19 f_20 f_21 f_22
  obtain ⟨W4, hW4, g4, q4, B4, hy4, ho4⟩ := sto3 HE.out (by omega) HB_Z.out (by decide) (.bool ng) (.slice a n c) (.slice a' n' c')
  rw [← hW4]
  clear hW4
  replace HE := hid g4
  replace HB_F := hid (ho4 _ _ _ (by omega) HB_F.out)
  replace HB_M := hid (ho4 _ _ _ (by omega) HB_M.out)
  replace HB_Z := hid B4
  replace kv := kv.keep q4
  unfold NumErr
  obtain ⟨c_23, c_24, c_25⟩ := HB_Z.out.c3
  refine bodyPost_ret (v := .tuple #[.agg #[.bool ng, .slice a n c, .slice a' n' c'], .int .i64 0]) (by simp [results, Tryz.results6, go_sem, c_23, c_24, c_25]) rfl ⟨_, rfl, kv, HE.out⟩
set_option maxRecDepth 100000 in
set_option maxHeartbeats 4000000 in
theorem Greatest_bad (E P : Int) (w : World) (hF : ¬ Fmt E P) :
   Calls Tryz.prog 6 #[.agg #[.int .i64 E, .int .i64 P]] w fun e w' => NumErr 0 2 w e w' := by
  have CW := hid (fun w => with_nilbad E P w hF)
  clear hF
  obtain ⟨W0, hW0, g0, hz0, B_F, B_Z⟩ := pro2s w #[.int .i64 E, .int .i64 P] #[.bool false, .slice none 0 0, .slice none 0 0] 23 32
  have HE := hid g0
  have HB_F := hid B_F
  have HB_Z := hid B_Z
  clear g0 B_F B_Z 
  go_enter Tryz.func6, Tryz.ntmps6
  go_upto_region 1 with (fail)
  rw [← hW0]
  clear hW0
  obtain ⟨c_1, c_2⟩ := HB_F.out.c2
  obtain ⟨c_3, c_4, c_5⟩ := HB_Z.out.c3
  go_wp2_with fail
  clear c_1 c_2 c_3 c_4 c_5
  refine (CW.out _).mono ?_
  rintro e w1 ⟨rfl, g1⟩
  have hz_w1 := g1.size
  replace HE := hid (HE.out.trans g1)
  replace HB_F := hid (HB_F.out.ext g1)
  replace HB_Z := hid (HB_Z.out.ext g1)
  have gA := Ext.alloc w1 (.cells #[.int .i64 0, .int .i64 0, .int .i64 0, .int .i64 0] 63)
  obtain ⟨c_6, c_7, c_8⟩ := (HB_Z.out.ext gA).c3
  obtain ⟨f_9, f_10, f_11⟩ := (HB_Z.out.ext gA).f3
  go_wp2_with fail
  clear gA c_6 c_7 c_8 f_9 f_10 f_11
  obtain ⟨W2, hW2, g2, hy2, B_M⟩ := pro1 w1 #[.int .i64 0, .int .i64 0, .int .i64 0, .int .i64 0] 63
  rw [← hW2]
  clear hW2
  have hz_W2 := g2.size
  replace HE := hid (HE.out.trans g2)
  replace HB_F := hid (HB_F.out.ext g2)
  replace HB_Z := hid (HB_Z.out.ext g2)
  have HB_M := hid B_M
  clear B_M
  obtain ⟨W3, hW3, g3, q3, B3, hy3, ho3⟩ := sto3 HE.out (by omega) HB_Z.out (by decide) (.bool false) (.slice none 0 0) (.slice none 0 0)
  rw [← hW3]
  clear hW3
  replace HE := hid g3
  replace HB_F := hid (ho3 _ _ _ (by omega) HB_F.out)
  replace HB_M := hid (ho3 _ _ _ (by omega) HB_M.out)
  replace HB_Z := hid B3
  unfold NumErr
  obtain ⟨c_12, c_13, c_14⟩ := HB_Z.out.c3
  refine bodyPost_ret (v := .tuple #[.agg #[.bool false, .slice none 0 0, .slice none 0 0], .int .i64 2]) (by simp [results, Tryz.results6, go_sem, c_12, c_13, c_14]) rfl ⟨_, rfl, NumV.zero _, HE.out⟩

/-- the least value and the greatest one of whatever format, with the error. -/
def leastZ (E P : Int) : Rat := if Fmt E P then (2 : Rat) ^ (2 - (bias E.toNat : Int) - P) else 0
def greatZ (E P : Int) : Rat := if Fmt E P then grQ P.toNat (bias E.toNat) else 0
def fmtZ (E P : Int) : Int := if Fmt E P then 0 else 2
theorem Least_c (E P : Int) (w : World) : Calls Tryz.prog 5 #[.agg #[.int .i64 E, .int .i64 P]] w (NumErr (leastZ E P) (fmtZ E P) w) := by
  unfold leastZ fmtZ
  by_cases h : Fmt E P
  · rw [if_pos h, if_pos h]
    obtain ⟨e, p, rfl, rfl⟩ := fmt_nat h
    exact Least_good e p w h
  · rw [if_neg h, if_neg h]
    exact Least_bad E P w h
theorem Greatest_c (E P : Int) (w : World) : Calls Tryz.prog 6 #[.agg #[.int .i64 E, .int .i64 P]] w (NumErr (greatZ E P) (fmtZ E P) w) := by
  unfold greatZ fmtZ
  by_cases h : Fmt E P
  · rw [if_pos h, if_pos h]
    obtain ⟨e, p, rfl, rfl⟩ := fmt_nat h
    exact Greatest_good e p w h
  · rw [if_neg h, if_neg h]
    exact Greatest_bad E P w h
end Go.Proofs.YtpdjenblkgaffaaGreatDoor
