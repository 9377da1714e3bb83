/- floats: Value. -/
import Derived.Test.YtpjpaiaaimmngaaGreatDoorM39
import Derived.Test.YtpjpaiaaimmngaaGreatDoorM36
namespace Go.Proofs.YtpjpaiaaimmngaaGreatDoor
open Go.RowKit Vn

theorem wkind_cases (E P n : Nat) : wkind E P n = 3 ∨ wkind E P n = 4 ∨ wkind E P n = 5 ∨ wkind E P n = 1 ∨ wkind E P n = 2 := by
  unfold wkind
  split
  · split
    · simp
    · split <;> simp
  · split <;> simp
/-- the number and the error of a word. -/
def valueR (E P n : Nat) : Rat × Int := if ¬ n < 2 ^ (E + P) then (0, 6) else if 2 < wkind E P n then (0, 4) else (wvalK E P (bias E) n, 0)
def NumErr (q : Rat) (z : Int) (w : World) (e : Ending) (w' : World) : Prop := ∃ v, e = .returned (.tuple #[v, .int .i64 z]) ∧ NumV w' v q ∧ Ext w w'

set_option maxRecDepth 100000 in
set_option maxHeartbeats 4000000 in
theorem Value_good (E P n : Nat) (w : World) (hF : Fmt E P) (hn : W128 n) :
   Calls Tryz.prog 12 #[.agg #[.int .i64 (E : Nat), .int .i64 (P : Nat)], Word n] w fun e w' => NumErr (valueR E P n).1 (valueR E P n).2 w e w' := by
  obtain ⟨n0, hn0⟩ : ∃ n0 : Nat, n0 = n / 18446744073709551616 := ⟨_, rfl⟩
  obtain ⟨n1, hn1⟩ : ∃ n1 : Nat, n1 = n % 18446744073709551616 := ⟨_, rfl⟩
  have en : Word n = .agg #[.int .u64 n0, .int .u64 n1] := by unfold Word; rw [← hn0, ← hn1]
  have CL : Hid (∀ w, Calls Tryz.prog 34 #[.agg #[.int .i64 (E : Nat), .int .i64 (P : Nat), .int .i64 (0 : Nat), .int .i64 (bias E : Nat)], .agg #[.int .u64 n0, .int .u64 n1]] w (LookPost (wkind E P n) (wn E P n) (wvalK E P (bias E) n) w)) := hid fun w => by
    rw [← en]; exact look_c E P 0 (bias E) n w hF (by
      have : 2 ^ (E - 1) ≤ 1024 := Nat.pow_le_pow_right (n := 2) (by decide) (show E - 1 ≤ 10 by unfold Fmt at hF; omega)
      unfold bias; omega) hn
  rw [en]
  have HF := hid hF; have HN := hid hn; have HN0 := hid hn0; have HN1 := hid hn1
  clear hF hn hn0 hn1 en
  obtain ⟨W0, hW0, g0, hz0, B_F, B_W, B_Z⟩ := pro3s w #[.int .i64 (E : Nat), .int .i64 (P : Nat)] #[.int .u64 n0, .int .u64 n1] #[.bool false, .slice none 0 0, .slice none 0 0] 23 26 32
  have HE := hid g0
  have HB_F := hid B_F
  have HB_W := hid B_W
  have HB_Z := hid B_Z
  clear g0 B_F B_W B_Z 
  go_enter Tryz.func12, Tryz.ntmps12
  go_upto_region 1 with (fail)
  rw [← hW0]
  clear hW0
  obtain ⟨c_1, c_2⟩ := HB_F.out.c2
  obtain ⟨c_3, c_4⟩ := HB_W.out.c2
  obtain ⟨c_5, c_6, c_7⟩ := HB_Z.out.c3
  go_wp2_with fail
  clear c_1 c_2 c_3 c_4 c_5 c_6 c_7
  obtain ⟨W1, hW1, g1, hy1, B_R⟩ := pro1 W0 #[.int .u64 n0, .int .u64 n1] 26
  rw [← hW1]
  clear hW1
  have hz_W1 := g1.size
  replace HE := hid (HE.out.trans g1)
  replace HB_F := hid (HB_F.out.ext g1)
  replace HB_W := hid (HB_W.out.ext g1)
  replace HB_Z := hid (HB_Z.out.ext g1)
  have HB_R := hid B_R
  clear B_R
  have HWS : Hid (WSl W1 (.slice (some ⟨W0.heap.size, 0, none⟩) 1 1) [n]) := hid ⟨some ⟨W0.heap.size, 0, none⟩, W0.heap.size, 0, 1, rfl, Nat.le_refl _, by decide, fun _ => rfl, fun x hx => by
      rw [List.mem_singleton] at hx; rw [hx]; exact HN.out, fun i hi => by
      obtain rfl : i = 0 := by simpa using hi
      refine ⟨?_, ?_⟩
      · have := HB_R.out.cell 0; rw [HN0.out] at this; exact this
      · have := HB_R.out.cell 1; rw [HN1.out] at this; exact this⟩
  by_cases hfit : n < 2 ^ (E + P)
  · have HW : Hid (withRes E P 0 [n] = .tuple #[.agg #[.int .i64 (E : Nat), .int .i64 (P : Nat), .int .i64 (0 : Nat), .int .i64 (bias E : Nat)], .int .i64 0]) := hid (by unfold withRes; rw [if_pos (fun x hx => by rw [List.mem_singleton] at hx; rw [hx]; exact hfit)])
    have Hfit := hid hfit
    clear hfit
    refine (with_good E P 0 _ [n] _ (by decide) HF.out HWS.out).mono ?_
    rintro e w2 ⟨rfl, g2⟩
    have hz_w2 := g2.size
    replace HE := hid (HE.out.trans g2)
    replace HB_F := hid (HB_F.out.ext g2)
    replace HB_W := hid (HB_W.out.ext g2)
    replace HB_Z := hid (HB_Z.out.ext g2)
    rw [HW.out]
    have gA := Ext.alloc w2 (.cells #[.int .i64 (E : Nat), .int .i64 (P : Nat), .int .i64 0, .int .i64 (bias E : Nat)] 66)
    obtain ⟨c_8, c_9⟩ := (HB_F.out.ext gA).c2
    obtain ⟨c_10, c_11⟩ := (HB_W.out.ext gA).c2
    obtain ⟨c_12, c_13, c_14⟩ := (HB_Z.out.ext gA).c3
    go_wp2_with fail
    clear gA c_8 c_9 c_10 c_11 c_12 c_13 c_14
    obtain ⟨W3, hW3, g3, hy3, B_M⟩ := pro1 w2 #[.int .i64 (E : Nat), .int .i64 (P : Nat), .int .i64 0, .int .i64 (bias E : Nat)] 66
    rw [← hW3]
    clear hW3
    have hz_W3 := g3.size
    replace HE := hid (HE.out.trans g3)
    replace HB_F := hid (HB_F.out.ext g3)
    replace HB_W := hid (HB_W.out.ext g3)
    replace HB_Z := hid (HB_Z.out.ext g3)
    have HB_M := hid B_M
    clear B_M
    refine (CL.out _).mono ?_
    rintro e w4 ⟨v1, rfl, ⟨ng, a, k, c, a', k', c', rfl, kv⟩, g4⟩
    have hz_w4 := g4.size
    replace HE := hid (HE.out.trans g4)
    replace HB_F := hid (HB_F.out.ext g4)
    replace HB_W := hid (HB_W.out.ext g4)
    replace HB_Z := hid (HB_Z.out.ext g4)
    replace HB_M := hid (HB_M.out.ext g4)
    have HKd : Hid (wkind E P n = 3 ∨ wkind E P n = 4 ∨ wkind E P n = 5 ∨ wkind E P n = 1 ∨ wkind E P n = 2) := hid (wkind_cases E P n)
    have HV : Hid (valueR E P n = if 2 < wkind E P n then (0, 4) else (wvalK E P (bias E) n, 0)) := hid (by unfold valueR; rw [if_neg (fun h => h Hfit.out)])
    generalize wkind E P n = kd at *
    generalize wn E P n = sg at *
    by_cases h2 : 2 < kd
    · have hd : decide (2 < kd) = true := decide_eq_true h2
      have HV2 : Hid (valueR E P n = (0, 4)) := hid (by rw [HV.out, if_pos h2])
      clear h2
      have gA := Ext.alloc w4 (.cells #[.int .i64 kd, .bool sg, .bool ng, .slice a k c, .slice a' k' c'] 70)
      obtain ⟨c_15, c_16, c_17⟩ := (HB_Z.out.ext gA).c3
      obtain ⟨f_18, f_19, f_20⟩ := (HB_Z.out.ext gA).f3
      go_wp2_with fail
      clear gA c_15 c_16 c_17 f_18 f_19 f_20
      obtain ⟨W5, hW5, g5, hy5, B_X⟩ := pro1 w4 #[.int .i64 kd, .bool sg, .bool ng, .slice a k c, .slice a' k' c'] 70
      rw [← hW5]
      clear hW5
      have hz_W5 := g5.size
      replace HE := hid (HE.out.trans g5)
      replace HB_F := hid (HB_F.out.ext g5)
      replace HB_W := hid (HB_W.out.ext g5)
      replace HB_Z := hid (HB_Z.out.ext g5)
      replace HB_M := hid (HB_M.out.ext g5)
      replace kv := kv.ext g5
      have HB_X := hid B_X
      clear B_X
      obtain ⟨W6, hW6, g6, q6, B6, hy6, ho6⟩ := sto3 HE.out (by omega) HB_Z.out (by decide) (.bool false) (.slice none 0 0) (.slice none 0 0)
      rw [← hW6]
      clear hW6
      replace HE := hid g6
      replace HB_F := hid (ho6 _ _ _ (by omega) HB_F.out)
      replace HB_W := hid (ho6 _ _ _ (by omega) HB_W.out)
      replace HB_M := hid (ho6 _ _ _ (by omega) HB_M.out)
      replace HB_X := hid (ho6 _ _ _ (by omega) HB_X.out)
      replace HB_Z := hid B6
      replace kv := kv.keep q6
      unfold NumErr
      rw [HV2.out]
      obtain ⟨c_21, c_22, c_23⟩ := HB_Z.out.c3
      refine bodyPost_ret (v := .tuple #[.agg #[.bool false, .slice none 0 0, .slice none 0 0], .int .i64 4]) (by simp [results, Tryz.results12, go_sem, c_21, c_22, c_23]) rfl ⟨_, rfl, NumV.zero _, HE.out⟩
    · have hd : decide (2 < kd) = false := decide_eq_false h2
      have HV2 : Hid (valueR E P n = (wvalK E P (bias E) n, 0)) := hid (by rw [HV.out, if_neg h2])
      clear h2
      have gA := Ext.alloc w4 (.cells #[.int .i64 kd, .bool sg, .bool ng, .slice a k c, .slice a' k' c'] 70)
      obtain ⟨c_15, c_16, c_17⟩ := (HB_Z.out.ext gA).c3
      obtain ⟨f_18, f_19, f_20⟩ := (HB_Z.out.ext gA).f3
      go_wp2_with fail
      clear gA c_15 c_16 c_17 f_18 f_19 f_20
      obtain ⟨W5, hW5, g5, hy5, B_X⟩ := pro1 w4 #[.int .i64 kd, .bool sg, .bool ng, .slice a k c, .slice a' k' c'] 70
      rw [← hW5]
      clear hW5
      have hz_W5 := g5.size
      replace HE := hid (HE.out.trans g5)
      replace HB_F := hid (HB_F.out.ext g5)
      replace HB_W := hid (HB_W.out.ext g5)
      replace HB_Z := hid (HB_Z.out.ext g5)
      replace HB_M := hid (HB_M.out.ext g5)
      replace kv := kv.ext g5
      have HB_X := hid B_X
      clear B_X
      obtain ⟨W6, hW6, g6, q6, B6, hy6, ho6⟩ := sto3 HE.out (by omega) HB_Z.out (by decide) (.bool ng) (.slice a k c) (.slice a' k' c')
      rw [← hW6]
      clear hW6
      replace HE := hid g6
      replace HB_F := hid (ho6 _ _ _ (by omega) HB_F.out)
      replace HB_W := hid (ho6 _ _ _ (by omega) HB_W.out)
      replace HB_M := hid (ho6 _ _ _ (by omega) HB_M.out)
      replace HB_X := hid (ho6 _ _ _ (by omega) HB_X.out)
      replace HB_Z := hid B6
      replace kv := kv.keep q6
      unfold NumErr
      rw [HV2.out]
      obtain ⟨c_21, c_22, c_23⟩ := HB_Z.out.c3
      refine bodyPost_ret (v := .tuple #[.agg #[.bool ng, .slice a k c, .slice a' k' c'], .int .i64 0]) (by simp [results, Tryz.results12, go_sem, c_21, c_22, c_23]) rfl ⟨_, rfl, kv, HE.out⟩
  · have HW : Hid (withRes E P 0 [n] = .tuple #[.agg #[.int .i64 0, .int .i64 0, .int .i64 0, .int .i64 0], .int .i64 6]) := hid (by unfold withRes; rw [if_neg (fun h => hfit (h n (by simp)))])
    have HV2 : Hid (valueR E P n = (0, 6)) := hid (by unfold valueR; rw [if_pos hfit])
    clear hfit
    refine (with_good E P 0 _ [n] _ (by decide) HF.out HWS.out).mono ?_
    rintro e w2 ⟨rfl, g2⟩
    have hz_w2 := g2.size
    replace HE := hid (HE.out.trans g2)
    replace HB_F := hid (HB_F.out.ext g2)
    replace HB_W := hid (HB_W.out.ext g2)
    replace HB_Z := hid (HB_Z.out.ext g2)
    rw [HW.out]
    have gA := Ext.alloc w2 (.cells #[.int .i64 0, .int .i64 0, .int .i64 0, .int .i64 0] 66)
    obtain ⟨c_8, c_9, c_10⟩ := (HB_Z.out.ext gA).c3
    obtain ⟨f_11, f_12, f_13⟩ := (HB_Z.out.ext gA).f3
    go_wp2_with fail
    clear gA c_8 c_9 c_10 f_11 f_12 f_13
    obtain ⟨W3, hW3, g3, hy3, B_M⟩ := pro1 w2 #[.int .i64 0, .int .i64 0, .int .i64 0, .int .i64 0] 66
    rw [← hW3]
    clear hW3
    have hz_W3 := g3.size
    replace HE := hid (HE.out.trans g3)
    replace HB_F := hid (HB_F.out.ext g3)
    replace HB_W := hid (HB_W.out.ext g3)
    replace HB_Z := hid (HB_Z.out.ext g3)
    have HB_M := hid B_M
    clear B_M
    obtain ⟨W4, hW4, g4, q4, B4, hy4, ho4⟩ := sto3 HE.out (by omega) HB_Z.out (by decide) (.bool false) (.slice none 0 0) (.slice none 0 0)
    rw [← hW4]
    clear hW4
    replace HE := hid g4
    replace HB_F := hid (ho4 _ _ _ (by omega) HB_F.out)
    replace HB_W := hid (ho4 _ _ _ (by omega) HB_W.out)
    replace HB_M := hid (ho4 _ _ _ (by omega) HB_M.out)
    replace HB_Z := hid B4
    unfold NumErr
    rw [HV2.out]
    obtain ⟨c_14, c_15, c_16⟩ := HB_Z.out.c3
    refine bodyPost_ret (v := .tuple #[.agg #[.bool false, .slice none 0 0, .slice none 0 0], .int .i64 6]) (by simp [results, Tryz.results12, go_sem, c_14, c_15, c_16]) rfl ⟨_, rfl, NumV.zero _, HE.out⟩
end Go.Proofs.YtpjpaiaaimmngaaGreatDoor

/- floats: Value of what is no format; round of 0; Round. -/
namespace Go.Proofs.YtpjpaiaaimmngaaGreatDoor
open Go.RowKit Vn

set_option maxRecDepth 100000 in
set_option maxHeartbeats 4000000 in
theorem Value_bad (E P : Int) (n : Nat) (w : World) (hF : ¬ Fmt E P) :
   Calls Tryz.prog 12 #[.agg #[.int .i64 E, .int .i64 P], Word n] w fun e w' => NumErr 0 2 w e w' := by
  obtain ⟨n0, n1, en⟩ := Word.shape n
  rw [en]
  have HF : Hid (¬ (0 ≤ (0 : Int) ∧ (0 : Int) ≤ 4 ∧ Fmt E P)) := hid (fun h => hF h.2.2)
  clear hF en
  obtain ⟨W0, hW0, g0, hz0, B_F, B_W, B_Z⟩ := pro3s w #[.int .i64 E, .int .i64 P] #[.int .u64 n0, .int .u64 n1] #[.bool false, .slice none 0 0, .slice none 0 0] 23 26 32
  have HE := hid g0
  have HB_F := hid B_F
  have HB_W := hid B_W
  have HB_Z := hid B_Z
  clear g0 B_F B_W B_Z 
  go_enter Tryz.func12, Tryz.ntmps12
  go_upto_region 1 with (fail)
  rw [← hW0]
  clear hW0
  obtain ⟨c_1, c_2⟩ := HB_F.out.c2
  obtain ⟨c_3, c_4⟩ := HB_W.out.c2
  obtain ⟨c_5, c_6, c_7⟩ := HB_Z.out.c3
  go_wp2_with fail
  clear c_1 c_2 c_3 c_4 c_5 c_6 c_7
  obtain ⟨W1, hW1, g1, hy1, B_R⟩ := pro1 W0 #[.int .u64 n0, .int .u64 n1] 26
  rw [← hW1]
  clear hW1
  have hz_W1 := g1.size
  replace HE := hid (HE.out.trans g1)
  replace HB_F := hid (HB_F.out.ext g1)
  replace HB_W := hid (HB_W.out.ext g1)
  replace HB_Z := hid (HB_Z.out.ext g1)
  have HB_R := hid B_R
  clear B_R
  refine (with_bad E P 0 _ _ HF.out).mono ?_
  rintro e w2 ⟨rfl, g2⟩
  have hz_w2 := g2.size
  replace HE := hid (HE.out.trans g2)
  replace HB_F := hid (HB_F.out.ext g2)
  replace HB_W := hid (HB_W.out.ext g2)
  replace HB_Z := hid (HB_Z.out.ext g2)
  have gA := Ext.alloc w2 (.cells #[.int .i64 0, .int .i64 0, .int .i64 0, .int .i64 0] 66)
  obtain ⟨c_8, c_9, c_10⟩ := (HB_Z.out.ext gA).c3
  obtain ⟨f_11, f_12, f_13⟩ := (HB_Z.out.ext gA).f3
  go_wp2_with fail
  clear gA c_8 c_9 c_10 f_11 f_12 f_13
  obtain ⟨W3, hW3, g3, hy3, B_M⟩ := pro1 w2 #[.int .i64 0, .int .i64 0, .int .i64 0, .int .i64 0] 66
  rw [← hW3]
  clear hW3
  have hz_W3 := g3.size
  replace HE := hid (HE.out.trans g3)
  replace HB_F := hid (HB_F.out.ext g3)
  replace HB_W := hid (HB_W.out.ext g3)
  replace HB_Z := hid (HB_Z.out.ext g3)
  have HB_M := hid B_M
  clear B_M
  obtain ⟨W4, hW4, g4, q4, B4, hy4, ho4⟩ := sto3 HE.out (by omega) HB_Z.out (by decide) (.bool false) (.slice none 0 0) (.slice none 0 0)
  rw [← hW4]
  clear hW4
  replace HE := hid g4
  replace HB_F := hid (ho4 _ _ _ (by omega) HB_F.out)
  replace HB_W := hid (ho4 _ _ _ (by omega) HB_W.out)
  replace HB_M := hid (ho4 _ _ _ (by omega) HB_M.out)
  replace HB_Z := hid B4
  unfold NumErr
  obtain ⟨c_14, c_15, c_16⟩ := HB_Z.out.c3
  refine bodyPost_ret (v := .tuple #[.agg #[.bool false, .slice none 0 0, .slice none 0 0], .int .i64 2]) (by simp [results, Tryz.results12, go_sem, c_14, c_15, c_16]) rfl ⟨_, rfl, NumV.zero _, HE.out⟩
set_option maxRecDepth 100000 in
set_option maxHeartbeats 4000000 in
theorem round_zero (E P b m : Nat) (x : Value) (w : World) (hF : Fmt E P) (hx : NumV w x 0) :
   Calls Tryz.prog 49 #[.agg #[.int .i64 E, .int .i64 P, .int .i64 m, .int .i64 b], x] w fun e w' => EndPost (0, 0) w e w' := by
  obtain ⟨ng, a, n, c, a', n', c', rfl⟩ := hx.shape
  have HX := hid hx
  have e0 : Word (sgb E P false) = .agg #[.int .u64 0, .int .u64 0] := by unfold Word sgb; simp
  have C1 : Hid (∀ w, Calls Tryz.prog 48 #[.agg #[.int .i64 E, .int .i64 P, .int .i64 m, .int .i64 b], .bool false] w fun e w' => e = .returned (.agg #[.int .u64 0, .int .u64 0]) ∧ Ext w w') := hid fun w => by rw [← e0]; exact zero_c E P m b false w hF
  clear hx hF e0
  obtain ⟨W0, hW0, g0, hz0, B_M, B_X, B_Z⟩ := pro3s w #[.int .i64 E, .int .i64 P, .int .i64 m, .int .i64 b] #[.bool ng, .slice a n c, .slice a' n' c'] #[.int .u64 0, .int .u64 0] 66 32 26
  have HE := hid g0
  have HB_M := hid B_M
  have HB_X := hid B_X
  have HB_Z := hid B_Z
  clear g0 B_M B_X B_Z 
  go_enter Tryz.func49, Tryz.ntmps49
  go_wp2_with fail
  rw [← hW0]
  clear hW0
  refine (sign_c _ 0 _ (HX.out.ext HE.out)).mono ?_
  rintro e w1 ⟨rfl, g1⟩
  have hz_w1 := g1.size
  replace HE := hid (HE.out.trans g1)
  replace HB_M := hid (HB_M.out.ext g1)
  replace HB_X := hid (HB_X.out.ext g1)
  replace HB_Z := hid (HB_Z.out.ext g1)
  rw [show (0 : Rat).num.sign = 0 from rfl]
  obtain ⟨c_1, c_2, c_3, c_4⟩ := HB_M.out.c4
  obtain ⟨c_5, c_6, c_7⟩ := HB_X.out.c3
  obtain ⟨c_8, c_9⟩ := HB_Z.out.c2
  go_wp2_with fail
  clear c_1 c_2 c_3 c_4 c_5 c_6 c_7 c_8 c_9
  refine (C1.out _).mono ?_
  rintro e w2 ⟨rfl, g2⟩
  have hz_w2 := g2.size
  replace HE := hid (HE.out.trans g2)
  replace HB_M := hid (HB_M.out.ext g2)
  replace HB_X := hid (HB_X.out.ext g2)
  replace HB_Z := hid (HB_Z.out.ext g2)
  obtain ⟨c_10, c_11, c_12, c_13⟩ := HB_M.out.c4
  obtain ⟨c_14, c_15, c_16⟩ := HB_X.out.c3
  obtain ⟨c_17, c_18⟩ := HB_Z.out.c2
  obtain ⟨f_19, f_20⟩ := HB_Z.out.f2
  go_wp2_with fail
  clear c_10 c_11 c_12 c_13 c_14 c_15 c_16 c_17 c_18 f_19 f_20
  obtain ⟨W3, hW3, g3, q3, B3, hy3, ho3⟩ := sto2 HE.out (by omega) HB_Z.out (by decide) (.int .u64 0) (.int .u64 0)
  rw [← hW3]
  clear hW3
  replace HE := hid g3
  replace HB_M := hid (ho3 _ _ _ (by omega) HB_M.out)
  replace HB_X := hid (ho3 _ _ _ (by omega) HB_X.out)
  replace HB_Z := hid B3
  unfold EndPost
  obtain ⟨c_21, c_22⟩ := HB_Z.out.c2
  refine bodyPost_ret (v := .tuple #[.agg #[.int .u64 0, .int .u64 0], .int .i64 0]) (by simp [results, Tryz.results49, go_sem, c_21, c_22]) rfl ⟨by show _ = Ending.returned (.tuple #[Word 0, .int .i64 0]); simp [Word], HE.out⟩

/-- the word and the flags of round, of whatever number. -/
def rnd (E P b m : Nat) (q : Rat) (l : Int) : Nat × Nat := if q = 0 then (0, 0) else roundR E P b m q l
theorem rnd_c (E P b m : Nat) (x : Value) (q : Rat) (l : Int) (K : Nat) (w : World) (hF : Fmt E P) (hm : m ≤ 4) (hb : b = bias E) (hx : NumV w x q) (sx : SmQ K q) (hK : K ≤ 12000) (hl : q ≠ 0 → IsLog (absQ q) l) (hT : Tabs w) :
   Calls Tryz.prog 49 #[.agg #[.int .i64 E, .int .i64 P, .int .i64 m, .int .i64 b], x] w (EndPost (rnd E P b m q l) w) := by
  unfold rnd
  by_cases h : q = 0
  · subst h
    rw [if_pos rfl]
    exact round_zero E P b m x w hF hx
  · rw [if_neg h]
    exact round_c E P b m x q l K w hF hm hb hx sx hK (fun e => h (Rat.num_eq_zero.1 e)) (hl h) hT
/-- the logarithm of the size is there. -/
theorem log_there (q : Rat) : ∃ l, q ≠ 0 → IsLog (absQ q) l := by
  by_cases h : q = 0
  · exact ⟨0, fun h' => absurd h h'⟩
  · exact ⟨_, fun _ => log_is (absQ_num_pos (fun e => h (Rat.num_eq_zero.1 e))) _ rfl⟩

end Go.Proofs.YtpjpaiaaimmngaaGreatDoor

/- floats: Round, number, Near (of a format and a mode that are valid). -/
namespace Go.Proofs.YtpjpaiaaimmngaaGreatDoor
open Go.RowKit Vn

/-- what Round returns. -/
def RoundPost (r : Nat × Nat) (z : Int) (w : World) (e : Ending) (w' : World) : Prop := e = .returned (.tuple #[Word r.1, .int .i64 (r.2 : Nat), .int .i64 z]) ∧ Ext w w'

/-- what number makes of a word. -/
def numberR (E P n : Nat) : Rat × Int := if (valueR E P n).2 ≠ 0 then (0, 7) else ((valueR E P n).1, 0)

set_option maxRecDepth 100000 in
set_option maxHeartbeats 4000000 in
theorem Round_good (E P m : Nat) (x : Value) (q : Rat) (l : Int) (K : Nat) (w : World) (hF : Fmt E P) (hm : m ≤ 4) (hx : NumV w x q) (sx : SmQ K q) (hK : K ≤ 12000) (hl : q ≠ 0 → IsLog (absQ q) l) (hT : Tabs w) :
   Calls Tryz.prog 57 #[.agg #[.int .i64 (E : Nat), .int .i64 (P : Nat)], .int .i64 (m : Nat), x] w fun e w' => RoundPost (rnd E P (bias E) m q l) 0 w e w' := by
  obtain ⟨ng, a, n, c, a', n', c', rfl⟩ := hx.shape
  have HX := hid hx
  have CR : Hid (∀ w, NumV w _ q → Tabs w → _) := hid fun w h hT => rnd_c E P (bias E) m (.agg #[.bool ng, .slice a n c, .slice a' n' c']) q l K w hF hm rfl h sx hK hl hT
  have HT := hid hT; have HF := hid hF; have HM := hid hm
  have HW : Hid (withRes E P m [] = .tuple #[.agg #[.int .i64 (E : Nat), .int .i64 (P : Nat), .int .i64 (m : Nat), .int .i64 (bias E : Nat)], .int .i64 0]) := hid (by unfold withRes; rw [if_pos (fun x hx => by simp at hx)])
  obtain ⟨r0, r1, er⟩ := Word.shape (rnd E P (bias E) m q l).1
  have Er := hid er
  clear hx sx hK hl hT hF hm er
  obtain ⟨W0, hW0, g0, hz0, B_F, B_X, B_Z⟩ := pro3s w #[.int .i64 (E : Nat), .int .i64 (P : Nat)] #[.bool ng, .slice a n c, .slice a' n' c'] #[.int .u64 0, .int .u64 0] 23 32 26
  have HE := hid g0
  have HB_F := hid B_F
  have HB_X := hid B_X
  have HB_Z := hid B_Z
  clear g0 B_F B_X B_Z 
  go_enter Tryz.func57, Tryz.ntmps57
  go_upto_region 1 with (fail)
  rw [← hW0]
  clear hW0
  have hx := HX.out.ext HE.out
  obtain ⟨c_1, c_2⟩ := HB_F.out.c2
  obtain ⟨c_3, c_4, c_5⟩ := HB_X.out.c3
  obtain ⟨c_6, c_7⟩ := HB_Z.out.c2
  go_wp2_with fail
  clear c_1 c_2 c_3 c_4 c_5 c_6 c_7
  refine (with_good E P m _ [] _ HM.out HF.out (WSl.nil _)).mono ?_
  rintro e w1 ⟨rfl, g1⟩
  have hz_w1 := g1.size
  replace HE := hid (HE.out.trans g1)
  replace HB_F := hid (HB_F.out.ext g1)
  replace HB_X := hid (HB_X.out.ext g1)
  replace HB_Z := hid (HB_Z.out.ext g1)
  replace hx := hx.ext g1
  rw [HW.out]
  have gA := Ext.alloc w1 (.cells #[.int .i64 (E : Nat), .int .i64 (P : Nat), .int .i64 (m : Nat), .int .i64 (bias E : Nat)] 66)
  obtain ⟨c_8, c_9⟩ := (HB_F.out.ext gA).c2
  obtain ⟨c_10, c_11, c_12⟩ := (HB_X.out.ext gA).c3
  obtain ⟨c_13, c_14⟩ := (HB_Z.out.ext gA).c2
  go_wp2_with fail
  clear gA c_8 c_9 c_10 c_11 c_12 c_13 c_14
  obtain ⟨W2, hW2, g2, hy2, B_M⟩ := pro1 w1 #[.int .i64 (E : Nat), .int .i64 (P : Nat), .int .i64 (m : Nat), .int .i64 (bias E : Nat)] 66
  rw [← hW2]
  clear hW2
  have hz_W2 := g2.size
  replace HE := hid (HE.out.trans g2)
  replace HB_F := hid (HB_F.out.ext g2)
  replace HB_X := hid (HB_X.out.ext g2)
  replace HB_Z := hid (HB_Z.out.ext g2)
  replace hx := hx.ext g2
  have HB_M := hid B_M
  clear B_M
  refine (CR.out _ hx (HT.out.ext HE.out)).mono ?_
  rintro e w3 ⟨rfl, g3⟩
  have hz_w3 := g3.size
  replace HE := hid (HE.out.trans g3)
  replace HB_F := hid (HB_F.out.ext g3)
  replace HB_X := hid (HB_X.out.ext g3)
  replace HB_Z := hid (HB_Z.out.ext g3)
  replace HB_M := hid (HB_M.out.ext g3)
  replace hx := hx.ext g3
  rw [Er.out]
  obtain ⟨c_15, c_16⟩ := HB_F.out.c2
  obtain ⟨c_17, c_18, c_19⟩ := HB_X.out.c3
  obtain ⟨c_20, c_21⟩ := HB_Z.out.c2
  obtain ⟨c_22, c_23, c_24, c_25⟩ := HB_M.out.c4
  obtain ⟨f_26, f_27⟩ := HB_Z.out.f2
  go_wp2_with fail
  clear c_15 c_16 c_17 c_18 c_19 c_20 c_21 c_22 c_23 c_24 c_25 f_26 f_27
  obtain ⟨W4, hW4, g4, q4, B4, hy4, ho4⟩ := sto2 HE.out (by omega) HB_Z.out (by decide) (.int .u64 r0) (.int .u64 r1)
  rw [← hW4]
  clear hW4
  replace HE := hid g4
  replace HB_F := hid (ho4 _ _ _ (by omega) HB_F.out)
  replace HB_X := hid (ho4 _ _ _ (by omega) HB_X.out)
  replace HB_M := hid (ho4 _ _ _ (by omega) HB_M.out)
  replace HB_Z := hid B4
  replace hx := hx.keep q4
  obtain ⟨W5, hW5, g5, q5, B5, hy5, ho5⟩ := sto2 HE.out (by omega) HB_Z.out (by decide) (.int .u64 r0) (.int .u64 r1)
  rw [← hW5]
  clear hW5
  replace HE := hid g5
  replace HB_F := hid (ho5 _ _ _ (by omega) HB_F.out)
  replace HB_X := hid (ho5 _ _ _ (by omega) HB_X.out)
  replace HB_M := hid (ho5 _ _ _ (by omega) HB_M.out)
  replace HB_Z := hid B5
  replace hx := hx.keep q5
  unfold RoundPost
  obtain ⟨c_28, c_29⟩ := HB_Z.out.c2
  refine bodyPost_ret (v := .tuple #[.agg #[.int .u64 r0, .int .u64 r1], .int .i64 ((rnd E P (bias E) m q l).2 : Nat), .int .i64 0]) (by simp [results, Tryz.results57, go_sem, c_28, c_29]) rfl ⟨by rw [Er.out], HE.out⟩
set_option maxRecDepth 100000 in
set_option maxHeartbeats 4000000 in
theorem number_good (E P n : Nat) (w : World) (hF : Fmt E P) (hn : W128 n) :
   Calls Tryz.prog 58 #[.agg #[.int .i64 (E : Nat), .int .i64 (P : Nat)], Word n, .int .i64 0] w fun e w' => NumErr (numberR E P n).1 (numberR E P n).2 w e w' := by
  obtain ⟨n0, n1, en⟩ := Word.shape n
  have CV : Hid (∀ w, Calls Tryz.prog 12 #[.agg #[.int .i64 (E : Nat), .int .i64 (P : Nat)], .agg #[.int .u64 n0, .int .u64 n1]] w (NumErr (valueR E P n).1 (valueR E P n).2 w)) := hid fun w => by rw [← en]; exact Value_good E P n w hF hn
  rw [en]
  clear hF hn en
  have HNR : Hid (numberR E P n = if (valueR E P n).2 ≠ 0 then (0, 7) else ((valueR E P n).1, 0)) := hid rfl
  obtain ⟨W0, hW0, g0, hz0, B_F, B_W, B_Z⟩ := pro3s w #[.int .i64 (E : Nat), .int .i64 (P : Nat)] #[.int .u64 n0, .int .u64 n1] #[.bool false, .slice none 0 0, .slice none 0 0] 23 26 32
  have HE := hid g0
  have HB_F := hid B_F
  have HB_W := hid B_W
  have HB_Z := hid B_Z
  clear g0 B_F B_W B_Z 
  go_enter Tryz.func58, Tryz.ntmps58
  go_upto_region 1 with (fail)
  rw [← hW0]
  clear hW0
  obtain ⟨c_1, c_2⟩ := HB_F.out.c2
  obtain ⟨c_3, c_4⟩ := HB_W.out.c2
  obtain ⟨c_5, c_6, c_7⟩ := HB_Z.out.c3
  go_wp2_with fail
  clear c_1 c_2 c_3 c_4 c_5 c_6 c_7
  refine (CV.out _).mono ?_
  rintro e w1 ⟨v1, rfl, kv, g1⟩
  have hz_w1 := g1.size
  replace HE := hid (HE.out.trans g1)
  replace HB_F := hid (HB_F.out.ext g1)
  replace HB_W := hid (HB_W.out.ext g1)
  replace HB_Z := hid (HB_Z.out.ext g1)
  generalize (valueR E P n).2 = z at *
  generalize (valueR E P n).1 = q at *
  obtain ⟨ng, a, k, c, a', k', c', rfl⟩ := kv.shape
  by_cases hz : z = 0
  · subst hz
    have HR : Hid (numberR E P n = (q, 0)) := hid (by rw [HNR.out]; simp)
    have gA := Ext.alloc w1 (.cells #[.bool ng, .slice a k c, .slice a' k' c'] 32)
    obtain ⟨c_8, c_9, c_10⟩ := (HB_Z.out.ext gA).c3
    obtain ⟨f_11, f_12, f_13⟩ := (HB_Z.out.ext gA).f3
    go_wp2_with fail
    clear gA c_8 c_9 c_10 f_11 f_12 f_13
    obtain ⟨W2, hW2, g2, hy2, B_X⟩ := pro1 w1 #[.bool ng, .slice a k c, .slice a' k' c'] 32
    rw [← hW2]
    clear hW2
    have hz_W2 := g2.size
    replace HE := hid (HE.out.trans g2)
    replace HB_F := hid (HB_F.out.ext g2)
    replace HB_W := hid (HB_W.out.ext g2)
    replace HB_Z := hid (HB_Z.out.ext g2)
    replace kv := kv.ext g2
    have HB_X := hid B_X
    clear B_X
    obtain ⟨W3, hW3, g3, q3, B3, hy3, ho3⟩ := sto3 HE.out (by omega) HB_Z.out (by decide) (.bool ng) (.slice a k c) (.slice a' k' c')
    rw [← hW3]
    clear hW3
    replace HE := hid g3
    replace HB_F := hid (ho3 _ _ _ (by omega) HB_F.out)
    replace HB_W := hid (ho3 _ _ _ (by omega) HB_W.out)
    replace HB_X := hid (ho3 _ _ _ (by omega) HB_X.out)
    replace HB_Z := hid B3
    replace kv := kv.keep q3
    unfold NumErr
    rw [HR.out]
    obtain ⟨c_14, c_15, c_16⟩ := HB_Z.out.c3
    refine bodyPost_ret (v := .tuple #[.agg #[.bool ng, .slice a k c, .slice a' k' c'], .int .i64 0]) (by simp [results, Tryz.results58, go_sem, c_14, c_15, c_16]) rfl ⟨_, rfl, kv, HE.out⟩
  · have hb : (z == 0) = false := beq_eq_false_iff_ne.2 hz
    have HR : Hid (numberR E P n = (0, 7)) := hid (by rw [HNR.out, if_pos hz])
    clear hz
    have gA := Ext.alloc w1 (.cells #[.bool ng, .slice a k c, .slice a' k' c'] 32)
    obtain ⟨c_8, c_9, c_10⟩ := (HB_Z.out.ext gA).c3
    obtain ⟨f_11, f_12, f_13⟩ := (HB_Z.out.ext gA).f3
    go_wp2_with fail
    clear gA c_8 c_9 c_10 f_11 f_12 f_13
    obtain ⟨W2, hW2, g2, hy2, B_X⟩ := pro1 w1 #[.bool ng, .slice a k c, .slice a' k' c'] 32
    rw [← hW2]
    clear hW2
    have hz_W2 := g2.size
    replace HE := hid (HE.out.trans g2)
    replace HB_F := hid (HB_F.out.ext g2)
    replace HB_W := hid (HB_W.out.ext g2)
    replace HB_Z := hid (HB_Z.out.ext g2)
    replace kv := kv.ext g2
    have HB_X := hid B_X
    clear B_X
    obtain ⟨W3, hW3, g3, q3, B3, hy3, ho3⟩ := sto3 HE.out (by omega) HB_Z.out (by decide) (.bool false) (.slice none 0 0) (.slice none 0 0)
    rw [← hW3]
    clear hW3
    replace HE := hid g3
    replace HB_F := hid (ho3 _ _ _ (by omega) HB_F.out)
    replace HB_W := hid (ho3 _ _ _ (by omega) HB_W.out)
    replace HB_X := hid (ho3 _ _ _ (by omega) HB_X.out)
    replace HB_Z := hid B3
    replace kv := kv.keep q3
    unfold NumErr
    rw [HR.out]
    obtain ⟨c_14, c_15, c_16⟩ := HB_Z.out.c3
    refine bodyPost_ret (v := .tuple #[.agg #[.bool false, .slice none 0 0, .slice none 0 0], .int .i64 7]) (by simp [results, Tryz.results58, go_sem, c_14, c_15, c_16]) rfl ⟨_, rfl, NumV.zero _, HE.out⟩
set_option maxRecDepth 100000 in
set_option maxHeartbeats 4000000 in
theorem Near_good (E P m : Nat) (x : Value) (q : Rat) (l : Int) (K : Nat) (w : World) (hF : Fmt E P) (hm : m ≤ 4) (hx : NumV w x q) (sx : SmQ K q) (hK : K ≤ 12000) (hl : q ≠ 0 → IsLog (absQ q) l) (hT : Tabs w) (hn : W128 (rnd E P (bias E) m q l).1) :
   Calls Tryz.prog 29 #[.agg #[.int .i64 (E : Nat), .int .i64 (P : Nat)], .int .i64 (m : Nat), x] w fun e w' => NumErr (numberR E P (rnd E P (bias E) m q l).1).1 (numberR E P (rnd E P (bias E) m q l).1).2 w e w' := by
  obtain ⟨ng, a, n, c, a', n', c', rfl⟩ := hx.shape
  have HX := hid hx
  have CR : Hid (∀ w, NumV w _ q → Tabs w → _) := hid fun w h hT => Round_good E P m (.agg #[.bool ng, .slice a n c, .slice a' n' c']) q l K w hF hm h sx hK hl hT
  obtain ⟨r0, r1, er⟩ := Word.shape (rnd E P (bias E) m q l).1
  have CN : Hid (∀ w, Calls Tryz.prog 58 #[.agg #[.int .i64 (E : Nat), .int .i64 (P : Nat)], .agg #[.int .u64 r0, .int .u64 r1], .int .i64 0] w (NumErr (numberR E P (rnd E P (bias E) m q l).1).1 (numberR E P (rnd E P (bias E) m q l).1).2 w)) := hid fun w => by rw [← er]; exact number_good E P _ w hF hn
  have HT := hid hT
  have Er := hid er
  clear hx sx hK hl hT hF hm er hn
  obtain ⟨W0, hW0, g0, hz0, B_F, B_X, B_Z⟩ := pro3s w #[.int .i64 (E : Nat), .int .i64 (P : Nat)] #[.bool ng, .slice a n c, .slice a' n' c'] #[.bool false, .slice none 0 0, .slice none 0 0] 23 32 32
  have HE := hid g0
  have HB_F := hid B_F
  have HB_X := hid B_X
  have HB_Z := hid B_Z
  clear g0 B_F B_X B_Z 
  go_enter Tryz.func29, Tryz.ntmps29
  go_upto_region 1 with (fail)
  rw [← hW0]
  clear hW0
  have hx := HX.out.ext HE.out
  obtain ⟨c_1, c_2⟩ := HB_F.out.c2
  obtain ⟨c_3, c_4, c_5⟩ := HB_X.out.c3
  obtain ⟨c_6, c_7, c_8⟩ := HB_Z.out.c3
  go_wp2_with fail
  clear c_1 c_2 c_3 c_4 c_5 c_6 c_7 c_8
  refine (CR.out _ hx (HT.out.ext HE.out)).mono ?_
  rintro e w1 ⟨rfl, g1⟩
  have hz_w1 := g1.size
  replace HE := hid (HE.out.trans g1)
  replace HB_F := hid (HB_F.out.ext g1)
  replace HB_X := hid (HB_X.out.ext g1)
  replace HB_Z := hid (HB_Z.out.ext g1)
  rw [Er.out]
  have gA := Ext.alloc w1 (.cells #[.int .u64 r0, .int .u64 r1] 26)
  obtain ⟨c_9, c_10⟩ := (HB_F.out.ext gA).c2
  obtain ⟨c_11, c_12, c_13⟩ := (HB_X.out.ext gA).c3
  obtain ⟨c_14, c_15, c_16⟩ := (HB_Z.out.ext gA).c3
  go_wp2_with fail
  clear gA c_9 c_10 c_11 c_12 c_13 c_14 c_15 c_16
  obtain ⟨W2, hW2, g2, hy2, B_W⟩ := pro1 w1 #[.int .u64 r0, .int .u64 r1] 26
  rw [← hW2]
  clear hW2
  have hz_W2 := g2.size
  replace HE := hid (HE.out.trans g2)
  replace HB_F := hid (HB_F.out.ext g2)
  replace HB_X := hid (HB_X.out.ext g2)
  replace HB_Z := hid (HB_Z.out.ext g2)
  have HB_W := hid B_W
  clear B_W
  refine (CN.out _).mono ?_
  rintro e w3 ⟨v1, rfl, kv, g3⟩
  have hz_w3 := g3.size
  replace HE := hid (HE.out.trans g3)
  replace HB_F := hid (HB_F.out.ext g3)
  replace HB_X := hid (HB_X.out.ext g3)
  replace HB_Z := hid (HB_Z.out.ext g3)
  replace HB_W := hid (HB_W.out.ext g3)
  obtain ⟨mg, d, k, e, d', k', e', rfl⟩ := kv.shape
  obtain ⟨c_17, c_18, c_19⟩ := HB_Z.out.c3
  obtain ⟨f_20, f_21, f_22⟩ := HB_Z.out.f3
  go_wp2_with fail
  clear c_17 c_18 c_19 f_20 f_21 f_22
  obtain ⟨W4, hW4, g4, q4, B4, hy4, ho4⟩ := sto3 HE.out (by omega) HB_Z.out (by decide) (.bool mg) (.slice d k e) (.slice d' k' e')
  rw [← hW4]
  clear hW4
  replace HE := hid g4
  replace HB_F := hid (ho4 _ _ _ (by omega) HB_F.out)
  replace HB_X := hid (ho4 _ _ _ (by omega) HB_X.out)
  replace HB_W := hid (ho4 _ _ _ (by omega) HB_W.out)
  replace HB_Z := hid B4
  replace kv := kv.keep q4
  unfold NumErr
  obtain ⟨c_23, c_24, c_25⟩ := HB_Z.out.c3
  refine bodyPost_ret (v := .tuple #[.agg #[.bool mg, .slice d k e, .slice d' k' e'], .int .i64 (numberR E P (rnd E P (bias E) m q l).1).2]) (by simp [results, Tryz.results29, go_sem, c_23, c_24, c_25]) rfl ⟨_, rfl, kv, HE.out⟩
end Go.Proofs.YtpjpaiaaimmngaaGreatDoor

/- the law's numbers: the numbers of two words. -/
namespace Go.Proofs.YtpjpaiaaimmngaaGreatDoor
open Go.RowKit Vn

theorem Box.c9 {w : World} {b : Nat} {x0 x1 x2 x3 x4 x5 x6 x7 x8 : Value} {t : TypeId} (h : Box w b #[x0, x1, x2, x3, x4, x5, x6, x7, x8] t) :
    w.cell? ⟨b, 0, none⟩ = some x0 ∧ w.cell? ⟨b, 1, none⟩ = some x1 ∧ w.cell? ⟨b, 2, none⟩ = some x2 ∧ w.cell? ⟨b, 3, none⟩ = some x3 ∧ w.cell? ⟨b, 4, none⟩ = some x4 ∧ w.cell? ⟨b, 5, none⟩ = some x5 ∧ w.cell? ⟨b, 6, none⟩ = some x6 ∧ w.cell? ⟨b, 7, none⟩ = some x7 ∧ w.cell? ⟨b, 8, none⟩ = some x8 :=
  ⟨h.cell 0, h.cell 1, h.cell 2, h.cell 3, h.cell 4, h.cell 5, h.cell 6, h.cell 7, h.cell 8⟩
/-- the number and the error of a word of whatever format. -/
def valueZ (E P : Int) (n : Nat) : Rat × Int := if Fmt E P then valueR E.toNat P.toNat n else (0, 2)
theorem Value_c (E P : Int) (n : Nat) (w : World) (hn : W128 n) :
   Calls Tryz.prog 12 #[.agg #[.int .i64 E, .int .i64 P], Word n] w (NumErr (valueZ E P n).1 (valueZ E P n).2 w) := by
  unfold valueZ
  by_cases h : Fmt E P
  · rw [if_pos h]
    obtain ⟨e, rfl⟩ := Int.eq_ofNat_of_zero_le (show 0 ≤ E by unfold Fmt at h; omega)
    obtain ⟨p, rfl⟩ := Int.eq_ofNat_of_zero_le (show 0 ≤ P by unfold Fmt at h; omega)
    exact Value_good e p n w h hn
  · rw [if_neg h]
    exact Value_bad E P n w h
def TwoNums (qa : Rat) (za : Int) (qb : Rat) (zb : Int) (w : World) (e : Ending) (w' : World) : Prop :=
  ∃ u v, e = .returned (.tuple #[u, v, .bool (decide (za = 0) && decide (zb = 0))]) ∧ NumV w' u qa ∧ NumV w' v qb ∧ Ext w w'

set_option maxRecDepth 100000 in
set_option maxHeartbeats 4000000 in
theorem numbers_x (E P M : Int) (i0 i1 j0 j1 : Nat) (c0 c1 : Int) (qa : Rat) (za : Int) (qb : Rat) (zb : Int) (w : World) (hza : za = 0 ∨ za = 2 ∨ za = 4 ∨ za = 6) (_hzb : zb = 0 ∨ zb = 2 ∨ zb = 4 ∨ zb = 6) (CA : Hid (∀ w, Calls Tryz.prog 12 #[.agg #[.int .i64 E, .int .i64 P], .agg #[.int .u64 (i0 : Nat), .int .u64 (i1 : Nat)]] w (NumErr qa za w))) (CB : Hid (∀ w, Calls Tryz.prog 12 #[.agg #[.int .i64 E, .int .i64 P], .agg #[.int .u64 (j0 : Nat), .int .u64 (j1 : Nat)]] w (NumErr qb zb w))) :
   Calls Tryz.prog 6 #[.agg #[.int .i64 E, .int .i64 P, .int .i64 M, .int .u64 (i0 : Nat), .int .u64 (i1 : Nat), .int .u64 (j0 : Nat), .int .u64 (j1 : Nat), .int .u64 c0, .int .u64 c1]] w fun e w' => TwoNums qa za qb zb w e w' := by
  obtain ⟨W0, hW0, g0, hz0, B_O, B_Y, B_Z⟩ := pro3s w #[.int .i64 E, .int .i64 P, .int .i64 M, .int .u64 (i0 : Nat), .int .u64 (i1 : Nat), .int .u64 (j0 : Nat), .int .u64 (j1 : Nat), .int .u64 c0, .int .u64 c1] #[.bool false, .slice none 0 0, .slice none 0 0] #[.bool false, .slice none 0 0, .slice none 0 0] 28 32 32
  have HE := hid g0
  have HB_O := hid B_O
  have HB_Y := hid B_Y
  have HB_Z := hid B_Z
  clear g0 B_O B_Y B_Z 
  go_enter Tryz.func6, Tryz.ntmps6
  go_upto_region 1 with (fail)
  rw [← hW0]
  clear hW0
  obtain ⟨c_1, c_2, c_3, c_4, c_5, c_6, c_7, c_8, c_9⟩ := HB_O.out.c9
  obtain ⟨c_10, c_11, c_12⟩ := HB_Y.out.c3
  obtain ⟨c_13, c_14, c_15⟩ := HB_Z.out.c3
  go_wp2_with fail
  clear c_1 c_2 c_3 c_4 c_5 c_6 c_7 c_8 c_9 c_10 c_11 c_12 c_13 c_14 c_15
  refine (CA.out _).mono ?_
  rintro e w1 ⟨va, rfl, k1, g1⟩
  have hz_w1 := g1.size
  replace HE := hid (HE.out.trans g1)
  replace HB_O := hid (HB_O.out.ext g1)
  replace HB_Y := hid (HB_Y.out.ext g1)
  replace HB_Z := hid (HB_Z.out.ext g1)
  obtain ⟨nga, aa, na, ca, aa', na', ca', rfl⟩ := k1.shape
  have gA := Ext.alloc w1 (.cells #[.bool nga, .slice aa na ca, .slice aa' na' ca'] 32)
  obtain ⟨c_16, c_17, c_18, c_19, c_20, c_21, c_22, c_23, c_24⟩ := (HB_O.out.ext gA).c9
  obtain ⟨c_25, c_26, c_27⟩ := (HB_Y.out.ext gA).c3
  obtain ⟨c_28, c_29, c_30⟩ := (HB_Z.out.ext gA).c3
  go_wp2_with fail
  clear gA c_16 c_17 c_18 c_19 c_20 c_21 c_22 c_23 c_24 c_25 c_26 c_27 c_28 c_29 c_30
  obtain ⟨W2, hW2, g2, hy2, B_X⟩ := pro1 w1 #[.bool nga, .slice aa na ca, .slice aa' na' ca'] 32
  rw [← hW2]
  clear hW2
  have hz_W2 := g2.size
  replace HE := hid (HE.out.trans g2)
  replace HB_O := hid (HB_O.out.ext g2)
  replace HB_Y := hid (HB_Y.out.ext g2)
  replace HB_Z := hid (HB_Z.out.ext g2)
  replace k1 := k1.ext g2
  have HB_X := hid B_X
  clear B_X
  refine (CB.out _).mono ?_
  rintro e w3 ⟨vb, rfl, k3, g3⟩
  have hz_w3 := g3.size
  replace HE := hid (HE.out.trans g3)
  replace HB_O := hid (HB_O.out.ext g3)
  replace HB_Y := hid (HB_Y.out.ext g3)
  replace HB_Z := hid (HB_Z.out.ext g3)
  replace HB_X := hid (HB_X.out.ext g3)
  replace k1 := k1.ext g3
  obtain ⟨ngb, ab, nb, cb, ab', nb', cb', rfl⟩ := k3.shape
  have gA := Ext.alloc w3 (.cells #[.bool ngb, .slice ab nb cb, .slice ab' nb' cb'] 32)
  obtain ⟨c_31, c_32, c_33, c_34, c_35, c_36, c_37, c_38, c_39⟩ := (HB_O.out.ext gA).c9
  obtain ⟨c_40, c_41, c_42⟩ := (HB_Y.out.ext gA).c3
  obtain ⟨c_43, c_44, c_45⟩ := (HB_Z.out.ext gA).c3
  obtain ⟨c_46, c_47, c_48⟩ := (HB_X.out.ext gA).c3
  go_wp2_with fail
  clear gA c_31 c_32 c_33 c_34 c_35 c_36 c_37 c_38 c_39 c_40 c_41 c_42 c_43 c_44 c_45 c_46 c_47 c_48
  obtain ⟨W4, hW4, g4, hy4, B_V⟩ := pro1 w3 #[.bool ngb, .slice ab nb cb, .slice ab' nb' cb'] 32
  rw [← hW4]
  clear hW4
  have hz_W4 := g4.size
  replace HE := hid (HE.out.trans g4)
  replace HB_O := hid (HB_O.out.ext g4)
  replace HB_Y := hid (HB_Y.out.ext g4)
  replace HB_Z := hid (HB_Z.out.ext g4)
  replace HB_X := hid (HB_X.out.ext g4)
  replace k1 := k1.ext g4
  replace k3 := k3.ext g4
  have HB_V := hid B_V
  clear B_V
  have hb0 : Ext W4 W4.drew := Below.drew (Below.refl _ W4)
  obtain ⟨c_49, c_50, c_51⟩ := HB_X.out.c3
  obtain ⟨c_52, c_53, c_54⟩ := HB_V.out.c3
  obtain ⟨c_55, c_56, c_57⟩ := HB_Y.out.c3
  obtain ⟨c_58, c_59, c_60⟩ := HB_Z.out.c3
  obtain ⟨f_61, f_62, f_63⟩ := HB_Y.out.f3
  obtain ⟨f_64, f_65, f_66⟩ := HB_Z.out.f3
  have hyz : w.heap.size + 1 ≠ w.heap.size + 1 + 1 := by omega
  have hzy : w.heap.size + 1 + 1 ≠ w.heap.size + 1 := by omega
  rcases hza with rfl | rfl | rfl | rfl
  · go_region
    clear c_49 c_50 c_51 c_52 c_53 c_54 c_55 c_56 c_57 c_58 c_59 c_60 f_61 f_62 f_63 f_64 f_65 f_66
    obtain ⟨W5, hW5, g5, q5, B5, hy5, ho5⟩ := sto3 HE.out (by omega) HB_Y.out (by decide) (.bool nga) (.slice aa na ca) (.slice aa' na' ca')
    rw [← hW5]
    clear hW5
    replace HE := hid g5
    replace HB_O := hid (ho5 _ _ _ (by omega) HB_O.out)
    replace HB_Z := hid (ho5 _ _ _ (by omega) HB_Z.out)
    replace HB_X := hid (ho5 _ _ _ (by omega) HB_X.out)
    replace HB_V := hid (ho5 _ _ _ (by omega) HB_V.out)
    replace HB_Y := hid B5
    replace k1 := k1.keep q5
    replace k3 := k3.keep q5
    obtain ⟨W6, hW6, g6, q6, B6, hy6, ho6⟩ := sto3 HE.out (by omega) HB_Z.out (by decide) (.bool ngb) (.slice ab nb cb) (.slice ab' nb' cb')
    rw [← hW6]
    clear hW6
    replace HE := hid g6
    replace HB_O := hid (ho6 _ _ _ (by omega) HB_O.out)
    replace HB_Y := hid (ho6 _ _ _ (by omega) HB_Y.out)
    replace HB_X := hid (ho6 _ _ _ (by omega) HB_X.out)
    replace HB_V := hid (ho6 _ _ _ (by omega) HB_V.out)
    replace HB_Z := hid B6
    replace k1 := k1.keep q6
    replace k3 := k3.keep q6
    have gd : Ext W6 W6.drew := Below.drew (Below.refl _ W6)
    replace HE := hid (HE.out.trans gd)
    replace HB_O := hid (HB_O.out.ext gd)
    replace HB_Y := hid (HB_Y.out.ext gd)
    replace HB_Z := hid (HB_Z.out.ext gd)
    replace HB_X := hid (HB_X.out.ext gd)
    replace HB_V := hid (HB_V.out.ext gd)
    replace k1 := k1.ext gd
    replace k3 := k3.ext gd
    go_wp2_with fail
    obtain ⟨c_67, c_68, c_69⟩ := HB_Y.out.c3
    obtain ⟨c_70, c_71, c_72⟩ := HB_Z.out.c3
    refine bodyPost_ret (v := .tuple #[.agg #[.bool nga, .slice aa na ca, .slice aa' na' ca'], .agg #[.bool ngb, .slice ab nb cb, .slice ab' nb' cb'], .bool (zb == 0)]) (by simp [results, Tryz.results6, go_sem, c_67, c_68, c_69, c_70, c_71, c_72]) rfl ⟨_, _, ?_, k1, k3, HE.out⟩
    rfl
  · go_region
    clear c_49 c_50 c_51 c_52 c_53 c_54 c_55 c_56 c_57 c_58 c_59 c_60 f_61 f_62 f_63 f_64 f_65 f_66
    obtain ⟨W5, hW5, g5, q5, B5, hy5, ho5⟩ := sto3 HE.out (by omega) HB_Y.out (by decide) (.bool nga) (.slice aa na ca) (.slice aa' na' ca')
    rw [← hW5]
    clear hW5
    replace HE := hid g5
    replace HB_O := hid (ho5 _ _ _ (by omega) HB_O.out)
    replace HB_Z := hid (ho5 _ _ _ (by omega) HB_Z.out)
    replace HB_X := hid (ho5 _ _ _ (by omega) HB_X.out)
    replace HB_V := hid (ho5 _ _ _ (by omega) HB_V.out)
    replace HB_Y := hid B5
    replace k1 := k1.keep q5
    replace k3 := k3.keep q5
    obtain ⟨W6, hW6, g6, q6, B6, hy6, ho6⟩ := sto3 HE.out (by omega) HB_Z.out (by decide) (.bool ngb) (.slice ab nb cb) (.slice ab' nb' cb')
    rw [← hW6]
    clear hW6
    replace HE := hid g6
    replace HB_O := hid (ho6 _ _ _ (by omega) HB_O.out)
    replace HB_Y := hid (ho6 _ _ _ (by omega) HB_Y.out)
    replace HB_X := hid (ho6 _ _ _ (by omega) HB_X.out)
    replace HB_V := hid (ho6 _ _ _ (by omega) HB_V.out)
    replace HB_Z := hid B6
    replace k1 := k1.keep q6
    replace k3 := k3.keep q6
    have gd : Ext W6 W6.drew := Below.drew (Below.refl _ W6)
    replace HE := hid (HE.out.trans gd)
    replace HB_O := hid (HB_O.out.ext gd)
    replace HB_Y := hid (HB_Y.out.ext gd)
    replace HB_Z := hid (HB_Z.out.ext gd)
    replace HB_X := hid (HB_X.out.ext gd)
    replace HB_V := hid (HB_V.out.ext gd)
    replace k1 := k1.ext gd
    replace k3 := k3.ext gd
    go_wp2_with fail
    obtain ⟨c_67, c_68, c_69⟩ := HB_Y.out.c3
    obtain ⟨c_70, c_71, c_72⟩ := HB_Z.out.c3
    refine bodyPost_ret (v := .tuple #[.agg #[.bool nga, .slice aa na ca, .slice aa' na' ca'], .agg #[.bool ngb, .slice ab nb cb, .slice ab' nb' cb'], .bool false]) (by simp [results, Tryz.results6, go_sem, c_67, c_68, c_69, c_70, c_71, c_72]) rfl ⟨_, _, ?_, k1, k3, HE.out⟩
    rfl
  · go_region
    clear c_49 c_50 c_51 c_52 c_53 c_54 c_55 c_56 c_57 c_58 c_59 c_60 f_61 f_62 f_63 f_64 f_65 f_66
    obtain ⟨W5, hW5, g5, q5, B5, hy5, ho5⟩ := sto3 HE.out (by omega) HB_Y.out (by decide) (.bool nga) (.slice aa na ca) (.slice aa' na' ca')
    rw [← hW5]
    clear hW5
    replace HE := hid g5
    replace HB_O := hid (ho5 _ _ _ (by omega) HB_O.out)
    replace HB_Z := hid (ho5 _ _ _ (by omega) HB_Z.out)
    replace HB_X := hid (ho5 _ _ _ (by omega) HB_X.out)
    replace HB_V := hid (ho5 _ _ _ (by omega) HB_V.out)
    replace HB_Y := hid B5
    replace k1 := k1.keep q5
    replace k3 := k3.keep q5
    obtain ⟨W6, hW6, g6, q6, B6, hy6, ho6⟩ := sto3 HE.out (by omega) HB_Z.out (by decide) (.bool ngb) (.slice ab nb cb) (.slice ab' nb' cb')
    rw [← hW6]
    clear hW6
    replace HE := hid g6
    replace HB_O := hid (ho6 _ _ _ (by omega) HB_O.out)
    replace HB_Y := hid (ho6 _ _ _ (by omega) HB_Y.out)
    replace HB_X := hid (ho6 _ _ _ (by omega) HB_X.out)
    replace HB_V := hid (ho6 _ _ _ (by omega) HB_V.out)
    replace HB_Z := hid B6
    replace k1 := k1.keep q6
    replace k3 := k3.keep q6
    have gd : Ext W6 W6.drew := Below.drew (Below.refl _ W6)
    replace HE := hid (HE.out.trans gd)
    replace HB_O := hid (HB_O.out.ext gd)
    replace HB_Y := hid (HB_Y.out.ext gd)
    replace HB_Z := hid (HB_Z.out.ext gd)
    replace HB_X := hid (HB_X.out.ext gd)
    replace HB_V := hid (HB_V.out.ext gd)
    replace k1 := k1.ext gd
    replace k3 := k3.ext gd
    go_wp2_with fail
    obtain ⟨c_67, c_68, c_69⟩ := HB_Y.out.c3
    obtain ⟨c_70, c_71, c_72⟩ := HB_Z.out.c3
    refine bodyPost_ret (v := .tuple #[.agg #[.bool nga, .slice aa na ca, .slice aa' na' ca'], .agg #[.bool ngb, .slice ab nb cb, .slice ab' nb' cb'], .bool false]) (by simp [results, Tryz.results6, go_sem, c_67, c_68, c_69, c_70, c_71, c_72]) rfl ⟨_, _, ?_, k1, k3, HE.out⟩
    rfl
  · go_region
    clear c_49 c_50 c_51 c_52 c_53 c_54 c_55 c_56 c_57 c_58 c_59 c_60 f_61 f_62 f_63 f_64 f_65 f_66
    obtain ⟨W5, hW5, g5, q5, B5, hy5, ho5⟩ := sto3 HE.out (by omega) HB_Y.out (by decide) (.bool nga) (.slice aa na ca) (.slice aa' na' ca')
    rw [← hW5]
    clear hW5
    replace HE := hid g5
    replace HB_O := hid (ho5 _ _ _ (by omega) HB_O.out)
    replace HB_Z := hid (ho5 _ _ _ (by omega) HB_Z.out)
    replace HB_X := hid (ho5 _ _ _ (by omega) HB_X.out)
    replace HB_V := hid (ho5 _ _ _ (by omega) HB_V.out)
    replace HB_Y := hid B5
    replace k1 := k1.keep q5
    replace k3 := k3.keep q5
    obtain ⟨W6, hW6, g6, q6, B6, hy6, ho6⟩ := sto3 HE.out (by omega) HB_Z.out (by decide) (.bool ngb) (.slice ab nb cb) (.slice ab' nb' cb')
    rw [← hW6]
    clear hW6
    replace HE := hid g6
    replace HB_O := hid (ho6 _ _ _ (by omega) HB_O.out)
    replace HB_Y := hid (ho6 _ _ _ (by omega) HB_Y.out)
    replace HB_X := hid (ho6 _ _ _ (by omega) HB_X.out)
    replace HB_V := hid (ho6 _ _ _ (by omega) HB_V.out)
    replace HB_Z := hid B6
    replace k1 := k1.keep q6
    replace k3 := k3.keep q6
    have gd : Ext W6 W6.drew := Below.drew (Below.refl _ W6)
    replace HE := hid (HE.out.trans gd)
    replace HB_O := hid (HB_O.out.ext gd)
    replace HB_Y := hid (HB_Y.out.ext gd)
    replace HB_Z := hid (HB_Z.out.ext gd)
    replace HB_X := hid (HB_X.out.ext gd)
    replace HB_V := hid (HB_V.out.ext gd)
    replace k1 := k1.ext gd
    replace k3 := k3.ext gd
    go_wp2_with fail
    obtain ⟨c_67, c_68, c_69⟩ := HB_Y.out.c3
    obtain ⟨c_70, c_71, c_72⟩ := HB_Z.out.c3
    refine bodyPost_ret (v := .tuple #[.agg #[.bool nga, .slice aa na ca, .slice aa' na' ca'], .agg #[.bool ngb, .slice ab nb cb, .slice ab' nb' cb'], .bool false]) (by simp [results, Tryz.results6, go_sem, c_67, c_68, c_69, c_70, c_71, c_72]) rfl ⟨_, _, ?_, k1, k3, HE.out⟩
    rfl

end Go.Proofs.YtpjpaiaaimmngaaGreatDoor

/- Plain: what the words of results stand for; a difference of near values. -/
namespace Go.Proofs.YtpjpaiaaimmngaaGreatDoor
open Go.RowKit Vn

theorem kind_fin {E P n : Nat} (h : wf E P n ≠ 2 ^ E - 1) : wkind E P n ≤ 2 := by unfold wkind; rw [if_neg h]; split <;> omega
theorem fin_wf {E P n : Nat} (h : wkind E P n ≤ 2) : wf E P n ≠ 2 ^ E - 1 := by
  intro e
  unfold wkind at h
  rw [if_pos e] at h
  split at h
  · omega
  · split at h <;> omega
theorem wvalK_fin {E P b n : Nat} (h : wkind E P n ≤ 2) : wvalK E P b n = wval E P b n := by
  unfold wvalK
  by_cases h2 : wkind E P n = 2
  · rw [if_pos h2]
  · rw [if_neg h2, if_neg (by omega), if_neg (by omega)]
    have hk : wf E P n = 0 ∧ wr P n = 0 := by
      have hne := fin_wf h
      unfold wkind at h2
      rw [if_neg hne] at h2
      by_cases h3 : wf E P n = 0 ∧ wr P n = 0
      · exact h3
      · rw [if_neg h3] at h2; exact absurd rfl h2
    unfold wval wfr
    rw [if_pos hk.1, hk.2]
    grind
theorem value_fin {E P n : Nat} (hn : n < 2 ^ (E + P)) (h : wkind E P n ≤ 2) : valueR E P n = (wval E P (bias E) n, 0) := by
  unfold valueR; rw [if_neg (fun k => k hn), if_neg (by omega), wvalK_fin h]
theorem grQ_nonneg (P b : Nat) : 0 ≤ grQ P b := by unfold grQ; exact steps_nonneg _ _
theorem kind_of_le {E P n : Nat} (hE : 2 ≤ E) (hP : 1 ≤ P) (h : absQ (wval E P (bias E) n) ≤ grQ P (bias E)) : wkind E P n ≤ 2 := by
  refine kind_fin (fun e => ?_)
  rw [wval_abs, e] at h
  have h2 := two_bias (E := E) (by omega)
  have hp : 0 < 2 ^ (P - 1) := Nat.pow_pos (by decide)
  have hfr : 2 ^ (P - 1) ≤ wfr E P n := by unfold wfr; rw [if_neg (by rw [e]; omega)]; omega
  have h1 : max (2 ^ E - 1) 1 - 1 = 2 * bias E := by omega
  rw [h1] at h
  have h3 : (2 : Rat) ^ (((P - 1 : Nat) : Int) + (2 - (bias E : Int) - P + ((2 * bias E : Nat) : Int))) ≤ grQ P (bias E) := by
    refine Rat.le_trans ?_ h
    rw [p2_add, p2_nat]
    exact Rat.mul_le_mul_of_nonneg_right (by rw [Rat.natCast_le_natCast]; exact hfr) (Rat.le_of_lt (p2_pos _))
  have h4 := grQ_lt P (bias E)
  have h5 : ((P - 1 : Nat) : Int) + (2 - (bias E : Int) - P + ((2 * bias E : Nat) : Int)) = (bias E : Int) + 1 := by omega
  rw [h5] at h3
  exact absurd h4 (Rat.not_lt.2 h3)
theorem wordN_lt {E P : Nat} (h1 : 1 ≤ E + P) (neg : Bool) {n f : Nat} (h : n + f * 2 ^ (P - 1) < 2 ^ (E + P - 1)) : wordN E P neg n f < 2 ^ (E + P) := by
  rw [wordN_eq neg h]
  have h3 : 2 ^ (E + P) = 2 * 2 ^ (E + P - 1) := by rw [← Nat.pow_succ']; congr 1; omega
  cases neg
  · simp; omega
  · simp; omega
theorem sgb_word (E P : Nat) (s : Bool) : sgb E P s = wordN E P s 0 0 := by unfold wordN; simp
theorem sgb_ok {E P : Nat} (hE : 2 ≤ E) (hP : 1 ≤ P) (s : Bool) : sgb E P s < 2 ^ (E + P) ∧ valueR E P (sgb E P s) = (0, 0) := by
  have h0 : 0 + 0 * 2 ^ (P - 1) < 2 ^ (E + P - 1) := by rw [Nat.zero_mul]; exact Nat.pow_pos (by decide)
  have hv : wval E P (bias E) (sgb E P s) = 0 := by
    rw [sgb_word, wordN_val hP s h0 (Nat.zero_le _) (.inl rfl)]
    grind
  have hlt : sgb E P s < 2 ^ (E + P) := by rw [sgb_word]; exact wordN_lt (by omega) s h0
  refine ⟨hlt, ?_⟩
  rw [value_fin hlt (kind_of_le hE hP (by rw [hv, absQ_nonneg Rat.le_refl]; exact grQ_nonneg _ _)), hv]
theorem round_ok {E P m : Nat} {q : Rat} {l : Int} (hE : 2 ≤ E) (hP : 1 ≤ P) (hl : IsLog (absQ q) l) (h : IsVal P (bias E) q) (hg : absQ q ≤ grQ P (bias E)) :
    (roundR E P (bias E) m q l).2 = 0 ∧ (roundR E P (bias E) m q l).1 < 2 ^ (E + P) ∧ valueR E P (roundR E P (bias E) m q l).1 = (q, 0) := by
  obtain ⟨h1, h2⟩ := round_value (E := E) (m := m) (by omega) hP hl h hg
  obtain ⟨h3, h4⟩ := round_exact (E := E) (m := m) hl h hg
  have hlt : (roundR E P (bias E) m q l).1 < 2 ^ (E + P) := by
    rw [h3]; exact wordN_lt (by omega) _ (rd_fits (by omega) hP (rdN_lt hl) (rdN_ge hP hl) (by rw [← h4]; exact hg))
  refine ⟨h1, hlt, ?_⟩
  rw [value_fin hlt (kind_of_le hE hP (by rw [h2]; exact hg)), h2]

theorem differs_ok {E P m i j : Nat} {l : Int} (hE : 2 ≤ E) (hP : 1 ≤ P) (ki : wkind E P i ≤ 2) (kj : wkind E P j ≤ 2)
    (a0 : 0 ≤ wvalK E P (bias E) i) (b0 : 0 ≤ wvalK E P (bias E) j) (h1 : wvalK E P (bias E) i ≤ wvalK E P (bias E) j + wvalK E P (bias E) j) (h2 : wvalK E P (bias E) j ≤ wvalK E P (bias E) i + wvalK E P (bias E) i)
    (hl : wvalK E P (bias E) i + -wvalK E P (bias E) j ≠ 0 → IsLog (absQ (wvalK E P (bias E) i + -wvalK E P (bias E) j)) l) (r : Nat × Nat)
    (hr : r = addR E P (bias E) m (wkind E P i) (wn E P i) (wvalK E P (bias E) i) (wkind E P j) (!(wn E P j)) (-(wvalK E P (bias E) j)) l) :
    r.2 = 0 ∧ r.1 < 2 ^ (E + P) ∧ valueR E P r.1 = (wvalK E P (bias E) i - wvalK E P (bias E) j, 0) := by
  have va : IsVal P (bias E) (wvalK E P (bias E) i) := by rw [wvalK_fin ki]; exact wval_isVal hP
  have vb : IsVal P (bias E) (wvalK E P (bias E) j) := by rw [wvalK_fin kj]; exact wval_isVal hP
  have ga : absQ (wvalK E P (bias E) i) ≤ grQ P (bias E) := by rw [wvalK_fin ki]; exact wval_le hE hP (fin_wf ki)
  have gb : absQ (wvalK E P (bias E) j) ≤ grQ P (bias E) := by rw [wvalK_fin kj]; exact wval_le hE hP (fin_wf kj)
  rw [absQ_nonneg a0] at ga
  rw [absQ_nonneg b0] at gb
  obtain ⟨k1, k2⟩ := sterbenz va vb a0 b0 h1 h2
  generalize wvalK E P (bias E) i = a at *
  generalize wvalK E P (bias E) j = b at *
  have e : a + -b = a - b := by grind
  rw [e] at hl
  unfold addR at hr
  rw [if_neg (by omega), if_neg (by omega), if_neg (by omega), e] at hr
  have gd : absQ (a - b) ≤ grQ P (bias E) := by rcases k2 with k | k; exact Rat.le_trans k ga; exact Rat.le_trans k gb
  by_cases hd : a - b = 0
  · rw [if_neg (fun k => k hd)] at hr
    rw [hd]
    split at hr
    · rw [hr]; exact ⟨rfl, sgb_ok hE hP _⟩
    · rw [hr]; exact ⟨rfl, sgb_ok hE hP _⟩
  · rw [if_pos hd] at hr
    rw [hr]
    exact round_ok hE hP (hl hd) k1 gd

/-- how large a value is. -/
theorem wvalK_sm {E P n : Nat} (hF : Fmt E P) (h : wkind E P n ≤ 2) : SmQ 5000 (wvalK E P (bias E) n) := by
  have hE : 2 ≤ E ∧ E ≤ 11 := by unfold Fmt at hF; omega
  have hP : 2 ≤ P ∧ P ≤ 113 := by unfold Fmt at hF; omega
  rw [wvalK_fin h]
  have h1 := wfr_lt (E := E) (P := P) (n := n) (by omega)
  have hf : wf E P n < 2 ^ E := Nat.mod_lt _ (Nat.pow_pos (by decide))
  have h2 : 2 ^ E ≤ 2048 := Nat.pow_le_pow_right (n := 2) (j := 11) (by decide) hE.2
  have hb : bias E ≤ 1023 := by
    have : 2 ^ (E - 1) ≤ 1024 := Nat.pow_le_pow_right (n := 2) (j := 10) (by decide) (by omega)
    unfold bias; omega
  have s1 : SmQ 113 ((wfr E P n : Nat) : Rat) := SmQ.nat (by decide) (Nat.lt_of_lt_of_le h1 (Nat.pow_le_pow_right (by decide) hP.2))
  have s2 := s1.mul_p2 (2 - (bias E : Int) - P + ((max (wf E P n) 1 - 1 : Nat) : Int)) 3500 (by omega)
  have s3 : SmQ 5000 (((wfr E P n : Nat) : Rat) * (2 : Rat) ^ (2 - (bias E : Int) - P + ((max (wf E P n) 1 - 1 : Nat) : Int))) := s2.mono (by decide)
  unfold wval
  split
  · have := s3.neg
    rwa [show -(((wfr E P n : Nat) : Rat) * (2 : Rat) ^ (2 - (bias E : Int) - P + ((max (wf E P n) 1 - 1 : Nat) : Int))) = -1 * (((wfr E P n : Nat) : Rat) * (2 : Rat) ^ (2 - (bias E : Int) - P + ((max (wf E P n) 1 - 1 : Nat) : Int))) from by grind] at this
  · rwa [Rat.one_mul]
theorem SmQ.zero (K : Nat) (h : 0 < K) : SmQ K 0 := SmQ.nat (n := 0) h (Nat.pow_pos (by decide))
theorem valueZ_cases (E P : Int) (n : Nat) : (valueZ E P n).2 = 0 ∨ (valueZ E P n).2 = 2 ∨ (valueZ E P n).2 = 4 ∨ (valueZ E P n).2 = 6 := by
  unfold valueZ valueR
  split
  · split
    · simp
    · split <;> simp
  · simp
/-- a word that has a number. -/
theorem valueZ_ok {E P : Int} {n : Nat} (h : (valueZ E P n).2 = 0) : Fmt E P ∧ n < 2 ^ (E.toNat + P.toNat) ∧ wkind E.toNat P.toNat n ≤ 2 ∧ (valueZ E P n).1 = wvalK E.toNat P.toNat (bias E.toNat) n := by
  unfold valueZ valueR at h ⊢
  by_cases hF : Fmt E P
  · rw [if_pos hF] at h ⊢
    by_cases h1 : n < 2 ^ (E.toNat + P.toNat)
    · rw [if_neg (fun k => k h1)] at h ⊢
      by_cases h2 : 2 < wkind E.toNat P.toNat n
      · rw [if_pos h2] at h; simp at h
      · rw [if_neg h2]; exact ⟨hF, h1, by omega, rfl⟩
    · rw [if_pos h1] at h; simp at h
  · rw [if_neg hF] at h; simp at h
theorem valueZ_sm (E P : Int) (n : Nat) : SmQ 5000 (valueZ E P n).1 := by
  by_cases h : (valueZ E P n).2 = 0
  · obtain ⟨hF, h1, h2, h3⟩ := valueZ_ok h
    rw [h3]
    refine wvalK_sm ?_ h2
    obtain ⟨e, rfl⟩ := Int.eq_ofNat_of_zero_le (show 0 ≤ E by unfold Fmt at hF; omega)
    obtain ⟨p, rfl⟩ := Int.eq_ofNat_of_zero_le (show 0 ≤ P by unfold Fmt at hF; omega)
    exact hF
  · have : (valueZ E P n).1 = 0 := by
      unfold valueZ valueR at h ⊢
      split
      · rename_i hF
        rw [if_pos hF] at h
        split
        · rfl
        · rename_i h1
          rw [if_neg h1] at h
          split
          · rfl
          · rename_i h2; rw [if_neg h2] at h; exact absurd rfl h
      · rfl
    rw [this]; exact SmQ.zero _ (by decide)
end Go.Proofs.YtpjpaiaaimmngaaGreatDoor

/- floats: Sub of a mode that is none. -/
namespace Go.Proofs.YtpjpaiaaimmngaaGreatDoor
open Go.RowKit Vn

/-- what is returned of a mode that is none. -/
def BadPost (w : World) (e : Ending) (w' : World) : Prop := e = .returned (.tuple #[.agg #[.int .u64 0, .int .u64 0], .int .i64 0, .int .i64 2]) ∧ Ext w w'

set_option maxRecDepth 100000 in
set_option maxHeartbeats 4000000 in
theorem operate_bad (E P M : Int) (i0 i1 j0 j1 : Int) (fv : Value) (w : World) (h : ¬ (0 ≤ M ∧ M ≤ 4 ∧ Fmt E P)) :
   Calls Tryz.prog 31 #[.agg #[.int .i64 E, .int .i64 P], .int .i64 M, .agg #[.int .u64 i0, .int .u64 i1], .agg #[.int .u64 j0, .int .u64 j1], fv] w fun e w' => BadPost w e w' := by
  have CW : Hid (∀ v w, _) := hid fun v w => with_bad E P M v w h
  clear h
  obtain ⟨W0, hW0, g0, hz0, B_F, B_A, B_B, B_Z⟩ := pro4s w #[.int .i64 E, .int .i64 P] #[.int .u64 i0, .int .u64 i1] #[.int .u64 j0, .int .u64 j1] #[.int .u64 0, .int .u64 0] 23 26 26 26
  have HE := hid g0
  have HB_F := hid B_F
  have HB_A := hid B_A
  have HB_B := hid B_B
  have HB_Z := hid B_Z
  clear g0 B_F B_A B_B B_Z 
  go_enter Tryz.func31, Tryz.ntmps31
  go_upto_region 1 with (fail)
  rw [← hW0]
  clear hW0
  obtain ⟨c_1, c_2⟩ := HB_F.out.c2
  obtain ⟨c_3, c_4⟩ := HB_A.out.c2
  obtain ⟨c_5, c_6⟩ := HB_B.out.c2
  obtain ⟨c_7, c_8⟩ := HB_Z.out.c2
  go_wp2_with fail
  clear c_1 c_2 c_3 c_4 c_5 c_6 c_7 c_8
  obtain ⟨W1, hW1, g1, hy1, B_R⟩ := pro1 W0 #[.int .u64 i0, .int .u64 i1, .int .u64 j0, .int .u64 j1] 26
  rw [← hW1]
  clear hW1
  have hz_W1 := g1.size
  replace HE := hid (HE.out.trans g1)
  replace HB_F := hid (HB_F.out.ext g1)
  replace HB_A := hid (HB_A.out.ext g1)
  replace HB_B := hid (HB_B.out.ext g1)
  replace HB_Z := hid (HB_Z.out.ext g1)
  have HB_R := hid B_R
  clear B_R
  refine (CW.out _ _).mono ?_
  rintro e w2 ⟨rfl, g2⟩
  have hz_w2 := g2.size
  replace HE := hid (HE.out.trans g2)
  replace HB_F := hid (HB_F.out.ext g2)
  replace HB_A := hid (HB_A.out.ext g2)
  replace HB_B := hid (HB_B.out.ext g2)
  replace HB_Z := hid (HB_Z.out.ext g2)
  replace HB_R := hid (HB_R.out.ext g2)
  have gA := Ext.alloc w2 (.cells #[.int .i64 0, .int .i64 0, .int .i64 0, .int .i64 0] 66)
  obtain ⟨c_9, c_10⟩ := (HB_Z.out.ext gA).c2
  obtain ⟨f_11, f_12⟩ := (HB_Z.out.ext gA).f2
  go_wp2_with fail
  clear gA c_9 c_10 f_11 f_12
  obtain ⟨W3, hW3, g3, hy3, B_M⟩ := pro1 w2 #[.int .i64 0, .int .i64 0, .int .i64 0, .int .i64 0] 66
  rw [← hW3]
  clear hW3
  have hz_W3 := g3.size
  replace HE := hid (HE.out.trans g3)
  replace HB_F := hid (HB_F.out.ext g3)
  replace HB_A := hid (HB_A.out.ext g3)
  replace HB_B := hid (HB_B.out.ext g3)
  replace HB_Z := hid (HB_Z.out.ext g3)
  have HB_M := hid B_M
  clear B_M
  obtain ⟨W4, hW4, g4, q4, B4, hy4, ho4⟩ := sto2 HE.out (by omega) HB_Z.out (by decide) (.int .u64 0) (.int .u64 0)
  rw [← hW4]
  clear hW4
  replace HE := hid g4
  replace HB_F := hid (ho4 _ _ _ (by omega) HB_F.out)
  replace HB_A := hid (ho4 _ _ _ (by omega) HB_A.out)
  replace HB_B := hid (ho4 _ _ _ (by omega) HB_B.out)
  replace HB_M := hid (ho4 _ _ _ (by omega) HB_M.out)
  replace HB_Z := hid B4
  unfold BadPost
  obtain ⟨c_13, c_14⟩ := HB_Z.out.c2
  refine bodyPost_ret (v := .tuple #[.agg #[.int .u64 0, .int .u64 0], .int .i64 0, .int .i64 2]) (by simp [results, Tryz.results31, go_sem, c_13, c_14]) rfl ⟨rfl, HE.out⟩
set_option maxRecDepth 100000 in
set_option maxHeartbeats 4000000 in
theorem Sub_bad (E P M : Int) (i0 i1 j0 j1 : Int) (w : World) (h : ¬ (0 ≤ M ∧ M ≤ 4 ∧ Fmt E P)) :
   Calls Tryz.prog 11 #[.agg #[.int .i64 E, .int .i64 P], .int .i64 M, .agg #[.int .u64 i0, .int .u64 i1], .agg #[.int .u64 j0, .int .u64 j1]] w fun e w' => BadPost w e w' := by
  have CW : Hid (∀ w, _) := hid fun w => operate_bad E P M i0 i1 j0 j1 (.func (.func 32) #[] #[]) w h
  clear h
  obtain ⟨W0, hW0, g0, hz0, B_F, B_A, B_B, B_Z⟩ := pro4s w #[.int .i64 E, .int .i64 P] #[.int .u64 i0, .int .u64 i1] #[.int .u64 j0, .int .u64 j1] #[.int .u64 0, .int .u64 0] 23 26 26 26
  have HE := hid g0
  have HB_F := hid B_F
  have HB_A := hid B_A
  have HB_B := hid B_B
  have HB_Z := hid B_Z
  clear g0 B_F B_A B_B B_Z 
  go_enter Tryz.func11, Tryz.ntmps11
  go_upto_region 1 with (fail)
  rw [← hW0]
  clear hW0
  obtain ⟨c_1, c_2⟩ := HB_F.out.c2
  obtain ⟨c_3, c_4⟩ := HB_A.out.c2
  obtain ⟨c_5, c_6⟩ := HB_B.out.c2
  obtain ⟨c_7, c_8⟩ := HB_Z.out.c2
  go_wp2_with fail
  clear c_1 c_2 c_3 c_4 c_5 c_6 c_7 c_8
  refine (CW.out _).mono ?_
  rintro e w1 ⟨rfl, g1⟩
  have hz_w1 := g1.size
  replace HE := hid (HE.out.trans g1)
  replace HB_F := hid (HB_F.out.ext g1)
  replace HB_A := hid (HB_A.out.ext g1)
  replace HB_B := hid (HB_B.out.ext g1)
  replace HB_Z := hid (HB_Z.out.ext g1)
  obtain ⟨c_9, c_10⟩ := HB_F.out.c2
  obtain ⟨c_11, c_12⟩ := HB_A.out.c2
  obtain ⟨c_13, c_14⟩ := HB_B.out.c2
  obtain ⟨c_15, c_16⟩ := HB_Z.out.c2
  obtain ⟨f_17, f_18⟩ := HB_Z.out.f2
  go_wp2_with fail
  clear c_9 c_10 c_11 c_12 c_13 c_14 c_15 c_16 f_17 f_18
  obtain ⟨W2, hW2, g2, q2, B2, hy2, ho2⟩ := sto2 HE.out (by omega) HB_Z.out (by decide) (.int .u64 0) (.int .u64 0)
  rw [← hW2]
  clear hW2
  replace HE := hid g2
  replace HB_F := hid (ho2 _ _ _ (by omega) HB_F.out)
  replace HB_A := hid (ho2 _ _ _ (by omega) HB_A.out)
  replace HB_B := hid (ho2 _ _ _ (by omega) HB_B.out)
  replace HB_Z := hid B2
  unfold BadPost
  obtain ⟨c_19, c_20⟩ := HB_Z.out.c2
  refine bodyPost_ret (v := .tuple #[.agg #[.int .u64 0, .int .u64 0], .int .i64 0, .int .i64 2]) (by simp [results, Tryz.results11, go_sem, c_19, c_20]) rfl ⟨rfl, HE.out⟩
end Go.Proofs.YtpjpaiaaimmngaaGreatDoor
