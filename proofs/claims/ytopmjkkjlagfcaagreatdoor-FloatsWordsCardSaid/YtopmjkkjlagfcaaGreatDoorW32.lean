/- floats: end. -/
import Derived.Test.YtopmjkkjlagfcaaGreatDoorW22
import Derived.Test.YtopmjkkjlagfcaaGreatDoorW30
import Derived.Test.YtopmjkkjlagfcaaGreatDoorW31
namespace Go.Proofs.YtopmjkkjlagfcaaGreatDoor
open Go.RowKit Vn
def mirM (m : Nat) : Nat := if m = 3 then 4 else if m = 4 then 3 else m
def modeN (m : Nat) (neg : Bool) : Nat := if neg then mirM m else m
theorem modeN_le {m : Nat} (h : m ≤ 4) (neg : Bool) : modeN m neg ≤ 4 := by unfold modeN mirM; split <;> (try split) <;> (try split) <;> omega
def endN (m : Nat) (neg : Bool) (n : Nat) (is : Bool) (mid : Int) : Nat := if is = true then n else if upB (modeN m neg) (decide (n % 2 = 1)) mid = true then n + 1 else n
def endF (is tiny : Bool) : Nat := if is = true then 0 else if tiny = true then 24 else 16
def endR (E P b m : Nat) (neg : Bool) (n : Nat) (f : Nat) (is : Bool) (mid : Int) (tiny : Bool) : Nat × Nat :=
 if ((endN m neg n is mid : Nat) : Rat) * (2 : Rat) ^ (2 - (b : Int) - P + f) ≤ grQ P b then (wordN E P neg (endN m neg n is mid) f, endF is tiny)
 else if modeN m neg = 2 ∨ modeN m neg = 4 then (wordN E P neg (2 ^ P - 1) (2 * b - 1), 20) else (infw E P neg, 20)
theorem grQ_lt (P b : Nat) : grQ P b < (2 : Rat) ^ ((b : Int) + 1) := by
 unfold grQ
 rw [show (b : Int) + 1 = (P : Int) + ((b : Int) - P + 1) by omega, p2_add (P : Int) ((b : Int) - P + 1), Rat.mul_lt_mul_right (p2_pos _), p2_nat, Rat.natCast_lt_natCast]
 have : 0 < 2 ^ P := Nat.pow_pos (by decide)
 omega
theorem f_bound {P b n f : Nat} (hP : 1 ≤ P) (hn : 2 ^ (P - 1) ≤ n) (h : ((n : Nat) : Rat) * (2 : Rat) ^ (2 - (b : Int) - P + f) ≤ grQ P b) : f ≤ 2 * b := by
 have h1 : (2 : Rat) ^ (((P - 1 : Nat) : Int) + (2 - (b : Int) - P + f)) ≤ grQ P b := by
  refine Rat.le_trans ?_ h
  rw [p2_add]
  refine Rat.mul_le_mul_of_nonneg_right ?_ (Rat.le_of_lt (p2_pos _))
  rw [p2_nat, Rat.natCast_le_natCast]; exact hn
 have h2 := grQ_lt P b
 have h3 : (2 : Rat) ^ (((P - 1 : Nat) : Int) + (2 - (b : Int) - P + f)) < (2 : Rat) ^ ((b : Int) + 1) := by grind
 rw [p2_lt_iff] at h3
 omega
def EndPost (r : Nat × Nat) (w : World) (e : Ending) (w' : World) : Prop := e = .returned (.tuple #[Word r.1, .int .i64 (r.2 : Nat)]) ∧ Ext w w'
set_option maxRecDepth 100000 in
set_option maxHeartbeats 8000000 in
theorem end_c (E P m b : Nat) (neg : Bool) (x : Value) (n f : Nat) (is : Bool) (mid : Int) (tiny : Bool) (w : World) (hF : Fmt E P) (hm : m ≤ 4) (hb : b = bias E) (hx : NumV w x (n : Rat)) (hn : n < 2 ^ P) (hf : f ≤ 15000) (hnm : f = 0 ∨ 2 ^ (P - 1) ≤ n) (hc : mid = -1 ∨ mid = 0 ∨ mid = 1) (hT : Tabs w) :
  Calls Tryz.prog 113 #[.agg #[.int .i64 E, .int .i64 P, .int .i64 m, .int .i64 b], .bool neg, x, .int .i64 (2 - (b : Int) - P + f), .bool is, .int .i64 mid, .bool tiny] w fun e w' => EndPost (endR E P b m neg n f is mid tiny) w e w' := by
 have hE : 2 ≤ E ∧ E ≤ 11 := by unfold Fmt at hF; omega
 have hP : 2 ≤ P ∧ P ≤ 113 := by unfold Fmt at hF; omega
 obtain ⟨ng, a, nn, c, a', n', c', rfl⟩ := hx.shape
 obtain ⟨k, hk⟩ : ∃ k : Int, k = 2 - (b : Int) - P + f := ⟨_, rfl⟩
 obtain ⟨n2, hn2⟩ : ∃ n2, n2 = endN m neg n is mid := ⟨_, rfl⟩
 obtain ⟨m2, hm2⟩ : ∃ m2, m2 = modeN m neg := ⟨_, rfl⟩
 obtain ⟨fl, hfl⟩ : ∃ fl, fl = endF is tiny := ⟨_, rfl⟩
 have hm4 : m2 ≤ 4 := by rw [hm2]; exact modeN_le hm neg
 have hn3 : n2 ≤ 2 ^ P := by rw [hn2]; unfold endN; split; omega; split <;> omega
 have HR : Hid (endR E P b m neg n f is mid tiny = if ((n2 : Nat) : Rat) * (2 : Rat) ^ k ≤ grQ P b then (wordN E P neg n2 f, fl)
  else if m2 = 2 ∨ m2 = 4 then (wordN E P neg (2 ^ P - 1) (2 * b - 1), 20) else (infw E P neg, 20)) := hid (by rw [hn2, hk, hfl, hm2]; rfl)
 rw [← hk]
 have Hk := hid hk; have HN2 := hid hn2; have HM2 := hid hm2; have HFl := hid hfl; have HN3 := hid hn3; have HN := hid hn; have HF := hid hF; have HP := hid hP; have HE0 := hid hE; have HB := hid hb; have Hf := hid hf; have HNm := hid hnm; have HT := hid hT; have HM := hid hm; have HC := hid hc
 clear hk hn2 hm2 hfl hn3 hn hF hP hE hb hf hT hm hc hnm
 have Hx : Hid (NumV w (.agg #[.bool ng, .slice a nn c, .slice a' n' c']) (n : Rat)) := hid hx
 clear hx
 obtain ⟨W0, hW0, g0, hz0, B_M, B_X, B_Z⟩ := pro3s w #[.int .i64 E, .int .i64 P, .int .i64 m, .int .i64 b] #[.bool ng, .slice a nn c, .slice a' n' c'] #[.int .u64 0, .int .u64 0] 81 40 29
 have HE := hid g0
 have HB_M := hid B_M
 have HB_X := hid B_X
 have HB_Z := hid B_Z
 clear g0 B_M B_X B_Z 
 go_enter Tryz.func113, Tryz.ntmps113
 go_upto_if 20 with (fail)
 rw [← hW0]
 clear hW0
 have hx := Hx.out.ext HE.out
 clear Hx
 go_cut [16] (fun s wx => s = .int .i64 (m2 : Nat) ∧ wx = W0)
 case first =>
  have hmir := (HT.out.ext HE.out).mir m (by have := HM.out; omega)
  have hm4' := HM.out
  cases neg
  ·have e : Hid (m = m2) := hid HM2.out.symm
   go_wp2_with fail
   go_meet
   exact ⟨by rw [e.out], rfl⟩
  ·have e : Hid ((([0, 1, 2, 4, 3] : List Int).getD m 0) = (m2 : Nat)) := hid (by rw [HM2.out]; have := HM.out; rcases (show m = 0 ∨ m = 1 ∨ m = 2 ∨ m = 3 ∨ m = 4 by omega) with rfl | rfl | rfl | rfl | rfl <;> rfl)
   rw [e.out] at hmir
   have h0 : 0 ≤ (m : Int) := by omega
   have h5 : (m : Int) < 5 := by omega
   go_wp2_with fail
   go_meet
   exact ⟨rfl, rfl⟩
 case rest =>
  obtain ⟨rfl, rfl⟩ := hcut
  go_upto_if 25 with (fail)
  have S1 : Hid (SmQ 128 ((n : Nat) : Rat)) := hid (SmQ.nat (by decide) (Nat.lt_of_lt_of_le HN.out (Nat.pow_le_pow_right (by decide) (by have := HP.out; omega))))
  have hnum : (((n : Nat) : Rat)).num = (n : Int) := by simp
  have Hnum := hid hnum
  clear hnum
  go_cut [17] (fun s wx => s = .int .i64 (fl : Nat) ∧ Hid (Ext w wx) ∧ Hid (Box wx w.heap.size #[.int .i64 E, .int .i64 P, .int .i64 m, .int .i64 b] 81) ∧ Hid (Box wx (w.heap.size + 1 + 1) #[.int .u64 0, .int .u64 0] 29) ∧ NumBox wx (w.heap.size + 1) (n2 : Rat) ∧ w.heap.size + 3 ≤ wx.heap.size)
  case first =>
   cases is
   ·cases tiny
    ·have HF1 : Hid (fl = 16) := hid (by rw [HFl.out]; unfold endF; simp)
     by_cases hn0 : n = 0
     ·have Hn0 := hid hn0
      clear hn0
      have hsg : Hid ((((n : Nat) : Rat)).num.sign = 0) := hid (by rw [Hnum.out, Hn0.out]; rfl)
      obtain ⟨c_1, c_2, c_3, c_4⟩ := HB_M.out.c4
      obtain ⟨c_5, c_6, c_7⟩ := HB_X.out.c3
      obtain ⟨c_8, c_9⟩ := HB_Z.out.c2
      go_wp2_with fail
      clear c_1 c_2 c_3 c_4 c_5 c_6 c_7 c_8 c_9
      refine (sign_c _ _ _ hx).mono ?_
      rintro e w1 ⟨rfl, g1⟩
      have hz_w1 := g1.size
      replace HE := hid (HE.out.trans g1)
      replace HB_M := hid (HB_M.out.ext g1)
      replace HB_X := hid (HB_X.out.ext g1)
      replace HB_Z := hid (HB_Z.out.ext g1)
      replace hx := hx.ext g1
      rw [hsg.out]
      obtain ⟨c_10, c_11, c_12, c_13⟩ := HB_M.out.c4
      obtain ⟨c_14, c_15, c_16⟩ := HB_X.out.c3
      obtain ⟨c_17, c_18⟩ := HB_Z.out.c2
      go_wp2_with fail
      clear c_10 c_11 c_12 c_13 c_14 c_15 c_16 c_17 c_18
      have Hod : Hid (decide (n % 2 = 1) = false) := hid (decide_eq_false (by have := Hn0.out; omega))
      refine (upward_c m2 false mid _ hm4 HC.out).mono ?_
      rintro e w2 ⟨rfl, g2⟩
      have hz_w2 := g2.size
      replace HE := hid (HE.out.trans g2)
      replace HB_M := hid (HB_M.out.ext g2)
      replace HB_X := hid (HB_X.out.ext g2)
      replace HB_Z := hid (HB_Z.out.ext g2)
      replace hx := hx.ext g2
      cases hup : upB m2 false mid
      ·have e : Hid (n2 = n) := hid (by rw [HN2.out]; unfold endN; rw [← HM2.out, Hod.out, hup]; simp)
       clear hup
       obtain ⟨c_19, c_20, c_21, c_22⟩ := HB_M.out.c4
       obtain ⟨c_23, c_24, c_25⟩ := HB_X.out.c3
       obtain ⟨c_26, c_27⟩ := HB_Z.out.c2
       go_wp2_with fail
       clear c_19 c_20 c_21 c_22 c_23 c_24 c_25 c_26 c_27
       go_meet
       refine ⟨by rw [HF1.out]; rfl, HE, HB_M, HB_Z, ⟨ng, a, nn, c, a', n', c', HB_X.out, by rw [e.out]; exact hx⟩, by omega⟩
      ·have e : Hid (n2 = n + 1) := hid (by rw [HN2.out]; unfold endN; rw [← HM2.out, Hod.out, hup]; simp)
       clear hup
       have HV : Hid (((n : Nat) : Rat) + ((1 : Int) : Rat) = ((n2 : Nat) : Rat)) := hid (by rw [e.out, Rat.natCast_add]; rfl)
       obtain ⟨c_19, c_20, c_21, c_22⟩ := HB_M.out.c4
       obtain ⟨c_23, c_24, c_25⟩ := HB_X.out.c3
       obtain ⟨c_26, c_27⟩ := HB_Z.out.c2
       go_wp2_with fail
       clear c_19 c_20 c_21 c_22 c_23 c_24 c_25 c_26 c_27
       have hb0 : Ext w2 w2.drew := Below.drew (Below.refl _ w2)
       obtain ⟨c_29, c_30, c_31⟩ := (HB_X.out.ext hb0).c3
       go_region_with (first
          | (go_at_call 82; (with_reducible refine (Int_c 1 _ (by decide) (by decide)).mono ?_); rintro e x28_1 ⟨v1, rfl, k1, g1⟩; have hb1 : Ext w2 x28_1 := hb0.trans g1; obtain ⟨d_32, d_33, d_34⟩ := (HB_X.out.ext hb1).c3; obtain ⟨d_35, d_36, d_37⟩ := (HB_X.out.ext hb1).f3)
          | (go_at_call 83; (with_reducible refine (Add_c _ _ _ _ 128 _ (hx.ext hb1) k1 S1.out (SmQ.int (by decide) (by decide)) (by decide)).mono ?_); rintro e x28_2 ⟨v2, rfl, k2, g2⟩; have hb2 : Ext w2 x28_2 := hb1.trans g2; rw [HV.out] at k2; obtain ⟨ng2, a2, n2', c2, a2', n2'', c2', rfl⟩ := k2.shape; obtain ⟨d_38, d_39, d_40⟩ := (HB_X.out.ext hb2).c3; obtain ⟨d_41, d_42, d_43⟩ := (HB_X.out.ext hb2).f3))
       all_goals
        go_wp2_with fail
        have hz_x28_2 := hb2.size
        replace HE := hid (HE.out.trans hb2)
        replace HB_M := hid (HB_M.out.ext hb2)
        replace HB_X := hid (HB_X.out.ext hb2)
        replace HB_Z := hid (HB_Z.out.ext hb2)
        replace hx := hx.ext hb2
        obtain ⟨W3, hW3, g3, q3, B3, hy3, ho3⟩ := sto3 HE.out (by omega) HB_X.out (by decide) (.bool ng2) (.slice a2 n2' c2) (.slice a2' n2'' c2')
        rw [← hW3]
        clear hW3
        replace HE := hid g3
        replace HB_M := hid (ho3 _ _ _ (by omega) HB_M.out)
        replace HB_Z := hid (ho3 _ _ _ (by omega) HB_Z.out)
        replace HB_X := hid B3
        replace hx := hx.keep q3
        replace k2 := k2.keep q3
        go_meet
        refine ⟨by rw [HF1.out]; rfl, HE, HB_M, HB_Z, ⟨ng2, a2, n2', c2, a2', n2'', c2', HB_X.out, k2⟩, by omega⟩
     ·by_cases hod : n % 2 = 1
      ·have Hn0 := hid hn0
       clear hn0
       have hsg : Hid ((((n : Nat) : Rat)).num.sign = 1) := hid (by rw [Hnum.out]; exact Int.sign_eq_one_of_pos (by have := Hn0.out; omega))
       obtain ⟨c_1, c_2, c_3, c_4⟩ := HB_M.out.c4
       obtain ⟨c_5, c_6, c_7⟩ := HB_X.out.c3
       obtain ⟨c_8, c_9⟩ := HB_Z.out.c2
       go_wp2_with fail
       clear c_1 c_2 c_3 c_4 c_5 c_6 c_7 c_8 c_9
       refine (sign_c _ _ _ hx).mono ?_
       rintro e w1 ⟨rfl, g1⟩
       have hz_w1 := g1.size
       replace HE := hid (HE.out.trans g1)
       replace HB_M := hid (HB_M.out.ext g1)
       replace HB_X := hid (HB_X.out.ext g1)
       replace HB_Z := hid (HB_Z.out.ext g1)
       replace hx := hx.ext g1
       rw [hsg.out]
       obtain ⟨c_10, c_11, c_12, c_13⟩ := HB_M.out.c4
       obtain ⟨c_14, c_15, c_16⟩ := HB_X.out.c3
       obtain ⟨c_17, c_18⟩ := HB_Z.out.c2
       go_wp2_with fail
       clear c_10 c_11 c_12 c_13 c_14 c_15 c_16 c_17 c_18
       refine (Twos_c _ _ 128 _ hx S1.out (by decide) (by simp) (by rw [Hnum.out]; have := Hn0.out; omega) (HT.out.ext HE.out)).mono ?_
       rintro e w2 ⟨j, rfl, hj, g2⟩
       have hz_w2 := g2.size
       replace HE := hid (HE.out.trans g2)
       replace HB_M := hid (HB_M.out.ext g2)
       replace HB_X := hid (HB_X.out.ext g2)
       replace HB_Z := hid (HB_Z.out.ext g2)
       replace hx := hx.ext g2
       rw [Hnum.out, Int.natAbs_natCast] at hj
       obtain rfl : j = 0 := hj.2 hod
       have Hod : Hid (decide (n % 2 = 1) = true) := hid (decide_eq_true hod)
       clear hj hod
       obtain ⟨c_19, c_20, c_21, c_22⟩ := HB_M.out.c4
       obtain ⟨c_23, c_24, c_25⟩ := HB_X.out.c3
       obtain ⟨c_26, c_27⟩ := HB_Z.out.c2
       go_wp2_with fail
       clear c_19 c_20 c_21 c_22 c_23 c_24 c_25 c_26 c_27
       refine (upward_c m2 true mid _ hm4 HC.out).mono ?_
       rintro e w3 ⟨rfl, g3⟩
       have hz_w3 := g3.size
       replace HE := hid (HE.out.trans g3)
       replace HB_M := hid (HB_M.out.ext g3)
       replace HB_X := hid (HB_X.out.ext g3)
       replace HB_Z := hid (HB_Z.out.ext g3)
       replace hx := hx.ext g3
       cases hup : upB m2 true mid
       ·have e : Hid (n2 = n) := hid (by rw [HN2.out]; unfold endN; rw [← HM2.out, Hod.out, hup]; simp)
        clear hup
        obtain ⟨c_28, c_29, c_30, c_31⟩ := HB_M.out.c4
        obtain ⟨c_32, c_33, c_34⟩ := HB_X.out.c3
        obtain ⟨c_35, c_36⟩ := HB_Z.out.c2
        go_wp2_with fail
        clear c_28 c_29 c_30 c_31 c_32 c_33 c_34 c_35 c_36
        go_meet
        refine ⟨by rw [HF1.out]; rfl, HE, HB_M, HB_Z, ⟨ng, a, nn, c, a', n', c', HB_X.out, by rw [e.out]; exact hx⟩, by omega⟩
       ·have e : Hid (n2 = n + 1) := hid (by rw [HN2.out]; unfold endN; rw [← HM2.out, Hod.out, hup]; simp)
        clear hup
        have HV : Hid (((n : Nat) : Rat) + ((1 : Int) : Rat) = ((n2 : Nat) : Rat)) := hid (by rw [e.out, Rat.natCast_add]; rfl)
        obtain ⟨c_28, c_29, c_30, c_31⟩ := HB_M.out.c4
        obtain ⟨c_32, c_33, c_34⟩ := HB_X.out.c3
        obtain ⟨c_35, c_36⟩ := HB_Z.out.c2
        go_wp2_with fail
        clear c_28 c_29 c_30 c_31 c_32 c_33 c_34 c_35 c_36
        have hb0 : Ext w3 w3.drew := Below.drew (Below.refl _ w3)
        obtain ⟨c_38, c_39, c_40⟩ := (HB_X.out.ext hb0).c3
        go_region_with (first
           | (go_at_call 82; (with_reducible refine (Int_c 1 _ (by decide) (by decide)).mono ?_); rintro e x37_1 ⟨v1, rfl, k1, g1⟩; have hb1 : Ext w3 x37_1 := hb0.trans g1; obtain ⟨d_41, d_42, d_43⟩ := (HB_X.out.ext hb1).c3; obtain ⟨d_44, d_45, d_46⟩ := (HB_X.out.ext hb1).f3)
           | (go_at_call 83; (with_reducible refine (Add_c _ _ _ _ 128 _ (hx.ext hb1) k1 S1.out (SmQ.int (by decide) (by decide)) (by decide)).mono ?_); rintro e x37_2 ⟨v2, rfl, k2, g2⟩; have hb2 : Ext w3 x37_2 := hb1.trans g2; rw [HV.out] at k2; obtain ⟨ng2, a2, n2', c2, a2', n2'', c2', rfl⟩ := k2.shape; obtain ⟨d_47, d_48, d_49⟩ := (HB_X.out.ext hb2).c3; obtain ⟨d_50, d_51, d_52⟩ := (HB_X.out.ext hb2).f3))
        all_goals
         go_wp2_with fail
         have hz_x37_2 := hb2.size
         replace HE := hid (HE.out.trans hb2)
         replace HB_M := hid (HB_M.out.ext hb2)
         replace HB_X := hid (HB_X.out.ext hb2)
         replace HB_Z := hid (HB_Z.out.ext hb2)
         replace hx := hx.ext hb2
         obtain ⟨W4, hW4, g4, q4, B4, hy4, ho4⟩ := sto3 HE.out (by omega) HB_X.out (by decide) (.bool ng2) (.slice a2 n2' c2) (.slice a2' n2'' c2')
         rw [← hW4]
         clear hW4
         replace HE := hid g4
         replace HB_M := hid (ho4 _ _ _ (by omega) HB_M.out)
         replace HB_Z := hid (ho4 _ _ _ (by omega) HB_Z.out)
         replace HB_X := hid B4
         replace hx := hx.keep q4
         replace k2 := k2.keep q4
         go_meet
         refine ⟨by rw [HF1.out]; rfl, HE, HB_M, HB_Z, ⟨ng2, a2, n2', c2, a2', n2'', c2', HB_X.out, k2⟩, by omega⟩
      ·have Hn0 := hid hn0
       clear hn0
       have hsg : Hid ((((n : Nat) : Rat)).num.sign = 1) := hid (by rw [Hnum.out]; exact Int.sign_eq_one_of_pos (by have := Hn0.out; omega))
       obtain ⟨c_1, c_2, c_3, c_4⟩ := HB_M.out.c4
       obtain ⟨c_5, c_6, c_7⟩ := HB_X.out.c3
       obtain ⟨c_8, c_9⟩ := HB_Z.out.c2
       go_wp2_with fail
       clear c_1 c_2 c_3 c_4 c_5 c_6 c_7 c_8 c_9
       refine (sign_c _ _ _ hx).mono ?_
       rintro e w1 ⟨rfl, g1⟩
       have hz_w1 := g1.size
       replace HE := hid (HE.out.trans g1)
       replace HB_M := hid (HB_M.out.ext g1)
       replace HB_X := hid (HB_X.out.ext g1)
       replace HB_Z := hid (HB_Z.out.ext g1)
       replace hx := hx.ext g1
       rw [hsg.out]
       obtain ⟨c_10, c_11, c_12, c_13⟩ := HB_M.out.c4
       obtain ⟨c_14, c_15, c_16⟩ := HB_X.out.c3
       obtain ⟨c_17, c_18⟩ := HB_Z.out.c2
       go_wp2_with fail
       clear c_10 c_11 c_12 c_13 c_14 c_15 c_16 c_17 c_18
       refine (Twos_c _ _ 128 _ hx S1.out (by decide) (by simp) (by rw [Hnum.out]; have := Hn0.out; omega) (HT.out.ext HE.out)).mono ?_
       rintro e w2 ⟨j, rfl, hj, g2⟩
       have hz_w2 := g2.size
       replace HE := hid (HE.out.trans g2)
       replace HB_M := hid (HB_M.out.ext g2)
       replace HB_X := hid (HB_X.out.ext g2)
       replace HB_Z := hid (HB_Z.out.ext g2)
       replace hx := hx.ext g2
       rw [Hnum.out, Int.natAbs_natCast] at hj
       have hj0 : (j == 0) = false := beq_eq_false_iff_ne.2 (fun h => hod (hj.1 h))
       have Hod : Hid (decide (n % 2 = 1) = false) := hid (decide_eq_false hod)
       clear hj hod
       obtain ⟨c_19, c_20, c_21, c_22⟩ := HB_M.out.c4
       obtain ⟨c_23, c_24, c_25⟩ := HB_X.out.c3
       obtain ⟨c_26, c_27⟩ := HB_Z.out.c2
       go_wp2_with fail
       clear c_19 c_20 c_21 c_22 c_23 c_24 c_25 c_26 c_27
       refine (upward_c m2 false mid _ hm4 HC.out).mono ?_
       rintro e w3 ⟨rfl, g3⟩
       have hz_w3 := g3.size
       replace HE := hid (HE.out.trans g3)
       replace HB_M := hid (HB_M.out.ext g3)
       replace HB_X := hid (HB_X.out.ext g3)
       replace HB_Z := hid (HB_Z.out.ext g3)
       replace hx := hx.ext g3
       cases hup : upB m2 false mid
       ·have e : Hid (n2 = n) := hid (by rw [HN2.out]; unfold endN; rw [← HM2.out, Hod.out, hup]; simp)
        clear hup
        obtain ⟨c_28, c_29, c_30, c_31⟩ := HB_M.out.c4
        obtain ⟨c_32, c_33, c_34⟩ := HB_X.out.c3
        obtain ⟨c_35, c_36⟩ := HB_Z.out.c2
        go_wp2_with fail
        clear c_28 c_29 c_30 c_31 c_32 c_33 c_34 c_35 c_36
        go_meet
        refine ⟨by rw [HF1.out]; rfl, HE, HB_M, HB_Z, ⟨ng, a, nn, c, a', n', c', HB_X.out, by rw [e.out]; exact hx⟩, by omega⟩
       ·have e : Hid (n2 = n + 1) := hid (by rw [HN2.out]; unfold endN; rw [← HM2.out, Hod.out, hup]; simp)
        clear hup
        have HV : Hid (((n : Nat) : Rat) + ((1 : Int) : Rat) = ((n2 : Nat) : Rat)) := hid (by rw [e.out, Rat.natCast_add]; rfl)
        obtain ⟨c_28, c_29, c_30, c_31⟩ := HB_M.out.c4
        obtain ⟨c_32, c_33, c_34⟩ := HB_X.out.c3
        obtain ⟨c_35, c_36⟩ := HB_Z.out.c2
        go_wp2_with fail
        clear c_28 c_29 c_30 c_31 c_32 c_33 c_34 c_35 c_36
        have hb0 : Ext w3 w3.drew := Below.drew (Below.refl _ w3)
        obtain ⟨c_38, c_39, c_40⟩ := (HB_X.out.ext hb0).c3
        go_region_with (first
           | (go_at_call 82; (with_reducible refine (Int_c 1 _ (by decide) (by decide)).mono ?_); rintro e x37_1 ⟨v1, rfl, k1, g1⟩; have hb1 : Ext w3 x37_1 := hb0.trans g1; obtain ⟨d_41, d_42, d_43⟩ := (HB_X.out.ext hb1).c3; obtain ⟨d_44, d_45, d_46⟩ := (HB_X.out.ext hb1).f3)
           | (go_at_call 83; (with_reducible refine (Add_c _ _ _ _ 128 _ (hx.ext hb1) k1 S1.out (SmQ.int (by decide) (by decide)) (by decide)).mono ?_); rintro e x37_2 ⟨v2, rfl, k2, g2⟩; have hb2 : Ext w3 x37_2 := hb1.trans g2; rw [HV.out] at k2; obtain ⟨ng2, a2, n2', c2, a2', n2'', c2', rfl⟩ := k2.shape; obtain ⟨d_47, d_48, d_49⟩ := (HB_X.out.ext hb2).c3; obtain ⟨d_50, d_51, d_52⟩ := (HB_X.out.ext hb2).f3))
        all_goals
         go_wp2_with fail
         have hz_x37_2 := hb2.size
         replace HE := hid (HE.out.trans hb2)
         replace HB_M := hid (HB_M.out.ext hb2)
         replace HB_X := hid (HB_X.out.ext hb2)
         replace HB_Z := hid (HB_Z.out.ext hb2)
         replace hx := hx.ext hb2
         obtain ⟨W4, hW4, g4, q4, B4, hy4, ho4⟩ := sto3 HE.out (by omega) HB_X.out (by decide) (.bool ng2) (.slice a2 n2' c2) (.slice a2' n2'' c2')
         rw [← hW4]
         clear hW4
         replace HE := hid g4
         replace HB_M := hid (ho4 _ _ _ (by omega) HB_M.out)
         replace HB_Z := hid (ho4 _ _ _ (by omega) HB_Z.out)
         replace HB_X := hid B4
         replace hx := hx.keep q4
         replace k2 := k2.keep q4
         go_meet
         refine ⟨by rw [HF1.out]; rfl, HE, HB_M, HB_Z, ⟨ng2, a2, n2', c2, a2', n2'', c2', HB_X.out, k2⟩, by omega⟩
    ·have HF1 : Hid (fl = 24) := hid (by rw [HFl.out]; unfold endF; simp)
     by_cases hn0 : n = 0
     ·have Hn0 := hid hn0
      clear hn0
      have hsg : Hid ((((n : Nat) : Rat)).num.sign = 0) := hid (by rw [Hnum.out, Hn0.out]; rfl)
      obtain ⟨c_1, c_2, c_3, c_4⟩ := HB_M.out.c4
      obtain ⟨c_5, c_6, c_7⟩ := HB_X.out.c3
      obtain ⟨c_8, c_9⟩ := HB_Z.out.c2
      go_wp2_with fail
      clear c_1 c_2 c_3 c_4 c_5 c_6 c_7 c_8 c_9
      refine (sign_c _ _ _ hx).mono ?_
      rintro e w1 ⟨rfl, g1⟩
      have hz_w1 := g1.size
      replace HE := hid (HE.out.trans g1)
      replace HB_M := hid (HB_M.out.ext g1)
      replace HB_X := hid (HB_X.out.ext g1)
      replace HB_Z := hid (HB_Z.out.ext g1)
      replace hx := hx.ext g1
      rw [hsg.out]
      obtain ⟨c_10, c_11, c_12, c_13⟩ := HB_M.out.c4
      obtain ⟨c_14, c_15, c_16⟩ := HB_X.out.c3
      obtain ⟨c_17, c_18⟩ := HB_Z.out.c2
      go_wp2_with fail
      clear c_10 c_11 c_12 c_13 c_14 c_15 c_16 c_17 c_18
      have Hod : Hid (decide (n % 2 = 1) = false) := hid (decide_eq_false (by have := Hn0.out; omega))
      refine (upward_c m2 false mid _ hm4 HC.out).mono ?_
      rintro e w2 ⟨rfl, g2⟩
      have hz_w2 := g2.size
      replace HE := hid (HE.out.trans g2)
      replace HB_M := hid (HB_M.out.ext g2)
      replace HB_X := hid (HB_X.out.ext g2)
      replace HB_Z := hid (HB_Z.out.ext g2)
      replace hx := hx.ext g2
      cases hup : upB m2 false mid
      ·have e : Hid (n2 = n) := hid (by rw [HN2.out]; unfold endN; rw [← HM2.out, Hod.out, hup]; simp)
       clear hup
       obtain ⟨c_19, c_20, c_21, c_22⟩ := HB_M.out.c4
       obtain ⟨c_23, c_24, c_25⟩ := HB_X.out.c3
       obtain ⟨c_26, c_27⟩ := HB_Z.out.c2
       go_wp2_with fail
       clear c_19 c_20 c_21 c_22 c_23 c_24 c_25 c_26 c_27
       go_meet
       refine ⟨by rw [HF1.out]; rfl, HE, HB_M, HB_Z, ⟨ng, a, nn, c, a', n', c', HB_X.out, by rw [e.out]; exact hx⟩, by omega⟩
      ·have e : Hid (n2 = n + 1) := hid (by rw [HN2.out]; unfold endN; rw [← HM2.out, Hod.out, hup]; simp)
       clear hup
       have HV : Hid (((n : Nat) : Rat) + ((1 : Int) : Rat) = ((n2 : Nat) : Rat)) := hid (by rw [e.out, Rat.natCast_add]; rfl)
       obtain ⟨c_19, c_20, c_21, c_22⟩ := HB_M.out.c4
       obtain ⟨c_23, c_24, c_25⟩ := HB_X.out.c3
       obtain ⟨c_26, c_27⟩ := HB_Z.out.c2
       go_wp2_with fail
       clear c_19 c_20 c_21 c_22 c_23 c_24 c_25 c_26 c_27
       have hb0 : Ext w2 w2.drew := Below.drew (Below.refl _ w2)
       obtain ⟨c_29, c_30, c_31⟩ := (HB_X.out.ext hb0).c3
       go_region_with (first
          | (go_at_call 82; (with_reducible refine (Int_c 1 _ (by decide) (by decide)).mono ?_); rintro e x28_1 ⟨v1, rfl, k1, g1⟩; have hb1 : Ext w2 x28_1 := hb0.trans g1; obtain ⟨d_32, d_33, d_34⟩ := (HB_X.out.ext hb1).c3; obtain ⟨d_35, d_36, d_37⟩ := (HB_X.out.ext hb1).f3)
          | (go_at_call 83; (with_reducible refine (Add_c _ _ _ _ 128 _ (hx.ext hb1) k1 S1.out (SmQ.int (by decide) (by decide)) (by decide)).mono ?_); rintro e x28_2 ⟨v2, rfl, k2, g2⟩; have hb2 : Ext w2 x28_2 := hb1.trans g2; rw [HV.out] at k2; obtain ⟨ng2, a2, n2', c2, a2', n2'', c2', rfl⟩ := k2.shape; obtain ⟨d_38, d_39, d_40⟩ := (HB_X.out.ext hb2).c3; obtain ⟨d_41, d_42, d_43⟩ := (HB_X.out.ext hb2).f3))
       all_goals
        go_wp2_with fail
        have hz_x28_2 := hb2.size
        replace HE := hid (HE.out.trans hb2)
        replace HB_M := hid (HB_M.out.ext hb2)
        replace HB_X := hid (HB_X.out.ext hb2)
        replace HB_Z := hid (HB_Z.out.ext hb2)
        replace hx := hx.ext hb2
        obtain ⟨W3, hW3, g3, q3, B3, hy3, ho3⟩ := sto3 HE.out (by omega) HB_X.out (by decide) (.bool ng2) (.slice a2 n2' c2) (.slice a2' n2'' c2')
        rw [← hW3]
        clear hW3
        replace HE := hid g3
        replace HB_M := hid (ho3 _ _ _ (by omega) HB_M.out)
        replace HB_Z := hid (ho3 _ _ _ (by omega) HB_Z.out)
        replace HB_X := hid B3
        replace hx := hx.keep q3
        replace k2 := k2.keep q3
        go_meet
        refine ⟨by rw [HF1.out]; rfl, HE, HB_M, HB_Z, ⟨ng2, a2, n2', c2, a2', n2'', c2', HB_X.out, k2⟩, by omega⟩
     ·by_cases hod : n % 2 = 1
      ·have Hn0 := hid hn0
       clear hn0
       have hsg : Hid ((((n : Nat) : Rat)).num.sign = 1) := hid (by rw [Hnum.out]; exact Int.sign_eq_one_of_pos (by have := Hn0.out; omega))
       obtain ⟨c_1, c_2, c_3, c_4⟩ := HB_M.out.c4
       obtain ⟨c_5, c_6, c_7⟩ := HB_X.out.c3
       obtain ⟨c_8, c_9⟩ := HB_Z.out.c2
       go_wp2_with fail
       clear c_1 c_2 c_3 c_4 c_5 c_6 c_7 c_8 c_9
       refine (sign_c _ _ _ hx).mono ?_
       rintro e w1 ⟨rfl, g1⟩
       have hz_w1 := g1.size
       replace HE := hid (HE.out.trans g1)
       replace HB_M := hid (HB_M.out.ext g1)
       replace HB_X := hid (HB_X.out.ext g1)
       replace HB_Z := hid (HB_Z.out.ext g1)
       replace hx := hx.ext g1
       rw [hsg.out]
       obtain ⟨c_10, c_11, c_12, c_13⟩ := HB_M.out.c4
       obtain ⟨c_14, c_15, c_16⟩ := HB_X.out.c3
       obtain ⟨c_17, c_18⟩ := HB_Z.out.c2
       go_wp2_with fail
       clear c_10 c_11 c_12 c_13 c_14 c_15 c_16 c_17 c_18
       refine (Twos_c _ _ 128 _ hx S1.out (by decide) (by simp) (by rw [Hnum.out]; have := Hn0.out; omega) (HT.out.ext HE.out)).mono ?_
       rintro e w2 ⟨j, rfl, hj, g2⟩
       have hz_w2 := g2.size
       replace HE := hid (HE.out.trans g2)
       replace HB_M := hid (HB_M.out.ext g2)
       replace HB_X := hid (HB_X.out.ext g2)
       replace HB_Z := hid (HB_Z.out.ext g2)
       replace hx := hx.ext g2
       rw [Hnum.out, Int.natAbs_natCast] at hj
       obtain rfl : j = 0 := hj.2 hod
       have Hod : Hid (decide (n % 2 = 1) = true) := hid (decide_eq_true hod)
       clear hj hod
       obtain ⟨c_19, c_20, c_21, c_22⟩ := HB_M.out.c4
       obtain ⟨c_23, c_24, c_25⟩ := HB_X.out.c3
       obtain ⟨c_26, c_27⟩ := HB_Z.out.c2
       go_wp2_with fail
       clear c_19 c_20 c_21 c_22 c_23 c_24 c_25 c_26 c_27
       refine (upward_c m2 true mid _ hm4 HC.out).mono ?_
       rintro e w3 ⟨rfl, g3⟩
       have hz_w3 := g3.size
       replace HE := hid (HE.out.trans g3)
       replace HB_M := hid (HB_M.out.ext g3)
       replace HB_X := hid (HB_X.out.ext g3)
       replace HB_Z := hid (HB_Z.out.ext g3)
       replace hx := hx.ext g3
       cases hup : upB m2 true mid
       ·have e : Hid (n2 = n) := hid (by rw [HN2.out]; unfold endN; rw [← HM2.out, Hod.out, hup]; simp)
        clear hup
        obtain ⟨c_28, c_29, c_30, c_31⟩ := HB_M.out.c4
        obtain ⟨c_32, c_33, c_34⟩ := HB_X.out.c3
        obtain ⟨c_35, c_36⟩ := HB_Z.out.c2
        go_wp2_with fail
        clear c_28 c_29 c_30 c_31 c_32 c_33 c_34 c_35 c_36
        go_meet
        refine ⟨by rw [HF1.out]; rfl, HE, HB_M, HB_Z, ⟨ng, a, nn, c, a', n', c', HB_X.out, by rw [e.out]; exact hx⟩, by omega⟩
       ·have e : Hid (n2 = n + 1) := hid (by rw [HN2.out]; unfold endN; rw [← HM2.out, Hod.out, hup]; simp)
        clear hup
        have HV : Hid (((n : Nat) : Rat) + ((1 : Int) : Rat) = ((n2 : Nat) : Rat)) := hid (by rw [e.out, Rat.natCast_add]; rfl)
        obtain ⟨c_28, c_29, c_30, c_31⟩ := HB_M.out.c4
        obtain ⟨c_32, c_33, c_34⟩ := HB_X.out.c3
        obtain ⟨c_35, c_36⟩ := HB_Z.out.c2
        go_wp2_with fail
        clear c_28 c_29 c_30 c_31 c_32 c_33 c_34 c_35 c_36
        have hb0 : Ext w3 w3.drew := Below.drew (Below.refl _ w3)
        obtain ⟨c_38, c_39, c_40⟩ := (HB_X.out.ext hb0).c3
        go_region_with (first
           | (go_at_call 82; (with_reducible refine (Int_c 1 _ (by decide) (by decide)).mono ?_); rintro e x37_1 ⟨v1, rfl, k1, g1⟩; have hb1 : Ext w3 x37_1 := hb0.trans g1; obtain ⟨d_41, d_42, d_43⟩ := (HB_X.out.ext hb1).c3; obtain ⟨d_44, d_45, d_46⟩ := (HB_X.out.ext hb1).f3)
           | (go_at_call 83; (with_reducible refine (Add_c _ _ _ _ 128 _ (hx.ext hb1) k1 S1.out (SmQ.int (by decide) (by decide)) (by decide)).mono ?_); rintro e x37_2 ⟨v2, rfl, k2, g2⟩; have hb2 : Ext w3 x37_2 := hb1.trans g2; rw [HV.out] at k2; obtain ⟨ng2, a2, n2', c2, a2', n2'', c2', rfl⟩ := k2.shape; obtain ⟨d_47, d_48, d_49⟩ := (HB_X.out.ext hb2).c3; obtain ⟨d_50, d_51, d_52⟩ := (HB_X.out.ext hb2).f3))
        all_goals
         go_wp2_with fail
         have hz_x37_2 := hb2.size
         replace HE := hid (HE.out.trans hb2)
         replace HB_M := hid (HB_M.out.ext hb2)
         replace HB_X := hid (HB_X.out.ext hb2)
         replace HB_Z := hid (HB_Z.out.ext hb2)
         replace hx := hx.ext hb2
         obtain ⟨W4, hW4, g4, q4, B4, hy4, ho4⟩ := sto3 HE.out (by omega) HB_X.out (by decide) (.bool ng2) (.slice a2 n2' c2) (.slice a2' n2'' c2')
         rw [← hW4]
         clear hW4
         replace HE := hid g4
         replace HB_M := hid (ho4 _ _ _ (by omega) HB_M.out)
         replace HB_Z := hid (ho4 _ _ _ (by omega) HB_Z.out)
         replace HB_X := hid B4
         replace hx := hx.keep q4
         replace k2 := k2.keep q4
         go_meet
         refine ⟨by rw [HF1.out]; rfl, HE, HB_M, HB_Z, ⟨ng2, a2, n2', c2, a2', n2'', c2', HB_X.out, k2⟩, by omega⟩
      ·have Hn0 := hid hn0
       clear hn0
       have hsg : Hid ((((n : Nat) : Rat)).num.sign = 1) := hid (by rw [Hnum.out]; exact Int.sign_eq_one_of_pos (by have := Hn0.out; omega))
       obtain ⟨c_1, c_2, c_3, c_4⟩ := HB_M.out.c4
       obtain ⟨c_5, c_6, c_7⟩ := HB_X.out.c3
       obtain ⟨c_8, c_9⟩ := HB_Z.out.c2
       go_wp2_with fail
       clear c_1 c_2 c_3 c_4 c_5 c_6 c_7 c_8 c_9
       refine (sign_c _ _ _ hx).mono ?_
       rintro e w1 ⟨rfl, g1⟩
       have hz_w1 := g1.size
       replace HE := hid (HE.out.trans g1)
       replace HB_M := hid (HB_M.out.ext g1)
       replace HB_X := hid (HB_X.out.ext g1)
       replace HB_Z := hid (HB_Z.out.ext g1)
       replace hx := hx.ext g1
       rw [hsg.out]
       obtain ⟨c_10, c_11, c_12, c_13⟩ := HB_M.out.c4
       obtain ⟨c_14, c_15, c_16⟩ := HB_X.out.c3
       obtain ⟨c_17, c_18⟩ := HB_Z.out.c2
       go_wp2_with fail
       clear c_10 c_11 c_12 c_13 c_14 c_15 c_16 c_17 c_18
       refine (Twos_c _ _ 128 _ hx S1.out (by decide) (by simp) (by rw [Hnum.out]; have := Hn0.out; omega) (HT.out.ext HE.out)).mono ?_
       rintro e w2 ⟨j, rfl, hj, g2⟩
       have hz_w2 := g2.size
       replace HE := hid (HE.out.trans g2)
       replace HB_M := hid (HB_M.out.ext g2)
       replace HB_X := hid (HB_X.out.ext g2)
       replace HB_Z := hid (HB_Z.out.ext g2)
       replace hx := hx.ext g2
       rw [Hnum.out, Int.natAbs_natCast] at hj
       have hj0 : (j == 0) = false := beq_eq_false_iff_ne.2 (fun h => hod (hj.1 h))
       have Hod : Hid (decide (n % 2 = 1) = false) := hid (decide_eq_false hod)
       clear hj hod
       obtain ⟨c_19, c_20, c_21, c_22⟩ := HB_M.out.c4
       obtain ⟨c_23, c_24, c_25⟩ := HB_X.out.c3
       obtain ⟨c_26, c_27⟩ := HB_Z.out.c2
       go_wp2_with fail
       clear c_19 c_20 c_21 c_22 c_23 c_24 c_25 c_26 c_27
       refine (upward_c m2 false mid _ hm4 HC.out).mono ?_
       rintro e w3 ⟨rfl, g3⟩
       have hz_w3 := g3.size
       replace HE := hid (HE.out.trans g3)
       replace HB_M := hid (HB_M.out.ext g3)
       replace HB_X := hid (HB_X.out.ext g3)
       replace HB_Z := hid (HB_Z.out.ext g3)
       replace hx := hx.ext g3
       cases hup : upB m2 false mid
       ·have e : Hid (n2 = n) := hid (by rw [HN2.out]; unfold endN; rw [← HM2.out, Hod.out, hup]; simp)
        clear hup
        obtain ⟨c_28, c_29, c_30, c_31⟩ := HB_M.out.c4
        obtain ⟨c_32, c_33, c_34⟩ := HB_X.out.c3
        obtain ⟨c_35, c_36⟩ := HB_Z.out.c2
        go_wp2_with fail
        clear c_28 c_29 c_30 c_31 c_32 c_33 c_34 c_35 c_36
        go_meet
        refine ⟨by rw [HF1.out]; rfl, HE, HB_M, HB_Z, ⟨ng, a, nn, c, a', n', c', HB_X.out, by rw [e.out]; exact hx⟩, by omega⟩
       ·have e : Hid (n2 = n + 1) := hid (by rw [HN2.out]; unfold endN; rw [← HM2.out, Hod.out, hup]; simp)
        clear hup
        have HV : Hid (((n : Nat) : Rat) + ((1 : Int) : Rat) = ((n2 : Nat) : Rat)) := hid (by rw [e.out, Rat.natCast_add]; rfl)
        obtain ⟨c_28, c_29, c_30, c_31⟩ := HB_M.out.c4
        obtain ⟨c_32, c_33, c_34⟩ := HB_X.out.c3
        obtain ⟨c_35, c_36⟩ := HB_Z.out.c2
        go_wp2_with fail
        clear c_28 c_29 c_30 c_31 c_32 c_33 c_34 c_35 c_36
        have hb0 : Ext w3 w3.drew := Below.drew (Below.refl _ w3)
        obtain ⟨c_38, c_39, c_40⟩ := (HB_X.out.ext hb0).c3
        go_region_with (first
           | (go_at_call 82; (with_reducible refine (Int_c 1 _ (by decide) (by decide)).mono ?_); rintro e x37_1 ⟨v1, rfl, k1, g1⟩; have hb1 : Ext w3 x37_1 := hb0.trans g1; obtain ⟨d_41, d_42, d_43⟩ := (HB_X.out.ext hb1).c3; obtain ⟨d_44, d_45, d_46⟩ := (HB_X.out.ext hb1).f3)
           | (go_at_call 83; (with_reducible refine (Add_c _ _ _ _ 128 _ (hx.ext hb1) k1 S1.out (SmQ.int (by decide) (by decide)) (by decide)).mono ?_); rintro e x37_2 ⟨v2, rfl, k2, g2⟩; have hb2 : Ext w3 x37_2 := hb1.trans g2; rw [HV.out] at k2; obtain ⟨ng2, a2, n2', c2, a2', n2'', c2', rfl⟩ := k2.shape; obtain ⟨d_47, d_48, d_49⟩ := (HB_X.out.ext hb2).c3; obtain ⟨d_50, d_51, d_52⟩ := (HB_X.out.ext hb2).f3))
        all_goals
         go_wp2_with fail
         have hz_x37_2 := hb2.size
         replace HE := hid (HE.out.trans hb2)
         replace HB_M := hid (HB_M.out.ext hb2)
         replace HB_X := hid (HB_X.out.ext hb2)
         replace HB_Z := hid (HB_Z.out.ext hb2)
         replace hx := hx.ext hb2
         obtain ⟨W4, hW4, g4, q4, B4, hy4, ho4⟩ := sto3 HE.out (by omega) HB_X.out (by decide) (.bool ng2) (.slice a2 n2' c2) (.slice a2' n2'' c2')
         rw [← hW4]
         clear hW4
         replace HE := hid g4
         replace HB_M := hid (ho4 _ _ _ (by omega) HB_M.out)
         replace HB_Z := hid (ho4 _ _ _ (by omega) HB_Z.out)
         replace HB_X := hid B4
         replace hx := hx.keep q4
         replace k2 := k2.keep q4
         go_meet
         refine ⟨by rw [HF1.out]; rfl, HE, HB_M, HB_Z, ⟨ng2, a2, n2', c2, a2', n2'', c2', HB_X.out, k2⟩, by omega⟩
   ·have e : Hid (fl = 0 ∧ n2 = n) := hid (by rw [HFl.out, HN2.out]; unfold endN endF; simp)
    obtain ⟨c_1, c_2, c_3, c_4⟩ := HB_M.out.c4
    obtain ⟨c_5, c_6, c_7⟩ := HB_X.out.c3
    obtain ⟨c_8, c_9⟩ := HB_Z.out.c2
    go_wp2_with fail
    clear c_1 c_2 c_3 c_4 c_5 c_6 c_7 c_8 c_9
    go_meet
    refine ⟨by rw [e.out.1]; rfl, HE, HB_M, HB_Z, ⟨ng, a, nn, c, a', n', c', HB_X.out, by rw [e.out.2]; exact hx⟩, by omega⟩
  case rest =>
   obtain ⟨rfl, HE, HB_M, HB_Z, ⟨ng2, a2, n2', c2, a2', n2'', c2', B_X, kv⟩, hzc⟩ := hcut
   have HB_X := hid B_X
   clear B_X hx
   have hb1023 : b ≤ 1023 := by
    have := HB.out; have e := HE0.out
    have : 2 ^ (E - 1) ≤ 1024 := Nat.pow_le_pow_right (n := 2) (by decide) (show E - 1 ≤ 10 by omega)
    unfold bias at *; omega
   have hk : -20000 ≤ k ∧ k ≤ 20000 := by have := Hk.out; have := HP.out; have := Hf.out; omega
   have SX : Hid (SmQ 128 ((n2 : Nat) : Rat)) := hid (SmQ.nat (by decide) (by
    have h1 := HN3.out; have h2 := HP.out
    have h3 : 2 ^ P ≤ 2 ^ 113 := Nat.pow_le_pow_right (by decide) h2.2
    have h4 : (2 : Nat) ^ 113 < 2 ^ 128 := by decide
    omega))
   have SK : Hid (SmQ 21000 (((n2 : Nat) : Rat) * (2 : Rat) ^ k)) := hid ((SX.out.mul_p2 k 20001 (by omega)).mono (by decide))
   have SG : Hid (SmQ 21000 (grQ P b)) := hid ((SmQ.mul_p2 (K := 128) _ 20001 (SmQ.nat (by decide) (by
    have h2 := HP.out
    have h3 : 2 ^ P ≤ 2 ^ 113 := Nat.pow_le_pow_right (by decide) h2.2
    have h4 : (2 : Nat) ^ 113 < 2 ^ 128 := by decide
    omega)) (by have := HP.out; omega)).mono (by decide))
   have HK := hid hk
   have HB1 := hid hb1023
   clear hk hb1023
   have pw : ∀ n : Nat, n ≤ 2 ^ P → ∀ f : Nat, f ≤ 2046 → n + f * 2 ^ (P - 1) < 2 ^ 127 := fun n h f hf => by
    have h2 := HP.out
    have h3 : 2 ^ P ≤ 2 ^ 113 := Nat.pow_le_pow_right (by decide) h2.2
    have h4 : 2 ^ (P - 1) ≤ 2 ^ 112 := Nat.pow_le_pow_right (by decide) (by omega)
    have h5 : f * 2 ^ (P - 1) ≤ 2046 * 2 ^ 112 := Nat.mul_le_mul hf h4
    have h6 : (2 : Nat) ^ 113 + 2046 * 2 ^ 112 < 2 ^ 127 := by decide
    omega
   have PW := hid pw
   clear pw
   by_cases hle : ((n2 : Nat) : Rat) * (2 : Rat) ^ k ≤ grQ P b
   ·have hf2 : f ≤ 2 * b := by
     have hb0 : 0 ≤ b := Nat.zero_le _
     rcases HNm.out with h | h
     ·omega
     ·refine f_bound (P := P) (n := n2) (by have := HP.out; omega) (by have : n ≤ n2 := by { rw [HN2.out]; unfold endN; split; omega; split <;> omega }; omega) ?_
      rw [← Hk.out]; exact hle
    have cw : Hid (∀ w, NumV w _ _ → _) := hid fun w hx => word_c E P m b neg (.agg #[.bool ng2, .slice a2 n2' c2, .slice a2' n2'' c2']) n2 f k w HF.out HB1.out hx Hk.out (by have := HB1.out; omega) (PW.out n2 HN3.out f (by have := HB1.out; omega))
    clear hf2
    have hd : decide (cmpQ (((n2 : Nat) : Rat) * (2 : Rat) ^ k) (grQ P b) ≤ 0) = true := decide_eq_true (by unfold cmpQ; split; omega; rw [if_neg (Rat.not_lt.2 hle)]; omega)
    have HZ : Hid (endR E P b m neg n f is mid tiny = (wordN E P neg n2 f, fl)) := hid (by rw [HR.out, if_pos hle])
    clear hle
    obtain ⟨r0, r1, er⟩ := Word.shape (wordN E P neg n2 f)
    have Er := hid er
    clear er
    obtain ⟨c_1, c_2, c_3, c_4⟩ := HB_M.out.c4
    obtain ⟨c_5, c_6, c_7⟩ := HB_X.out.c3
    obtain ⟨c_8, c_9⟩ := HB_Z.out.c2
    go_wp2_with fail
    clear c_1 c_2 c_3 c_4 c_5 c_6 c_7 c_8 c_9
    have HS : Hid (∀ w', Ext wc w' → w'.cell? ⟨w.heap.size, 0, none⟩ = some (.int .i64 E) ∧ w'.cell? ⟨w.heap.size, 1, none⟩ = some (.int .i64 P) ∧ w'.cell? ⟨w.heap.size, 2, none⟩ = some (.int .i64 m) ∧ w'.cell? ⟨w.heap.size, 3, none⟩ = some (.int .i64 b) ∧ w'.cell? ⟨w.heap.size + 1, 0, none⟩ = some (.bool ng2) ∧ w'.cell? ⟨w.heap.size + 1, 1, none⟩ = some (.slice a2 n2' c2) ∧ w'.cell? ⟨w.heap.size + 1, 2, none⟩ = some (.slice a2' n2'' c2')) := hid fun w' h => ⟨(HB_M.out.ext h).cell 0, (HB_M.out.ext h).cell 1, (HB_M.out.ext h).cell 2, (HB_M.out.ext h).cell 3, (HB_X.out.ext h).cell 0, (HB_X.out.ext h).cell 1, (HB_X.out.ext h).cell 2⟩
    have hb0 : Ext wc wc.drew := Below.drew (Below.refl _ wc)
    go_region_held3 (fun w' => w'.cell? ⟨w.heap.size, 0, none⟩ = some (.int .i64 E) ∧ w'.cell? ⟨w.heap.size, 1, none⟩ = some (.int .i64 P) ∧ w'.cell? ⟨w.heap.size, 2, none⟩ = some (.int .i64 m) ∧ w'.cell? ⟨w.heap.size, 3, none⟩ = some (.int .i64 b) ∧ w'.cell? ⟨w.heap.size + 1, 0, none⟩ = some (.bool ng2) ∧ w'.cell? ⟨w.heap.size + 1, 1, none⟩ = some (.slice a2 n2' c2) ∧ w'.cell? ⟨w.heap.size + 1, 2, none⟩ = some (.slice a2' n2'' c2'))
      (first | exact HS.out _ (by assumption))
     (first
     | (go_at_call 71; (with_reducible refine (shift_c _ _ 128 _ _ (kv.ext hb0) SX.out HK.out.1 HK.out.2 (by decide)).mono ?_); rintro e x10_1 ⟨v1, rfl, k1, g1⟩; have hb1 : Ext wc x10_1 := hb0.trans g1)
     | (go_at_call 74; (with_reducible refine (greatest_c E P m b _ HP.out HB1.out).mono ?_); rintro e x10_2 ⟨v2, rfl, k2, g2⟩; have hb2 : Ext wc x10_2 := hb1.trans g2)
     | (go_at_call 19; (with_reducible refine (Cmp_c _ _ _ _ 21000 _ (k1.ext g2) k2 SK.out SG.out (by decide)).mono ?_); rintro e x10_3 ⟨rfl, g3⟩; have hb3 : Ext wc x10_3 := hb2.trans g3))
    clear HS
    have hz_x10_3 := hb3.size
    replace HE := hid (HE.out.trans hb3)
    replace HB_M := hid (HB_M.out.ext hb3)
    replace HB_X := hid (HB_X.out.ext hb3)
    replace HB_Z := hid (HB_Z.out.ext hb3)
    replace kv := kv.ext hb3
    obtain ⟨c_11, c_12, c_13, c_14⟩ := HB_M.out.c4
    obtain ⟨c_15, c_16, c_17⟩ := HB_X.out.c3
    obtain ⟨c_18, c_19⟩ := HB_Z.out.c2
    go_wp2_with fail
    clear c_11 c_12 c_13 c_14 c_15 c_16 c_17 c_18 c_19
    refine (cw.out _ kv).mono ?_
    rintro e w1 ⟨rfl, g1⟩
    have hz_w1 := g1.size
    replace HE := hid (HE.out.trans g1)
    replace HB_M := hid (HB_M.out.ext g1)
    replace HB_X := hid (HB_X.out.ext g1)
    replace HB_Z := hid (HB_Z.out.ext g1)
    replace kv := kv.ext g1
    rw [Er.out]
    obtain ⟨c_20, c_21, c_22, c_23⟩ := HB_M.out.c4
    obtain ⟨c_24, c_25, c_26⟩ := HB_X.out.c3
    obtain ⟨c_27, c_28⟩ := HB_Z.out.c2
    obtain ⟨f_29, f_30⟩ := HB_Z.out.f2
    go_wp2_with fail
    clear c_20 c_21 c_22 c_23 c_24 c_25 c_26 c_27 c_28 f_29 f_30
    obtain ⟨W2, hW2, g2, q2, B2, hy2, ho2⟩ := sto2 HE.out (by omega) HB_Z.out (by decide) (.int .u64 r0) (.int .u64 r1)
    rw [← hW2]
    clear hW2
    replace HE := hid g2
    replace HB_M := hid (ho2 _ _ _ (by omega) HB_M.out)
    replace HB_X := hid (ho2 _ _ _ (by omega) HB_X.out)
    replace HB_Z := hid B2
    replace kv := kv.keep q2
    unfold EndPost
    rw [HZ.out]
    obtain ⟨c_31, c_32⟩ := HB_Z.out.c2
    refine bodyPost_ret (v := .tuple #[.agg #[.int .u64 r0, .int .u64 r1], .int .i64 fl]) (by simp [results, Tryz.results113, go_sem, c_31, c_32]) rfl ⟨by rw [Er.out], HE.out⟩
   ·have hd : decide (cmpQ (((n2 : Nat) : Rat) * (2 : Rat) ^ k) (grQ P b) ≤ 0) = false := decide_eq_false (by unfold cmpQ; rw [if_neg (fun h => hle (Rat.le_of_lt h)), if_pos (Rat.not_le.1 hle)]; omega)
    have HZ1 : Hid (endR E P b m neg n f is mid tiny = if m2 = 2 ∨ m2 = 4 then (wordN E P neg (2 ^ P - 1) (2 * b - 1), 20) else (infw E P neg, 20)) := hid (by rw [HR.out, if_neg hle])
    clear hle
    obtain ⟨c_1, c_2, c_3, c_4⟩ := HB_M.out.c4
    obtain ⟨c_5, c_6, c_7⟩ := HB_X.out.c3
    obtain ⟨c_8, c_9⟩ := HB_Z.out.c2
    go_wp2_with fail
    clear c_1 c_2 c_3 c_4 c_5 c_6 c_7 c_8 c_9
    have HS : Hid (∀ w', Ext wc w' → w'.cell? ⟨w.heap.size, 0, none⟩ = some (.int .i64 E) ∧ w'.cell? ⟨w.heap.size, 1, none⟩ = some (.int .i64 P) ∧ w'.cell? ⟨w.heap.size, 2, none⟩ = some (.int .i64 m) ∧ w'.cell? ⟨w.heap.size, 3, none⟩ = some (.int .i64 b) ∧ w'.cell? ⟨w.heap.size + 1, 0, none⟩ = some (.bool ng2) ∧ w'.cell? ⟨w.heap.size + 1, 1, none⟩ = some (.slice a2 n2' c2) ∧ w'.cell? ⟨w.heap.size + 1, 2, none⟩ = some (.slice a2' n2'' c2')) := hid fun w' h => ⟨(HB_M.out.ext h).cell 0, (HB_M.out.ext h).cell 1, (HB_M.out.ext h).cell 2, (HB_M.out.ext h).cell 3, (HB_X.out.ext h).cell 0, (HB_X.out.ext h).cell 1, (HB_X.out.ext h).cell 2⟩
    have hb0 : Ext wc wc.drew := Below.drew (Below.refl _ wc)
    go_region_held3 (fun w' => w'.cell? ⟨w.heap.size, 0, none⟩ = some (.int .i64 E) ∧ w'.cell? ⟨w.heap.size, 1, none⟩ = some (.int .i64 P) ∧ w'.cell? ⟨w.heap.size, 2, none⟩ = some (.int .i64 m) ∧ w'.cell? ⟨w.heap.size, 3, none⟩ = some (.int .i64 b) ∧ w'.cell? ⟨w.heap.size + 1, 0, none⟩ = some (.bool ng2) ∧ w'.cell? ⟨w.heap.size + 1, 1, none⟩ = some (.slice a2 n2' c2) ∧ w'.cell? ⟨w.heap.size + 1, 2, none⟩ = some (.slice a2' n2'' c2'))
      (first | exact HS.out _ (by assumption))
     (first
     | (go_at_call 71; (with_reducible refine (shift_c _ _ 128 _ _ (kv.ext hb0) SX.out HK.out.1 HK.out.2 (by decide)).mono ?_); rintro e x10_1 ⟨v1, rfl, k1, g1⟩; have hb1 : Ext wc x10_1 := hb0.trans g1)
     | (go_at_call 74; (with_reducible refine (greatest_c E P m b _ HP.out HB1.out).mono ?_); rintro e x10_2 ⟨v2, rfl, k2, g2⟩; have hb2 : Ext wc x10_2 := hb1.trans g2)
     | (go_at_call 19; (with_reducible refine (Cmp_c _ _ _ _ 21000 _ (k1.ext g2) k2 SK.out SG.out (by decide)).mono ?_); rintro e x10_3 ⟨rfl, g3⟩; have hb3 : Ext wc x10_3 := hb2.trans g3))
    clear HS
    have hz_x10_3 := hb3.size
    replace HE := hid (HE.out.trans hb3)
    replace HB_M := hid (HB_M.out.ext hb3)
    replace HB_X := hid (HB_X.out.ext hb3)
    replace HB_Z := hid (HB_Z.out.ext hb3)
    replace kv := kv.ext hb3
    by_cases hm24 : m2 = 2 ∨ m2 = 4
    ·have HZ : Hid (endR E P b m neg n f is mid tiny = (wordN E P neg (2 ^ P - 1) (2 * b - 1), 20)) := hid (by rw [HZ1.out, if_pos hm24])
     obtain ⟨r0, r1, er⟩ := Word.shape (wordN E P neg (2 ^ P - 1) (2 * b - 1))
     have Er := hid er
     clear er
     have hb1 : 1 ≤ b := by
      have := HB.out; have e := HE0.out
      have : 2 ^ 1 ≤ 2 ^ (E - 1) := Nat.pow_le_pow_right (n := 2) (by decide) (by omega)
      unfold bias at *; omega
     have h1 : IntKind.i64.wrap ((b : Int) - P) = (b : Int) - P := IntWalk.i64_in _ (by have := HB1.out; have := HP.out; omega)
     have h2 : IntKind.i64.wrap ((b : Int) - P + 1) = (b : Int) - P + 1 := IntWalk.i64_in _ (by have := HB1.out; have := HP.out; omega)
     have hp : 1 ≤ 2 ^ P := Nat.pow_pos (by decide)
     have HV : Hid ((2 : Rat) ^ (P : Int) - ((1 : Int) : Rat) = ((2 ^ P - 1 : Nat) : Rat)) := hid (by
      rw [p2_nat]
      have : ((2 ^ P : Nat) : Rat) = ((2 ^ P - 1 : Nat) : Rat) + 1 := by
       have e : ((2 ^ P - 1 + 1 : Nat) : Rat) = ((2 ^ P - 1 : Nat) : Rat) + ((1 : Nat) : Rat) := Rat.natCast_add _ _
       rw [Nat.sub_add_cancel hp] at e
       exact e
      rw [this]; grind)
     have T1 : Hid (SmQ 128 ((2 : Rat) ^ (P : Int))) := hid (SmQ.p2 (by have := HP.out; omega))
     have T2 : Hid (SmQ 128 ((1 : Int) : Rat)) := hid (SmQ.int (by decide) (by decide))
     have hkk : Hid ((b : Int) - P + 1 = 2 - (b : Int) - P + ((2 * b - 1 : Nat) : Int)) := hid (by omega)
     have cx : Hid (∀ w v, NumV w v _ → _) := hid fun w v hv => word_c E P m b neg v (2 ^ P - 1) (2 * b - 1) ((b : Int) - P + 1) w HF.out HB1.out hv hkk.out (by have := HB1.out; omega) (PW.out (2 ^ P - 1) (by omega) (2 * b - 1) (by have := HB1.out; omega))
     clear hb1 hp
     by_cases h24 : m2 = 2
     ·have e24 : ((m2 : Int) == 2) = true := by rw [h24]; rfl
      clear h24 hm24
      obtain ⟨c_11, c_12, c_13, c_14⟩ := HB_M.out.c4
      obtain ⟨c_15, c_16, c_17⟩ := HB_X.out.c3
      obtain ⟨c_18, c_19⟩ := HB_Z.out.c2
      go_wp2_with fail
      clear c_11 c_12 c_13 c_14 c_15 c_16 c_17 c_18 c_19
      have HS : Hid (∀ w', Ext x10_3 w' → w'.cell? ⟨w.heap.size, 0, none⟩ = some (.int .i64 E) ∧ w'.cell? ⟨w.heap.size, 1, none⟩ = some (.int .i64 P) ∧ w'.cell? ⟨w.heap.size, 2, none⟩ = some (.int .i64 m) ∧ w'.cell? ⟨w.heap.size, 3, none⟩ = some (.int .i64 b)) := hid fun w' h => ⟨(HB_M.out.ext h).cell 0, (HB_M.out.ext h).cell 1, (HB_M.out.ext h).cell 2, (HB_M.out.ext h).cell 3⟩
      have hne_M : w.heap.size ≠ w.heap.size + 1 + 1 := by omega
      have HSZ : Hid (∀ (v0 v1 : Value) (w' : World), Ext x10_3 w' → ((w'.setCell ⟨w.heap.size + 1 + 1, 0, none⟩ v0).setCell ⟨w.heap.size + 1 + 1, 1, none⟩ v1).cell? ⟨w.heap.size, 0, none⟩ = some (.int .i64 E) ∧ ((w'.setCell ⟨w.heap.size + 1 + 1, 0, none⟩ v0).setCell ⟨w.heap.size + 1 + 1, 1, none⟩ v1).cell? ⟨w.heap.size, 1, none⟩ = some (.int .i64 P) ∧ ((w'.setCell ⟨w.heap.size + 1 + 1, 0, none⟩ v0).setCell ⟨w.heap.size + 1 + 1, 1, none⟩ v1).cell? ⟨w.heap.size, 2, none⟩ = some (.int .i64 m) ∧ ((w'.setCell ⟨w.heap.size + 1 + 1, 0, none⟩ v0).setCell ⟨w.heap.size + 1 + 1, 1, none⟩ v1).cell? ⟨w.heap.size, 3, none⟩ = some (.int .i64 b)) := hid fun v0 v1 w' h => ⟨(cell_other hne_M (cell_other hne_M ((HB_M.out.ext h).cell 0))), (cell_other hne_M (cell_other hne_M ((HB_M.out.ext h).cell 1))), (cell_other hne_M (cell_other hne_M ((HB_M.out.ext h).cell 2))), (cell_other hne_M (cell_other hne_M ((HB_M.out.ext h).cell 3)))⟩
      clear hne_M
      have hb0 : Ext x10_3 x10_3.drew := Below.drew (Below.refl _ x10_3)
      go_region_held3 (fun w' => w'.cell? ⟨w.heap.size, 0, none⟩ = some (.int .i64 E) ∧ w'.cell? ⟨w.heap.size, 1, none⟩ = some (.int .i64 P) ∧ w'.cell? ⟨w.heap.size, 2, none⟩ = some (.int .i64 m) ∧ w'.cell? ⟨w.heap.size, 3, none⟩ = some (.int .i64 b))
        (first | exact HS.out _ (by assumption) | exact HSZ.out _ _ _ (by assumption))
       (first
       | (go_at_call 47; (with_reducible refine (two_c _ _ (by have := HP.out; omega) (by have := HP.out; omega)).mono ?_); rintro e x20_1 ⟨v1, rfl, k1, g1⟩; have hb1 : Ext x10_3 x20_1 := hb0.trans g1)
       | (go_at_call 82; (with_reducible refine (Int_c 1 _ (by decide) (by decide)).mono ?_); rintro e x20_2 ⟨v2, rfl, k2, g2⟩; have hb2 : Ext x10_3 x20_2 := hb1.trans g2)
       | (go_at_call 99; (with_reducible refine (Sub_c _ _ _ _ 128 _ (k1.ext g2) k2 T1.out T2.out (by decide)).mono ?_); rintro e x20_3 ⟨v3, rfl, k3, g3⟩; have hb3 : Ext x10_3 x20_3 := hb2.trans g3; rw [HV.out] at k3)
       | (go_at_call 166; (with_reducible refine (cx.out _ _ k3).mono ?_); rintro e x20_4 ⟨rfl, g4⟩; have hb4 : Ext x10_3 x20_4 := hb3.trans g4; rw [Er.out]; obtain ⟨zc0, zc1⟩ := (HB_Z.out.ext hb4).c2; obtain ⟨zf0, zf1⟩ := (HB_Z.out.ext hb4).f2))
      clear HS HSZ
      have hz_x20_4 := hb4.size
      replace HE := hid (HE.out.trans hb4)
      replace HB_M := hid (HB_M.out.ext hb4)
      replace HB_X := hid (HB_X.out.ext hb4)
      replace HB_Z := hid (HB_Z.out.ext hb4)
      replace kv := kv.ext hb4
      obtain ⟨c_21, c_22, c_23, c_24⟩ := HB_M.out.c4
      obtain ⟨c_25, c_26, c_27⟩ := HB_X.out.c3
      obtain ⟨c_28, c_29⟩ := HB_Z.out.c2
      obtain ⟨f_30, f_31⟩ := HB_Z.out.f2
      go_wp2_with fail
      clear c_21 c_22 c_23 c_24 c_25 c_26 c_27 c_28 c_29 f_30 f_31
      obtain ⟨W1, hW1, g1, q1, B1, hy1, ho1⟩ := sto2 HE.out (by omega) HB_Z.out (by decide) (.int .u64 r0) (.int .u64 r1)
      rw [← hW1]
      clear hW1
      replace HE := hid g1
      replace HB_M := hid (ho1 _ _ _ (by omega) HB_M.out)
      replace HB_X := hid (ho1 _ _ _ (by omega) HB_X.out)
      replace HB_Z := hid B1
      replace kv := kv.keep q1
      unfold EndPost
      rw [HZ.out]
      obtain ⟨c_32, c_33⟩ := HB_Z.out.c2
      refine bodyPost_ret (v := .tuple #[.agg #[.int .u64 r0, .int .u64 r1], .int .i64 20]) (by simp [results, Tryz.results113, go_sem, c_32, c_33]) rfl ⟨by show _ = Ending.returned (.tuple #[Word (wordN E P neg (2 ^ P - 1) (2 * b - 1)), .int .i64 20]); rw [Er.out], HE.out⟩
     ·have e24 : ((m2 : Int) == 2) = false := by simp; omega
      have e25 : ((m2 : Int) == 4) = true := by simp; omega
      clear h24 hm24
      obtain ⟨c_11, c_12, c_13, c_14⟩ := HB_M.out.c4
      obtain ⟨c_15, c_16, c_17⟩ := HB_X.out.c3
      obtain ⟨c_18, c_19⟩ := HB_Z.out.c2
      go_wp2_with fail
      clear c_11 c_12 c_13 c_14 c_15 c_16 c_17 c_18 c_19
      have HS : Hid (∀ w', Ext x10_3 w' → w'.cell? ⟨w.heap.size, 0, none⟩ = some (.int .i64 E) ∧ w'.cell? ⟨w.heap.size, 1, none⟩ = some (.int .i64 P) ∧ w'.cell? ⟨w.heap.size, 2, none⟩ = some (.int .i64 m) ∧ w'.cell? ⟨w.heap.size, 3, none⟩ = some (.int .i64 b)) := hid fun w' h => ⟨(HB_M.out.ext h).cell 0, (HB_M.out.ext h).cell 1, (HB_M.out.ext h).cell 2, (HB_M.out.ext h).cell 3⟩
      have hne_M : w.heap.size ≠ w.heap.size + 1 + 1 := by omega
      have HSZ : Hid (∀ (v0 v1 : Value) (w' : World), Ext x10_3 w' → ((w'.setCell ⟨w.heap.size + 1 + 1, 0, none⟩ v0).setCell ⟨w.heap.size + 1 + 1, 1, none⟩ v1).cell? ⟨w.heap.size, 0, none⟩ = some (.int .i64 E) ∧ ((w'.setCell ⟨w.heap.size + 1 + 1, 0, none⟩ v0).setCell ⟨w.heap.size + 1 + 1, 1, none⟩ v1).cell? ⟨w.heap.size, 1, none⟩ = some (.int .i64 P) ∧ ((w'.setCell ⟨w.heap.size + 1 + 1, 0, none⟩ v0).setCell ⟨w.heap.size + 1 + 1, 1, none⟩ v1).cell? ⟨w.heap.size, 2, none⟩ = some (.int .i64 m) ∧ ((w'.setCell ⟨w.heap.size + 1 + 1, 0, none⟩ v0).setCell ⟨w.heap.size + 1 + 1, 1, none⟩ v1).cell? ⟨w.heap.size, 3, none⟩ = some (.int .i64 b)) := hid fun v0 v1 w' h => ⟨(cell_other hne_M (cell_other hne_M ((HB_M.out.ext h).cell 0))), (cell_other hne_M (cell_other hne_M ((HB_M.out.ext h).cell 1))), (cell_other hne_M (cell_other hne_M ((HB_M.out.ext h).cell 2))), (cell_other hne_M (cell_other hne_M ((HB_M.out.ext h).cell 3)))⟩
      clear hne_M
      have hb0 : Ext x10_3 x10_3.drew := Below.drew (Below.refl _ x10_3)
      go_region_held3 (fun w' => w'.cell? ⟨w.heap.size, 0, none⟩ = some (.int .i64 E) ∧ w'.cell? ⟨w.heap.size, 1, none⟩ = some (.int .i64 P) ∧ w'.cell? ⟨w.heap.size, 2, none⟩ = some (.int .i64 m) ∧ w'.cell? ⟨w.heap.size, 3, none⟩ = some (.int .i64 b))
        (first | exact HS.out _ (by assumption) | exact HSZ.out _ _ _ (by assumption))
       (first
       | (go_at_call 47; (with_reducible refine (two_c _ _ (by have := HP.out; omega) (by have := HP.out; omega)).mono ?_); rintro e x20_1 ⟨v1, rfl, k1, g1⟩; have hb1 : Ext x10_3 x20_1 := hb0.trans g1)
       | (go_at_call 82; (with_reducible refine (Int_c 1 _ (by decide) (by decide)).mono ?_); rintro e x20_2 ⟨v2, rfl, k2, g2⟩; have hb2 : Ext x10_3 x20_2 := hb1.trans g2)
       | (go_at_call 99; (with_reducible refine (Sub_c _ _ _ _ 128 _ (k1.ext g2) k2 T1.out T2.out (by decide)).mono ?_); rintro e x20_3 ⟨v3, rfl, k3, g3⟩; have hb3 : Ext x10_3 x20_3 := hb2.trans g3; rw [HV.out] at k3)
       | (go_at_call 166; (with_reducible refine (cx.out _ _ k3).mono ?_); rintro e x20_4 ⟨rfl, g4⟩; have hb4 : Ext x10_3 x20_4 := hb3.trans g4; rw [Er.out]; obtain ⟨zc0, zc1⟩ := (HB_Z.out.ext hb4).c2; obtain ⟨zf0, zf1⟩ := (HB_Z.out.ext hb4).f2))
      clear HS HSZ
      have hz_x20_4 := hb4.size
      replace HE := hid (HE.out.trans hb4)
      replace HB_M := hid (HB_M.out.ext hb4)
      replace HB_X := hid (HB_X.out.ext hb4)
      replace HB_Z := hid (HB_Z.out.ext hb4)
      replace kv := kv.ext hb4
      obtain ⟨c_21, c_22, c_23, c_24⟩ := HB_M.out.c4
      obtain ⟨c_25, c_26, c_27⟩ := HB_X.out.c3
      obtain ⟨c_28, c_29⟩ := HB_Z.out.c2
      obtain ⟨f_30, f_31⟩ := HB_Z.out.f2
      go_wp2_with fail
      clear c_21 c_22 c_23 c_24 c_25 c_26 c_27 c_28 c_29 f_30 f_31
      obtain ⟨W1, hW1, g1, q1, B1, hy1, ho1⟩ := sto2 HE.out (by omega) HB_Z.out (by decide) (.int .u64 r0) (.int .u64 r1)
      rw [← hW1]
      clear hW1
      replace HE := hid g1
      replace HB_M := hid (ho1 _ _ _ (by omega) HB_M.out)
      replace HB_X := hid (ho1 _ _ _ (by omega) HB_X.out)
      replace HB_Z := hid B1
      replace kv := kv.keep q1
      unfold EndPost
      rw [HZ.out]
      obtain ⟨c_32, c_33⟩ := HB_Z.out.c2
      refine bodyPost_ret (v := .tuple #[.agg #[.int .u64 r0, .int .u64 r1], .int .i64 20]) (by simp [results, Tryz.results113, go_sem, c_32, c_33]) rfl ⟨by show _ = Ending.returned (.tuple #[Word (wordN E P neg (2 ^ P - 1) (2 * b - 1)), .int .i64 20]); rw [Er.out], HE.out⟩
    ·have HZ : Hid (endR E P b m neg n f is mid tiny = (infw E P neg, 20)) := hid (by rw [HZ1.out, if_neg hm24])
     obtain ⟨r0, r1, er⟩ := Word.shape (infw E P neg)
     have Er := hid er
     clear er
     have e24 : ((m2 : Int) == 2) = false := by simp; omega
     have e25 : ((m2 : Int) == 4) = false := by simp; omega
     clear hm24
     obtain ⟨c_11, c_12, c_13, c_14⟩ := HB_M.out.c4
     obtain ⟨c_15, c_16, c_17⟩ := HB_X.out.c3
     obtain ⟨c_18, c_19⟩ := HB_Z.out.c2
     go_wp2_with fail
     clear c_11 c_12 c_13 c_14 c_15 c_16 c_17 c_18 c_19
     refine (infinite_c E P m b neg _ HF.out).mono ?_
     rintro e w1 ⟨rfl, g1⟩
     have hz_w1 := g1.size
     replace HE := hid (HE.out.trans g1)
     replace HB_M := hid (HB_M.out.ext g1)
     replace HB_X := hid (HB_X.out.ext g1)
     replace HB_Z := hid (HB_Z.out.ext g1)
     replace kv := kv.ext g1
     rw [Er.out]
     obtain ⟨c_20, c_21, c_22, c_23⟩ := HB_M.out.c4
     obtain ⟨c_24, c_25, c_26⟩ := HB_X.out.c3
     obtain ⟨c_27, c_28⟩ := HB_Z.out.c2
     obtain ⟨f_29, f_30⟩ := HB_Z.out.f2
     go_wp2_with fail
     clear c_20 c_21 c_22 c_23 c_24 c_25 c_26 c_27 c_28 f_29 f_30
     obtain ⟨W2, hW2, g2, q2, B2, hy2, ho2⟩ := sto2 HE.out (by omega) HB_Z.out (by decide) (.int .u64 r0) (.int .u64 r1)
     rw [← hW2]
     clear hW2
     replace HE := hid g2
     replace HB_M := hid (ho2 _ _ _ (by omega) HB_M.out)
     replace HB_X := hid (ho2 _ _ _ (by omega) HB_X.out)
     replace HB_Z := hid B2
     replace kv := kv.keep q2
     unfold EndPost
     rw [HZ.out]
     obtain ⟨c_31, c_32⟩ := HB_Z.out.c2
     refine bodyPost_ret (v := .tuple #[.agg #[.int .u64 r0, .int .u64 r1], .int .i64 20]) (by simp [results, Tryz.results113, go_sem, c_31, c_32]) rfl ⟨by show _ = Ending.returned (.tuple #[Word (infw E P neg), .int .i64 20]); rw [Er.out], HE.out⟩
end Go.Proofs.YtopmjkkjlagfcaaGreatDoor
