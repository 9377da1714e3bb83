/- exact: row of the text of one. -/
import Derived.Test.YtopmjkkjlagfcaaGreatDoorW11
import Derived.Test.YtopmjkkjlagfcaaGreatDoorW19
import Derived.Lib.ItoaNum
import Derived.Test.YtopmjkkjlagfcaaGreatDoorW18
import Derived.Test.YtopmjkkjlagfcaaGreatDoorW12
import Derived.Test.YtopmjkkjlagfcaaGreatDoorW15
namespace Go.Proofs.YtopmjkkjlagfcaaGreatDoor
open Go.RowKit Vn
theorem trim_one : Lib.trimS [49] [48, 49, 50, 51, 52, 53, 54, 55, 56, 57] = [] := by decide
set_option maxRecDepth 100000 in
theorem row_one (w : World) :
  Calls Tryz.prog 105 #[.string ⟨#[49]⟩] w fun e w' => e = .returned (.bool true) ∧ Ext w w' := by
 have C : Hid (∀ w, Calls Tryz.prog 160 #[.string ⟨#[49]⟩, .string ⟨#[48, 49, 50, 51, 52, 53, 54, 55, 56, 57]⟩] w fun e w' => e = .returned (.string ⟨#[]⟩) ∧ Ext w w') := hid fun w =>
  (Tryz.sTrim ⟨#[49]⟩ ⟨#[48, 49, 50, 51, 52, 53, 54, 55, 56, 57]⟩ w (by decide) (by decide) (ascii_of_all (by decide))).mono fun e w' ⟨h1, h2⟩ => ⟨h1.trans (by rw [show (ByteArray.mk #[49]).data.toList = [49] from rfl, show (ByteArray.mk #[48, 49, 50, 51, 52, 53, 54, 55, 56, 57]).data.toList = [48, 49, 50, 51, 52, 53, 54, 55, 56, 57] from rfl, trim_one]), h2⟩
 go_enter Tryz.func105, Tryz.ntmps105
 go_wp2_with (go_at_call 160; refine (C.out _).mono ?_; rintro e w1 ⟨rfl, hE⟩)
 refine bodyPost_ret (v := .bool true) (by simp [results, Tryz.results105, go_sem]; decide) rfl ⟨rfl, hE⟩
end Go.Proofs.YtopmjkkjlagfcaaGreatDoor

/- Plain: decimal digits in groups of nine. -/
namespace Go.Proofs.YtopmjkkjlagfcaaGreatDoor
def padk : Nat → Nat → List UInt8
 | 0, _ => []
 | k + 1, r => padk k (r / 10) ++ [UInt8.ofNat (48 + r % 10)]
theorem dec_big {n : Nat} (h : ¬ n < 10) : Lib.decDigits n = Lib.decDigits (n / 10) ++ [UInt8.ofNat (48 + n % 10)] := by
 rw [Lib.decDigits, dif_neg h]
theorem dec_split : ∀ (k m r : Nat), 0 < m → r < 10 ^ k → Lib.decDigits (m * 10 ^ k + r) = Lib.decDigits m ++ padk k r
 | 0, m, r, _, hr => by
  have : r = 0 := by omega
  subst this
  simp [padk]
 | k + 1, m, r, hm, hr => by
  have e1 : m * 10 ^ (k + 1) = m * 10 ^ k * 10 := by rw [Nat.pow_succ, Nat.mul_assoc]
  have h10 : 1 ≤ m * 10 ^ k := Nat.mul_pos hm (Nat.pow_pos (by decide))
  have e2 : (m * 10 ^ (k + 1) + r) / 10 = m * 10 ^ k + r / 10 := by omega
  have e3 : (m * 10 ^ (k + 1) + r) % 10 = r % 10 := by omega
  have hr2 : r / 10 < 10 ^ k := by rw [Nat.pow_succ] at hr; omega
  rw [dec_big (by omega), e2, e3, dec_split k m (r / 10) hm hr2, padk, List.append_assoc]
theorem padk_zero : ∀ k, padk k 0 = List.replicate k 48
 | 0 => rfl
 | k + 1 => by
  rw [padk, Nat.zero_div, padk_zero k, List.replicate_succ']
  rfl
theorem padk_eq : ∀ (k r : Nat), 1 ≤ k → r < 10 ^ k → padk k r = List.replicate (k - (Lib.decDigits r).length) 48 ++ Lib.decDigits r
 | 0, _, h, _ => by omega
 | k + 1, r, _, hr => by
  by_cases h : r < 10
  ·rw [padk, show r / 10 = 0 by omega, padk_zero, Lib.decDigits_one h, Nat.mod_eq_of_lt h]
   simp
  ·have hr2 : r / 10 < 10 ^ k := by rw [Nat.pow_succ] at hr; omega
   have hk : 1 ≤ k := by
    rcases Nat.eq_zero_or_pos k with e | e
    ·subst e; omega
    ·exact e
   rw [padk, padk_eq k (r / 10) hk hr2, dec_big h]
   rw [List.length_append, List.length_singleton, Nat.add_sub_add_right, List.append_assoc]
theorem dec_len_pow {r k : Nat} (hk : 1 ≤ k) (hr : r < 10 ^ k) : (Lib.decDigits r).length ≤ k := by
 rw [Lib.decDigits_length]
 rcases Nat.eq_zero_or_pos r with e | e
 ·subst e; rw [Lib.nDigits_small (by decide)]; exact hk
 ·rcases Nat.lt_or_ge k (Lib.nDigits r) with h | h
  ·exfalso
   have h1 : ∀ (j u : Nat), 0 < u → u < 10 ^ j → Lib.nDigits u ≤ j := by
    intro j
    induction j with
    | zero => intro u h0 h1; omega
    | succ j ih =>
     intro u h0 h1
     by_cases h2 : u < 10
     ·rw [Lib.nDigits_small h2]; omega
     ·rw [Lib.nDigits_big h2]
      have := ih (u / 10) (by omega) (by rw [Nat.pow_succ] at h1; omega)
      omega
   have := h1 k r e hr
   omega
  ·exact h
def Groups (n m : Nat) (ds : List (List UInt8)) : Prop :=
 (0 < m → Lib.decDigits n = Lib.decDigits m ++ ds.reverse.flatten) ∧ (m = 0 → Lib.decDigits n = ds.reverse.flatten)
theorem Groups.start (n : Nat) (h : 0 < n) : Groups n n [] := ⟨fun _ => by simp, fun e => by omega⟩
theorem Groups.last {n m : Nat} {ds : List (List UInt8)} (h : Groups n m ds) (hm : 0 < m) (hq : m / 1000000000 = 0) : Groups n 0 (ds ++ [Lib.decDigits (m % 1000000000)]) := by
 refine ⟨fun h => by omega, fun _ => ?_⟩
 rw [h.1 hm, Nat.mod_eq_of_lt (by omega)]
 simp
theorem Groups.next {n m : Nat} {ds : List (List UInt8)} (h : Groups n m ds) (hq : 0 < m / 1000000000) :
  Groups n (m / 1000000000) (ds ++ [List.replicate (9 - (Lib.decDigits (m % 1000000000)).length) 48 ++ Lib.decDigits (m % 1000000000)]) := by
 refine ⟨fun _ => ?_, fun h => by omega⟩
 have hm : 0 < m := by omega
 have e := dec_split 9 (m / 1000000000) (m % 1000000000) hq (by omega)
 rw [show m / 1000000000 * 10 ^ 9 + m % 1000000000 = m by omega, padk_eq 9 _ (by decide) (by omega)] at e
 rw [h.1 hm, e]
 simp
end Go.Proofs.YtopmjkkjlagfcaaGreatDoor

/- exact: Parse of the text of one. -/
namespace Go.Proofs.YtopmjkkjlagfcaaGreatDoor
open Go.RowKit Vn
def WM (w : World) : Prop := ∃ m : Int, w.cell? ⟨1, 0, none⟩ = some (.int .i64 m)
theorem WM.ext {w w' : World} (h : WM w) (k : Ext w w') : WM w' := by
 obtain ⟨m, hm⟩ := h
 exact ⟨m, k.cell hm⟩
theorem Ext.drewN (w : World) (n : Nat) : Ext w (w.drewN n) := ⟨rfl, rfl, rfl, Nat.le_refl _, fun _ _ => rfl⟩
theorem tp_one : Lib.trimPrefix [49] [45] = [49] := by decide
theorem hp_one : Lib.hasPrefix [49] [45] = false := by decide
theorem cut_one : Lib.cut [49] [47] = ([49], [], false) := by decide
set_option maxRecDepth 100000 in
set_option maxHeartbeats 4000000 in
theorem parse_one (w : World) (hw : WM w) :
  Calls Tryz.prog 42 #[.string ⟨#[49]⟩] w fun e w' => ∃ v, e = .returned (.tuple #[v, .int .i64 0]) ∧ NumV w' v 1 ∧ Ext w w' := by
 have C1 : Hid (∀ w, Calls Tryz.prog 103 #[.string ⟨#[49]⟩, .string ⟨#[45]⟩] w fun e w' => e = .returned (.tuple #[.string ⟨#[49]⟩, .bool false]) ∧ Ext w w') := hid fun w =>
  (Tryz.sCutPrefix ⟨#[49]⟩ ⟨#[45]⟩ w).mono fun e w' ⟨h1, h2⟩ => ⟨h1.trans (by rw [show (ByteArray.mk #[49]).data.toList = [49] from rfl, show (ByteArray.mk #[45]).data.toList = [45] from rfl, tp_one, hp_one]), h2 ▸ Below.refl _ _⟩
 have C2 : Hid (∀ w, WM w → Calls Tryz.prog 104 #[.string ⟨#[49]⟩, .string ⟨#[47]⟩] w fun e w' => e = .returned (.tuple #[.string ⟨#[49]⟩, .string ⟨#[]⟩, .bool false]) ∧ Ext w w') := hid fun w ⟨m, hm⟩ =>
  (Tryz.sCut ⟨#[49]⟩ ⟨#[47]⟩ m w (by decide) hm).mono fun e w' ⟨h1, n, h2⟩ => ⟨h1.trans (by rw [show (ByteArray.mk #[49]).data.toList = [49] from rfl, show (ByteArray.mk #[47]).data.toList = [47] from rfl, cut_one]), h2 ▸ Ext.drewN w n⟩
 have C3 : Hid (∀ w, Calls Tryz.prog 107 #[.string ⟨#[49]⟩] w fun e w' => ∃ a k c, e = .returned (.slice a k c) ∧ NatV w' (.slice a k c) 1 ∧ Ext w w') := hid fun w => read_c [49] (by intro b hb; simp at hb; subst hb; decide) (by decide) w
 have C4 : Hid (∀ w, Calls Tryz.prog 108 #[.int .u64 1] w fun r w' => ∃ a k cap, r = .returned (.slice a k cap) ∧ NatV w' (.slice a k cap) 1 ∧ Ext w w') := hid fun w => of_c 1 w (by decide) (by decide)
 have C5 : Hid (∀ (x y : Value) (w : World), NatV w x 1 → NatV w y 1 → Calls Tryz.prog 106 #[.bool false, x, y] w fun e w' => ∃ v, e = .returned v ∧ NumV w' v 1 ∧ Ext w w') := hid fun x y w h k => by
  have := made_c false x y 1 1 10 w h k (by show 1 < 2 ^ 10; decide) (by show 1 < 2 ^ 10; decide) (by decide) (by decide)
  rwa [show mkq false 1 1 = 1 from by decide +kernel] at this
 obtain ⟨W0, hW0, g0, hz0, B_Z⟩ := pro1 w #[.bool false, .slice none 0 0, .slice none 0 0] 40
 have HE := hid g0
 have HB_Z := hid B_Z
 clear g0 B_Z 
 go_enter Tryz.func42, Tryz.ntmps42
 go_wp2_with fail
 rw [← hW0]
 clear hW0
 refine (C1.out _).mono ?_
 rintro e w1 ⟨rfl, g1⟩
 have hz_w1 := g1.size
 replace HE := hid (HE.out.trans g1)
 replace HB_Z := hid (HB_Z.out.ext g1)
 obtain ⟨c_1, c_2, c_3⟩ := HB_Z.out.c3
 go_wp2_with fail
 clear c_1 c_2 c_3
 refine (C2.out _ (hw.ext HE.out)).mono ?_
 rintro e w2 ⟨rfl, g2⟩
 have hz_w2 := g2.size
 replace HE := hid (HE.out.trans g2)
 replace HB_Z := hid (HB_Z.out.ext g2)
 obtain ⟨c_4, c_5, c_6⟩ := HB_Z.out.c3
 go_wp2_with fail
 clear c_4 c_5 c_6
 refine (row_one _).mono ?_
 rintro e w3 ⟨rfl, g3⟩
 have hz_w3 := g3.size
 replace HE := hid (HE.out.trans g3)
 replace HB_Z := hid (HB_Z.out.ext g3)
 obtain ⟨c_7, c_8, c_9⟩ := HB_Z.out.c3
 go_wp2_with fail
 clear c_7 c_8 c_9
 refine (C3.out _).mono ?_
 rintro e w4 ⟨a4, n4, c4, rfl, k4, g4⟩
 have hz_w4 := g4.size
 replace HE := hid (HE.out.trans g4)
 replace HB_Z := hid (HB_Z.out.ext g4)
 obtain ⟨c_10, c_11, c_12⟩ := HB_Z.out.c3
 go_wp2_with fail
 clear c_10 c_11 c_12
 refine (C4.out _).mono ?_
 rintro e w5 ⟨a5, n5, c5, rfl, k5, g5⟩
 have hz_w5 := g5.size
 replace HE := hid (HE.out.trans g5)
 replace HB_Z := hid (HB_Z.out.ext g5)
 replace k4 := k4.ext g5
 obtain ⟨c_13, c_14, c_15⟩ := HB_Z.out.c3
 go_wp2_with fail
 clear c_13 c_14 c_15
 refine (C5.out _ _ _ k4 k5).mono ?_
 rintro e w6 ⟨v, rfl, k6, g6⟩
 have hz_w6 := g6.size
 replace HE := hid (HE.out.trans g6)
 replace HB_Z := hid (HB_Z.out.ext g6)
 replace k4 := k4.ext g6
 replace k5 := k5.ext g6
 obtain ⟨ng, a6, n6, c6, a6', n6', c6', rfl⟩ := k6.shape
 obtain ⟨c_16, c_17, c_18⟩ := HB_Z.out.c3
 obtain ⟨f_19, f_20, f_21⟩ := HB_Z.out.f3
 go_wp2_with fail
 clear c_16 c_17 c_18 f_19 f_20 f_21
 obtain ⟨W7, hW7, g7, q7, B7, hy7, ho7⟩ := sto3 HE.out (by omega) HB_Z.out (by decide) (.bool ng) (.slice a6 n6 c6) (.slice a6' n6' c6')
 rw [← hW7]
 clear hW7
 replace HE := hid g7
 replace HB_Z := hid B7
 replace k4 := k4.keep q7
 replace k5 := k5.keep q7
 replace k6 := k6.keep q7
 obtain ⟨c_22, c_23, c_24⟩ := HB_Z.out.c3
 refine bodyPost_ret (v := .tuple #[.agg #[.bool ng, .slice a6 n6 c6, .slice a6' n6' c6'], .int .i64 0]) (by simp [results, Tryz.results42, go_sem, c_22, c_23, c_24]) rfl ⟨_, rfl, k6, HE.out⟩
end Go.Proofs.YtopmjkkjlagfcaaGreatDoor
