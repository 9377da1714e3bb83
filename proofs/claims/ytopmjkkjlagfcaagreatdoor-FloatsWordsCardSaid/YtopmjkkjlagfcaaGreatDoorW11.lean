/- Natural numbers in words of 32 bits: bits returns how many binary digits there are. -/
import Derived.Test.YtopmjkkjlagfcaaGreatDoorW07
import Derived.Test.YtopmjkkjlagfcaaGreatDoorW08
import Derived.Shelf.Strconv.Itoa1
import Derived.Test.YtopmjkkjlagfcaaGreatDoorProg
import Derived.Test.YtopmjkkjlagfcaaGreatDoorW05
import Derived.Test.YtopmjkkjlagfcaaGreatDoorW03
namespace Go.Proofs.YtopmjkkjlagfcaaGreatDoor
open Go.RowKit Vn
theorem ret_int {k : IntKind} {a b : Int} (h : a = b) : Ending.returned (.int k a) = .returned (.int k b) := by rw [h]
set_option maxHeartbeats 400000 in
theorem bits_core (aa : Option Addr) (ba oa ca n d : Nat) (w : World) (hn0 : 0 < n) (hn : n ≤ 100000000) (hd : d < 4294967296) (Hax : Hid (0 < n → aa = some ⟨ba, oa, none⟩)) (hcell : w.cell? ⟨ba, oa + (n - 1), none⟩ = some (.int .u32 d)) :
  Calls Tryz.prog 215 #[.slice aa n ca] w fun e w' => e = .returned (.int .i64 ((32 * (n - 1) + bl d : Nat) : Int)) ∧ Ext w w' := by
 obtain rfl := Hax.out (by omega)
 have hb : bl d ≤ 32 := bl_le_of_lt hd
 have hne : ((n : Int) == 0) = false := by simp; omega
 go_enter Tryz.func215, Tryz.ntmps215
 go_wp2_with fail
 refine (len32_c d _ hd).mono ?_
 rintro e w1 ⟨rfl, hb1⟩
 obtain ⟨z, hz⟩ : ∃ z, z = bl d := ⟨_, rfl⟩
 rw [← hz] at hb ⊢
 have Hz := hid hz
 clear hz
 go_wp2_with fail
 go_ret
 exact ⟨ret_int (by have := Hz.out; omega), hb1⟩
set_option maxHeartbeats 400000 in
theorem bits_nil (aa : Option Addr) (ca : Nat) (w : World) : Calls Tryz.prog 215 #[.slice aa 0 ca] w fun e w' => e = .returned (.int .i64 0) ∧ Ext w w' := by
 go_enter Tryz.func215, Tryz.ntmps215
 go_wp2
 go_ret
 exact ⟨rfl, Below.refl _ _⟩
theorem bits_c (x : Value) (M K : Nat) (w : World) (hx : NatV w x M) (sx : Sm K M) (hK : K ≤ 50000000) :
  Calls Tryz.prog 215 #[x] w fun e w' => e = .returned (.int .i64 (bl M)) ∧ Ext w w' := by
 obtain ⟨a, b, off, n, cap, l, rfl, h1, h2, h3, h4, h5, h6, h7, h8⟩ := hx.open
 have e1 := sx.len h5.out h6.out
 rw [h3.out] at e1
 rcases Nat.eq_zero_or_pos n with h0 | h0
 ·subst h0
  have hl : l = [] := List.eq_nil_of_length_eq_zero h3.out
  have hM : M = 0 := by rw [← h6.out, hl]; rfl
  subst hM
  exact bits_nil a cap w
 ·refine (bits_core a b off cap n (l.getD (n - 1) 0) w h0 (by omega) (h5.out.dig.get (by decide) _) h4 (h7.out (n - 1) (by omega))).mono ?_
  rintro e w' ⟨rfl, hb⟩
  refine ⟨?_, hb⟩
  have hd : 0 < l.getD (n - 1) 0 := by
   rcases h5.out.trim with h | h
   ·have := h3.out; rw [h] at this; simp at this; omega
   ·rwa [h3.out] at h
  have ht := dv_top1 4294967296 l (n - 1) (by rw [h3.out]; omega)
  rw [h6.out] at ht
  have hlow := Vn.dv_lt (B := 4294967296) (by decide) (h5.out.dig.take (n - 1))
  rw [List.length_take, h3.out, Nat.min_eq_left (by omega)] at hlow
  rw [bl_words hd hlow ht]
end Go.Proofs.YtopmjkkjlagfcaaGreatDoor

/- THE SHELF AT THIS DUMP, digits (lay.py wrote it). -/
namespace Go.Proofs
open Go.Shelf
def Tryz.lays283_ren : Go.Shelf.Ren := ⟨fun | 283 => 226 | n => n, fun | 3 => 3 | 4 => 4 | 9 => 9 | n => n, fun  | n => n⟩
theorem Tryz.lays283 : Go.Proofs.Lays.n283 Tryz.prog Tryz.lays283_ren := {
 mixed := by kernel_rfl
 f283 := Tryz.func226.trans (congrArg some (by kernel_rfl))
 t3 := Tryz.underlying3
 a3 := Tryz.isAgg3
 z3 := Tryz.sizeOf3
 v3 := Tryz.zeroValue3
 t4 := Tryz.underlying4
 a4 := Tryz.isAgg4
 z4 := Tryz.sizeOf4
 v4 := Tryz.zeroValue4
 t9 := Tryz.underlying9
 a9 := Tryz.isAgg9
 z9 := Tryz.sizeOf9
 v9 := Tryz.zeroValue9 }
end Go.Proofs

/- strconv.FormatUint of a number below 100, in base ten. -/
namespace Go.Proofs.YtopmjkkjlagfcaaGreatDoor
open Go.RowKit Vn
theorem ifmt_c (u : Nat) (w : World) (hu : u < 100) :
  Calls Tryz.prog 209 #[.int .u64 u, .int .i64 10] w fun e w' => e = .returned (.string ⟨(Lib.decDigits u).toArray⟩) ∧ w' = w := by
 have h1 : (u : Int) < 100 := by omega
 have h2 : IntKind.i64.wrap (u : Int) = u := IntWalk.i64_in _ (by omega)
 have C : ∀ w, Calls Tryz.prog 226 #[.int .i64 u] w fun e w' => e = .returned (.string ⟨(Lib.decDigits u).toArray⟩) ∧ w' = w := fun w => Any.internal_strconv_small Tryz.lays283 u hu w
 go_enter Tryz.func209, Tryz.ntmps209
 go_wp2_with (go_at_call 226; refine (C _).mono ?_; rintro e w' ⟨rfl, rfl⟩)
 refine bodyPost_ret (v := .string ⟨(Lib.decDigits u).toArray⟩) (by simp [results, Tryz.results209, go_sem]) rfl ⟨rfl, rfl⟩
end Go.Proofs.YtopmjkkjlagfcaaGreatDoor

/- Plain: powers of two over Rat, logarithms. -/
namespace Go.Proofs.YtopmjkkjlagfcaaGreatDoor
open Vn
theorem two_pos : (0 : Rat) < 2 := by decide
theorem p2_pos (k : Int) : (0 : Rat) < (2 : Rat) ^ k := Rat.zpow_pos two_pos
theorem p2_add (m n : Int) : (2 : Rat) ^ (m + n) = (2 : Rat) ^ m * (2 : Rat) ^ n := Rat.zpow_add (by decide) m n
theorem p2_succ (m : Int) : (2 : Rat) ^ (m + 1) = (2 : Rat) ^ m * 2 := by rw [p2_add, Rat.zpow_one]
theorem p2_cancel (m : Int) : (2 : Rat) ^ (-m) * (2 : Rat) ^ m = 1 := by rw [← p2_add, Int.add_left_neg, Rat.zpow_zero]
theorem p2_cancel' (m : Int) : (2 : Rat) ^ m * (2 : Rat) ^ (-m) = 1 := by rw [← p2_add, Int.add_right_neg, Rat.zpow_zero]
theorem p2_nat (n : Nat) : (2 : Rat) ^ (n : Int) = ((2 ^ n : Nat) : Rat) := by rw [Rat.zpow_natCast, Rat.natCast_pow]; rfl
theorem p2_mono {m n : Int} (h : m ≤ n) : (2 : Rat) ^ m ≤ (2 : Rat) ^ n := by
 obtain ⟨k, rfl⟩ : ∃ k : Nat, n = m + k := ⟨(n - m).toNat, by omega⟩
 rw [p2_add, p2_nat]
 have h1 : (1 : Rat) ≤ ((2 ^ k : Nat) : Rat) := by
  have : 1 ≤ 2 ^ k := Nat.pow_pos (by decide)
  exact_mod_cast this
 have := Rat.mul_le_mul_of_nonneg_left h1 (Rat.le_of_lt (p2_pos m))
 rwa [Rat.mul_one] at this
theorem p2_lt {m n : Int} (h : m < n) : (2 : Rat) ^ m < (2 : Rat) ^ n := by
 have h1 := p2_mono (show m + 1 ≤ n by omega)
 rw [p2_succ] at h1
 have := p2_pos m
 grind
theorem p2_lt_iff {m n : Int} : (2 : Rat) ^ m < (2 : Rat) ^ n ↔ m < n :=
 ⟨fun h => by
  rcases Int.lt_or_le m n with k | k
  ·exact k
  ·exact absurd h (Rat.not_lt.2 (p2_mono k)), p2_lt⟩
theorem num_eq (q : Rat) : (q.num : Rat) = q * q.den := by
 have h := Rat.mkRat_eq_div q.num q.den
 rw [Rat.mkRat_self] at h
 have hd : (q.den : Rat) ≠ 0 := by
  have := q.den_nz
  exact_mod_cast this
 have h2 : (q.num : Rat) / q.den * q.den = q.num := by rw [Rat.div_def, Rat.mul_assoc, Rat.inv_mul_cancel _ hd, Rat.mul_one]
 rw [← h] at h2
 exact h2.symm
def IsLog (q : Rat) (k : Int) : Prop := (2 : Rat) ^ k ≤ q ∧ q < (2 : Rat) ^ (k + 1)
theorem IsLog.unique {q : Rat} {k l : Int} (h : IsLog q k) (h' : IsLog q l) : k = l := by
 have h1 : (2 : Rat) ^ k < (2 : Rat) ^ (l + 1) := by have := h.1; have := h'.2; grind
 have h2 : (2 : Rat) ^ l < (2 : Rat) ^ (k + 1) := by have := h'.1; have := h.2; grind
 rw [p2_lt_iff] at h1 h2
 omega
theorem IsLog.pos {q : Rat} {k : Int} (h : IsLog q k) : 0 < q := by
 have := h.1; have := p2_pos k; grind
theorem lt_p2 {q : Rat} (h : 0 < q.num) (m n : Nat) : q < (2 : Rat) ^ ((m : Int) - n) ↔ q.num.natAbs * 2 ^ n < q.den * 2 ^ m := by
 have hd : (0 : Rat) < q.den := by have := Nat.pos_of_ne_zero q.den_nz; exact_mod_cast this
 have hn := p2_pos n
 rw [← Rat.mul_lt_mul_right hn, ← Rat.mul_lt_mul_right hd, ← p2_add, show (m : Int) - n + n = m by omega, p2_nat, p2_nat]
 rw [show q * ((2 ^ n : Nat) : Rat) * q.den = q * q.den * ((2 ^ n : Nat) : Rat) by grind, ← num_eq, show ((2 ^ m : Nat) : Rat) * q.den = (q.den : Rat) * ((2 ^ m : Nat) : Rat) by grind]
 rw [show (q.num : Rat) = ((q.num.natAbs : Nat) : Rat) by
  have : q.num = ((q.num.natAbs : Nat) : Int) := by omega
  conv => lhs; rw [this]
  rfl]
 rw [← Rat.natCast_mul, ← Rat.natCast_mul, Rat.natCast_lt_natCast]
theorem p2_le {q : Rat} (h : 0 < q.num) (m n : Nat) : (2 : Rat) ^ ((m : Int) - n) ≤ q ↔ q.den * 2 ^ m ≤ q.num.natAbs * 2 ^ n := by
 rw [← Rat.not_lt, lt_p2 h]; omega
theorem log_is {q : Rat} (h : 0 < q.num) (k : Int) (hk : k = (bl q.num.natAbs : Int) - bl q.den) :
  IsLog q (if q.num.natAbs * 2 ^ (max (-k) 0).toNat < q.den * 2 ^ (max k 0).toNat then k - 1 else k) := by
 have hd := Nat.pos_of_ne_zero q.den_nz
 have hp : 0 < q.num.natAbs := by omega
 have h1 := bl_lt q.num.natAbs
 have h2 := bl_le hp
 have h3 := bl_lt q.den
 have h4 := bl_le hd
 have h5 := bl_pos hp
 have h6 := bl_pos hd
 have he : ((max k 0).toNat : Int) - ((max (-k) 0).toNat : Int) = k := by omega
 have hc := lt_p2 h (max k 0).toNat (max (-k) 0).toNat
 rw [he] at hc
 have lo : (2 : Rat) ^ (k - 1) ≤ q := by
  have e : k - 1 = ((bl q.num.natAbs - 1 : Nat) : Int) - (bl q.den : Int) := by omega
  rw [e, p2_le h, Nat.mul_comm q.num.natAbs]
  exact Nat.mul_le_mul (Nat.le_of_lt h3) h2
 have hi : q < (2 : Rat) ^ (k + 1) := by
  have e : k + 1 = (bl q.num.natAbs : Int) - ((bl q.den - 1 : Nat) : Int) := by omega
  rw [e, lt_p2 h, Nat.mul_comm q.den]
  exact Nat.mul_lt_mul_of_lt_of_le h1 h4 hd
 by_cases hl : q.num.natAbs * 2 ^ (max (-k) 0).toNat < q.den * 2 ^ (max k 0).toNat
 ·rw [if_pos hl]
  exact ⟨lo, by rw [show k - 1 + 1 = k by omega]; exact hc.2 hl⟩
 ·rw [if_neg hl]
  exact ⟨Rat.not_lt.1 fun h => hl (hc.1 h), hi⟩
end Go.Proofs.YtopmjkkjlagfcaaGreatDoor
