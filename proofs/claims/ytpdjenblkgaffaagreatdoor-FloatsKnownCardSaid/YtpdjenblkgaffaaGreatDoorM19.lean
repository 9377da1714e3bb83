/- Plain: powers of two over Rat, logarithms. -/
import Derived.Test.YtpdjenblkgaffaaGreatDoorM15
import Derived.Test.YtpdjenblkgaffaaGreatDoorM08
namespace Go.Proofs.YtpdjenblkgaffaaGreatDoor
open Vn

theorem two_pos : (0 : Rat) < 2 := by decide
theorem p2_pos (k : Int) : (0 : Rat) < (2 : Rat) ^ k := Rat.zpow_pos two_pos
theorem p2_ne (k : Int) : (2 : Rat) ^ k ≠ 0 := fun h => Rat.lt_irrefl (h ▸ p2_pos k)
theorem p2_add (m n : Int) : (2 : Rat) ^ (m + n) = (2 : Rat) ^ m * (2 : Rat) ^ n := Rat.zpow_add (by decide) m n
theorem p2_succ (m : Int) : (2 : Rat) ^ (m + 1) = (2 : Rat) ^ m * 2 := by rw [p2_add, Rat.zpow_one]
theorem p2_cancel (m : Int) : (2 : Rat) ^ (-m) * (2 : Rat) ^ m = 1 := by rw [← p2_add, Int.add_left_neg, Rat.zpow_zero]
theorem p2_cancel' (m : Int) : (2 : Rat) ^ m * (2 : Rat) ^ (-m) = 1 := by rw [← p2_add, Int.add_right_neg, Rat.zpow_zero]
theorem p2_nat (n : Nat) : (2 : Rat) ^ (n : Int) = ((2 ^ n : Nat) : Rat) := by rw [Rat.zpow_natCast, Rat.natCast_pow]; rfl
theorem p2_mono {m n : Int} (h : m ≤ n) : (2 : Rat) ^ m ≤ (2 : Rat) ^ n := by
  obtain ⟨k, rfl⟩ : ∃ k : Nat, n = m + k := ⟨(n - m).toNat, by omega⟩
  rw [p2_add, p2_nat]
  have h1 : (1 : Rat) ≤ ((2 ^ k : Nat) : Rat) := by
    have : 1 ≤ 2 ^ k := Nat.pow_pos (by decide)
    exact_mod_cast this
  have := Rat.mul_le_mul_of_nonneg_left h1 (Rat.le_of_lt (p2_pos m))
  rwa [Rat.mul_one] at this
theorem p2_lt {m n : Int} (h : m < n) : (2 : Rat) ^ m < (2 : Rat) ^ n := by
  have h1 := p2_mono (show m + 1 ≤ n by omega)
  rw [p2_succ] at h1
  have := p2_pos m
  grind
theorem p2_lt_iff {m n : Int} : (2 : Rat) ^ m < (2 : Rat) ^ n ↔ m < n :=
  ⟨fun h => by
    rcases Int.lt_or_le m n with k | k
    · exact k
    · exact absurd h (Rat.not_lt.2 (p2_mono k)), p2_lt⟩
theorem p2_le_iff {m n : Int} : (2 : Rat) ^ m ≤ (2 : Rat) ^ n ↔ m ≤ n :=
  ⟨fun h => by
    rcases Int.lt_or_le n m with k | k
    · exact absurd h (Rat.not_le.2 (p2_lt k))
    · exact k, p2_mono⟩

theorem num_eq (q : Rat) : (q.num : Rat) = q * q.den := by
  have h := Rat.mkRat_eq_div q.num q.den
  rw [Rat.mkRat_self] at h
  have hd : (q.den : Rat) ≠ 0 := by
    have := q.den_nz
    exact_mod_cast this
  have h2 : (q.num : Rat) / q.den * q.den = q.num := by rw [Rat.div_def, Rat.mul_assoc, Rat.inv_mul_cancel _ hd, Rat.mul_one]
  rw [← h] at h2
  exact h2.symm

/-- k is the logarithm of q, rounded down. -/
def IsLog (q : Rat) (k : Int) : Prop := (2 : Rat) ^ k ≤ q ∧ q < (2 : Rat) ^ (k + 1)
theorem IsLog.unique {q : Rat} {k l : Int} (h : IsLog q k) (h' : IsLog q l) : k = l := by
  have h1 : (2 : Rat) ^ k < (2 : Rat) ^ (l + 1) := by have := h.1; have := h'.2; grind
  have h2 : (2 : Rat) ^ l < (2 : Rat) ^ (k + 1) := by have := h'.1; have := h.2; grind
  rw [p2_lt_iff] at h1 h2
  omega
theorem IsLog.pos {q : Rat} {k : Int} (h : IsLog q k) : 0 < q := by
  have := h.1; have := p2_pos k; grind

theorem lt_p2 {q : Rat} (h : 0 < q.num) (m n : Nat) : q < (2 : Rat) ^ ((m : Int) - n) ↔ q.num.natAbs * 2 ^ n < q.den * 2 ^ m := by
  have hd : (0 : Rat) < q.den := by have := Nat.pos_of_ne_zero q.den_nz; exact_mod_cast this
  have hn := p2_pos n
  rw [← Rat.mul_lt_mul_right hn, ← Rat.mul_lt_mul_right hd, ← p2_add, show (m : Int) - n + n = m by omega, p2_nat, p2_nat]
  rw [show q * ((2 ^ n : Nat) : Rat) * q.den = q * q.den * ((2 ^ n : Nat) : Rat) by grind, ← num_eq, show ((2 ^ m : Nat) : Rat) * q.den = (q.den : Rat) * ((2 ^ m : Nat) : Rat) by grind]
  rw [show (q.num : Rat) = ((q.num.natAbs : Nat) : Rat) by
    have : q.num = ((q.num.natAbs : Nat) : Int) := by omega
    conv => lhs; rw [this]
    rfl]
  rw [← Rat.natCast_mul, ← Rat.natCast_mul, Rat.natCast_lt_natCast]
theorem p2_le {q : Rat} (h : 0 < q.num) (m n : Nat) : (2 : Rat) ^ ((m : Int) - n) ≤ q ↔ q.den * 2 ^ m ≤ q.num.natAbs * 2 ^ n := by
  rw [← Rat.not_lt, lt_p2 h]; omega

theorem log_is {q : Rat} (h : 0 < q.num) (k : Int) (hk : k = (bl q.num.natAbs : Int) - bl q.den) :
    IsLog q (if q.num.natAbs * 2 ^ (max (-k) 0).toNat < q.den * 2 ^ (max k 0).toNat then k - 1 else k) := by
  have hd := Nat.pos_of_ne_zero q.den_nz
  have hp : 0 < q.num.natAbs := by omega
  have h1 := bl_lt q.num.natAbs
  have h2 := bl_le hp
  have h3 := bl_lt q.den
  have h4 := bl_le hd
  have h5 := bl_pos hp
  have h6 := bl_pos hd
  have he : ((max k 0).toNat : Int) - ((max (-k) 0).toNat : Int) = k := by omega
  have hc := lt_p2 h (max k 0).toNat (max (-k) 0).toNat
  rw [he] at hc
  have lo : (2 : Rat) ^ (k - 1) ≤ q := by
    have e : k - 1 = ((bl q.num.natAbs - 1 : Nat) : Int) - (bl q.den : Int) := by omega
    rw [e, p2_le h, Nat.mul_comm q.num.natAbs]
    exact Nat.mul_le_mul (Nat.le_of_lt h3) h2
  have hi : q < (2 : Rat) ^ (k + 1) := by
    have e : k + 1 = (bl q.num.natAbs : Int) - ((bl q.den - 1 : Nat) : Int) := by omega
    rw [e, lt_p2 h, Nat.mul_comm q.den]
    exact Nat.mul_lt_mul_of_lt_of_le h1 h4 hd
  by_cases hl : q.num.natAbs * 2 ^ (max (-k) 0).toNat < q.den * 2 ^ (max k 0).toNat
  · rw [if_pos hl]
    exact ⟨lo, by rw [show k - 1 + 1 = k by omega]; exact hc.2 hl⟩
  · rw [if_neg hl]
    exact ⟨Rat.not_lt.1 fun h => hl (hc.1 h), hi⟩
end Go.Proofs.YtpdjenblkgaffaaGreatDoor
