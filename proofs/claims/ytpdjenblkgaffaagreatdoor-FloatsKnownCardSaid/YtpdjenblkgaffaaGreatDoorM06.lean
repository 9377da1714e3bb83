/- Plain facts behind shifts of numbers in words. -/
import Derived.Test.YtpdjenblkgaffaaGreatDoorM04
namespace Vn

theorem or_low {L t d : Nat} (hL : L ≤ 32) (ht : t < 2 ^ L) : t ||| (d * 2 ^ L % 4294967296) = t + d * 2 ^ L % 4294967296 ∧ t + d * 2 ^ L % 4294967296 < 4294967296 := by
  have hQ : 4294967296 = 2 ^ L * 2 ^ (32 - L) := by rw [← Nat.pow_add, show L + (32 - L) = 32 by omega]
  have e : d * 2 ^ L % 4294967296 = 2 ^ L * (d % 2 ^ (32 - L)) := by rw [hQ, Nat.mul_comm d, Nat.mul_mod_mul_left]
  have h1 := Nat.two_pow_add_eq_or_of_lt ht (d % 2 ^ (32 - L))
  have h2 : 2 ^ L * (d % 2 ^ (32 - L)) + 2 ^ L ≤ 4294967296 := by
    have : d % 2 ^ (32 - L) < 2 ^ (32 - L) := Nat.mod_lt _ (Nat.pow_pos (by decide))
    have := Nat.mul_le_mul_left (2 ^ L) (Nat.succ_le_of_lt this)
    rw [Nat.mul_succ, ← hQ] at this
    exact this
  rw [e]
  refine ⟨?_, by omega⟩
  rw [Nat.or_comm, ← h1, Nat.add_comm]

theorem wide_lt {L d : Nat} (hL : L < 32) (hd : d < 4294967296) : d * 2 ^ L < 18446744073709551616 ∧ d * 2 ^ L / 4294967296 < 2 ^ L := by
  have h2 : 2 ^ L ≤ 2147483648 := by
    have : 2 ^ L ≤ 2 ^ 31 := Nat.pow_le_pow_right (by decide) (by omega)
    exact this
  have hp : 0 < 2 ^ L := Nat.pow_pos (by decide)
  have h3 : d * 2 ^ L < 4294967296 * 2 ^ L := Nat.mul_lt_mul_of_pos_right hd hp
  constructor
  · have : 4294967296 * 2 ^ L ≤ 4294967296 * 2147483648 := Nat.mul_le_mul_left _ h2
    omega
  · exact Nat.div_lt_of_lt_mul h3

theorem shl_step {D X d P t lo hi C Bi B : Nat} (h : D = X * P * C) (hw : d * P = lo + B * hi) (D1 : Nat) (h1 : D1 + t * (Bi * C) = D + (t + lo) * (Bi * C)) :
    D1 + hi * (B * (Bi * C)) = (X + d * Bi) * P * C := by
  have h2 : d * P * (Bi * C) = (lo + B * hi) * (Bi * C) := by rw [hw]
  grind

/-- a digit of a number that is shifted down. -/
theorem dv_shr (l : List Nat) (hl : Dig 4294967296 l) (W L k : Nat) (hL : L < 32) :
    (dv 4294967296 (l.drop W) / 2 ^ L) % 4294967296 ^ (k + 1) = (dv 4294967296 (l.drop W) / 2 ^ L) % 4294967296 ^ k +
      ((l.getD (W + k) 0 + 4294967296 * l.getD (W + k + 1) 0) / 2 ^ L % 4294967296) * 4294967296 ^ k := by
  rw [Nat.mod_pow_succ, Nat.mul_comm (4294967296 ^ k)]
  congr 2
  have drop2 : ∀ j, dv 4294967296 (l.drop j) = l.getD j 0 + 4294967296 * dv 4294967296 (l.drop (j + 1)) := by
    intro j
    rcases Nat.lt_or_ge j l.length with h | h
    · exact dv_drop _ l j h
    · rw [getD_ge h, List.drop_eq_nil_of_le h, List.drop_eq_nil_of_le (by omega)]; rfl
  have e1 : ∀ k, dv 4294967296 (l.drop W) / 4294967296 ^ k = dv 4294967296 (l.drop (W + k)) := by
    intro k
    induction k with
    | zero => simp
    | succ k ih =>
      rw [Nat.pow_succ, ← Nat.div_div_eq_div_mul, ih, drop2 (W + k), Nat.add_mul_div_left _ _ (by decide), Nat.div_eq_of_lt (hl.get (by decide) _), Nat.zero_add]
      rfl
  rw [Nat.div_div_eq_div_mul, Nat.mul_comm (2 ^ L), ← Nat.div_div_eq_div_mul, e1, drop2 (W + k), drop2 (W + k + 1)]
  have hQ : 4294967296 = 2 ^ L * 2 ^ (32 - L) := by rw [← Nat.pow_add, show L + (32 - L) = 32 by omega]
  generalize l.getD (W + k) 0 = a
  generalize l.getD (W + k + 1) 0 = b
  generalize dv 4294967296 (l.drop (W + k + 1 + 1)) = c
  have e2 : a + 4294967296 * (b + 4294967296 * c) = (a + 4294967296 * b) + 2 ^ L * (4294967296 * (2 ^ (32 - L) * c)) := by
    have : 4294967296 * (4294967296 * c) = 2 ^ L * 2 ^ (32 - L) * (4294967296 * c) := by rw [← hQ]
    grind
  rw [e2, Nat.add_mul_div_left _ _ (Nat.pow_pos (by decide)), Nat.add_mul_mod_self_left]
end Vn
