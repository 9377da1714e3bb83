/- Plain facts behind square roots of natural numbers, rounded down. -/

namespace Vn
/-- the square root, rounded down. -/
def IsRoot (a s : Nat) : Prop := s * s ≤ a ∧ a < (s + 1) * (s + 1)

theorem IsRoot.unique {a s t : Nat} (h : IsRoot a s) (k : IsRoot a t) : s = t := by
  rcases Nat.lt_trichotomy s t with h1 | h1 | h1
  · have := Nat.mul_le_mul (show s + 1 ≤ t from h1) (show s + 1 ≤ t from h1)
    have := h.2; have := k.1; omega
  · exact h1
  · have := Nat.mul_le_mul (show t + 1 ≤ s from h1) (show t + 1 ≤ s from h1)
    have := k.2; have := h.1; omega

/-- a step of Heron's from above stays above. -/
theorem heron_ge {a x y : Nat} (hx : 0 < x) (hy : y = (x + a / x) / 2) : a < (y + 1) * (y + 1) := by
  have h1 : x + a / x < 2 * (y + 1) := by omega
  have h2 : a < x * (a / x + 1) := by
    have := Nat.lt_mul_div_succ a hx
    exact this
  generalize a / x = q at *
  -- x * (q + 1) ≤ ((x + q + 1) / 2)^2
  have h3 : x * (q + 1) ≤ (y + 1) * (y + 1) := by
    have h4 : x + (q + 1) ≤ 2 * (y + 1) := by omega
    generalize q + 1 = p at *
    generalize y + 1 = z at *
    -- x + p ≤ 2 z  ⟹  x p ≤ z z
    rcases Nat.le_total x z with hxz | hxz
    · obtain ⟨d, rfl⟩ := Nat.exists_eq_add_of_le hxz
      have : p ≤ x + d + d := by omega
      have := Nat.mul_le_mul_left x this
      have e : x * (x + d + d) + d * d = (x + d) * (x + d) := by grind
      omega
    · obtain ⟨d, rfl⟩ := Nat.exists_eq_add_of_le hxz
      have hp : p + d ≤ z := by omega
      have h5 : (z + d) * p + (z + d) * d ≤ (z + d) * z := by
        have := Nat.mul_le_mul_left (z + d) hp
        rwa [Nat.mul_add] at this
      have e : (z + d) * z = z * z + d * z := by grind
      have e2 : (z + d) * d = z * d + d * d := by grind
      have e3 : d * z = z * d := Nat.mul_comm _ _
      omega
  omega

/-- where a step does not go down the root is found. -/
theorem heron_done {a x y : Nat} (hy : y = (x + a / x) / 2) (hge : x ≤ y) : x * x ≤ a := by
  have h1 : x ≤ a / x := by omega
  have := Nat.mul_le_mul_left x h1
  have := Nat.mul_div_le a x
  omega
end Vn
namespace Vn
/-- how many binary digits a number has. -/
def bl (n : Nat) : Nat := if n = 0 then 0 else n.log2 + 1
theorem bl_zero : bl 0 = 0 := rfl
theorem bl_lt (n : Nat) : n < 2 ^ bl n := by
  unfold bl
  split
  · next h => subst h; decide
  · next h => exact Nat.lt_log2_self
theorem bl_le {n : Nat} (h : 0 < n) : 2 ^ (bl n - 1) ≤ n := by
  unfold bl
  rw [if_neg (by omega), Nat.add_sub_cancel]
  exact Nat.log2_self_le (by omega)
theorem bl_pos {n : Nat} (h : 0 < n) : 0 < bl n := by
  unfold bl
  rw [if_neg (by omega)]; omega
/-- what a number of binary digits is told by. -/
theorem bl_unique {n k : Nat} (h1 : 2 ^ k ≤ n) (h2 : n < 2 ^ (k + 1)) : bl n = k + 1 := by
  have hp : 0 < n := Nat.lt_of_lt_of_le (Nat.pow_pos (by decide)) h1
  have a1 := bl_lt n
  have a2 := bl_le hp
  have a3 := bl_pos hp
  have b1 : k < bl n := by
    rcases Nat.lt_or_ge k (bl n) with h | h
    · exact h
    · have := Nat.pow_le_pow_right (n := 2) (by decide) h; omega
  have b2 : bl n - 1 < k + 1 := by
    rcases Nat.lt_or_ge (bl n - 1) (k + 1) with h | h
    · exact h
    · have := Nat.pow_le_pow_right (n := 2) (by decide) h; omega
  omega
theorem bl_le_of_lt {n k : Nat} (h : n < 2 ^ k) : bl n ≤ k := by
  rcases Nat.eq_zero_or_pos n with h0 | h0
  · subst h0; exact Nat.zero_le _
  · have a2 := bl_le h0
    have a3 := bl_pos h0
    rcases Nat.lt_or_ge k (bl n) with hlt | hge
    · have := Nat.pow_le_pow_right (n := 2) (by decide) (show k ≤ bl n - 1 by omega); omega
    · exact hge
/-- the binary digits of a number in words. -/
theorem bl_words {d k X low : Nat} (hd : 0 < d) (hl : low < 4294967296 ^ k) (hX : X = low + 4294967296 ^ k * d) : bl X = 32 * k + bl d := by
  have e : (4294967296 : Nat) ^ k = 2 ^ (32 * k) := by rw [Nat.pow_mul]
  rw [e] at hl hX
  have h1 := bl_le hd
  have h2 := bl_lt d
  have h3 := bl_pos hd
  have h4 : bl X = 32 * k + (bl d - 1) + 1 := by
    apply bl_unique
    · rw [Nat.pow_add, hX]
      have := Nat.mul_le_mul_left (2 ^ (32 * k)) h1
      omega
    · rw [hX, show 32 * k + (bl d - 1) + 1 = 32 * k + bl d by omega, Nat.pow_add]
      have := Nat.mul_le_mul_left (2 ^ (32 * k)) (Nat.succ_le_of_lt h2)
      rw [Nat.mul_succ] at this
      omega
  omega
end Vn
