/- Plain facts on rational numbers by sign, numerator and denominator. -/

namespace Vn

/-- a natural number with a sign. -/
def sg (neg : Bool) (P : Nat) : Int := if neg then -(P : Int) else P
/-- the number with a sign, a numerator and a denominator. -/
def mkq (neg : Bool) (P Q : Nat) : Rat := mkRat (sg neg P) Q

theorem sg_natAbs (neg : Bool) (P : Nat) : (sg neg P).natAbs = P := by unfold sg; split <;> omega

theorem mkq_num (neg : Bool) (P Q : Nat) (hQ : Q ≠ 0) : (mkq neg P Q).num = sg neg P / (Nat.gcd P Q : Int) := by
  unfold mkq
  rw [Rat.mkRat_def, dif_neg hQ, Rat.normalize_eq]
  simp only [sg_natAbs]
theorem mkq_den (neg : Bool) (P Q : Nat) (hQ : Q ≠ 0) : (mkq neg P Q).den = Q / Nat.gcd P Q := by
  unfold mkq
  rw [Rat.mkRat_def, dif_neg hQ, Rat.normalize_eq]
  simp only [sg_natAbs]
theorem mkq_natAbs (neg : Bool) (P Q : Nat) (hQ : Q ≠ 0) : (mkq neg P Q).num.natAbs = P / Nat.gcd P Q := by
  rw [mkq_num neg P Q hQ]
  have hg : Nat.gcd P Q ∣ P := Nat.gcd_dvd_left P Q
  obtain ⟨k, hk⟩ := hg
  have hg0 : 0 < Nat.gcd P Q := Nat.gcd_pos_of_pos_right _ (Nat.pos_of_ne_zero hQ)
  generalize Nat.gcd P Q = g at *
  subst hk
  have e : sg neg (g * k) = (g : Int) * sg neg k := by unfold sg; split <;> simp [Int.natCast_mul, Int.mul_neg]
  rw [e, Int.mul_ediv_cancel_left _ (by omega), sg_natAbs, Nat.mul_div_cancel_left _ hg0]
theorem mkq_neg (neg : Bool) (P Q : Nat) (hQ : Q ≠ 0) : decide ((mkq neg P Q).num < 0) = (neg && decide (P ≠ 0)) := by
  rw [mkq_num neg P Q hQ]
  have hg : Nat.gcd P Q ∣ P := Nat.gcd_dvd_left P Q
  obtain ⟨k, hk⟩ := hg
  have hg0 : 0 < Nat.gcd P Q := Nat.gcd_pos_of_pos_right _ (Nat.pos_of_ne_zero hQ)
  generalize Nat.gcd P Q = g at *
  subst hk
  have e : sg neg (g * k) = (g : Int) * sg neg k := by unfold sg; split <;> simp [Int.natCast_mul, Int.mul_neg]
  rw [e, Int.mul_ediv_cancel_left _ (by omega)]
  have e2 : (g * k ≠ 0) ↔ k ≠ 0 := by
    constructor
    · intro h h2; subst h2; simp at h
    · intro h h2
      rcases Nat.mul_eq_zero.1 h2 with h3 | h3
      · omega
      · exact h h3
  rw [Bool.eq_iff_iff]
  simp only [decide_eq_true_iff, Bool.and_eq_true, e2]
  cases neg <;> simp [sg] <;> omega
theorem mkq_zero (neg : Bool) (Q : Nat) : mkq neg 0 Q = 0 := by
  unfold mkq sg
  cases neg <;> simp [Rat.zero_mkRat]
/-- each number is so given. -/
theorem mkq_self (q : Rat) : mkq (decide (q.num < 0)) q.num.natAbs q.den = q := by
  unfold mkq
  have : sg (decide (q.num < 0)) q.num.natAbs = q.num := by
    unfold sg
    by_cases h : q.num < 0
    · simp only [h, decide_true, if_true]; omega
    · simp only [h, decide_false]; simp; omega
  rw [this, Rat.mkRat_self]
theorem natAbs_zero {q : Rat} (h : q.num.natAbs = 0) : q = 0 := by
  rw [← mkq_self q, h, mkq_zero]

theorem sg_add_same (n : Bool) (a b : Nat) : sg n a + sg n b = sg n (a + b) := by unfold sg; split <;> omega
theorem sg_add_lt {m n : Bool} (hne : m ≠ n) {a b : Nat} (h : a < b) : sg m a + sg n b = sg n (b - a) := by
  cases m <;> cases n <;> simp [sg] at * <;> omega
theorem sg_add_ge {m n : Bool} (hne : m ≠ n) {a b : Nat} (h : b ≤ a) : sg m a + sg n b = sg m (a - b) := by
  cases m <;> cases n <;> simp [sg] at * <;> omega
theorem sg_mul (m n : Bool) (a b : Nat) : sg m a * sg n b = sg (m != n) (a * b) := by
  cases m <;> cases n <;> simp [sg, Int.natCast_mul, Int.mul_neg, Int.neg_mul]
theorem sg_scale (m : Bool) (a b : Nat) : sg m a * (b : Int) = sg m (a * b) := by
  cases m <;> simp [sg, Int.natCast_mul, Int.neg_mul]

theorem mkq_add (m n : Bool) (a b c d : Nat) (hc : c ≠ 0) (hd : d ≠ 0) : mkq m a c + mkq n b d = mkRat (sg m (a * d) + sg n (b * c)) (c * d) := by
  unfold mkq
  rw [Rat.mkRat_add_mkRat _ _ hc hd, sg_scale, sg_scale]
theorem mkq_mul (m n : Bool) (a b c d : Nat) : mkq m a c * mkq n b d = mkq (m != n) (a * b) (c * d) := by
  unfold mkq
  rw [Rat.mkRat_mul_mkRat, sg_mul]
theorem mkq_inv (n : Bool) (b d : Nat) (hb : b ≠ 0) (hd : d ≠ 0) : (mkq n b d)⁻¹ = mkq n d b := by
  have h1 : mkq n b d * mkq n d b = 1 := by
    rw [mkq_mul]
    unfold mkq
    have : sg (n != n) (b * d) = ((d * b : Nat) : Int) := by cases n <;> simp [sg, Nat.mul_comm]
    rw [this, Rat.mkRat_eq_div]
    have hne : ((d * b : Nat) : Rat) ≠ 0 := by
      intro h
      have : d * b = 0 := by exact_mod_cast h
      rcases Nat.mul_eq_zero.1 this with h | h
      · exact hd h
      · exact hb h
    have : (((d * b : Nat) : Int) : Rat) = ((d * b : Nat) : Rat) := rfl
    rw [this, Rat.div_def, Rat.mul_inv_cancel _ hne]
  have h2 : mkq n b d ≠ 0 := by
    intro h
    rw [h, Rat.zero_mul] at h1
    exact absurd h1 (by decide)
  have h3 : (mkq n b d)⁻¹ * (mkq n b d * mkq n d b) = (mkq n b d)⁻¹ := by rw [h1, Rat.mul_one]
  rw [← Rat.mul_assoc, Rat.inv_mul_cancel _ h2, Rat.one_mul] at h3
  exact h3.symm
theorem mkq_div (m n : Bool) (a b c d : Nat) (hb : b ≠ 0) (hd : d ≠ 0) : mkq m a c / mkq n b d = mkq (m != n) (a * d) (c * b) := by
  rw [Rat.div_def, mkq_inv n b d hb hd, mkq_mul]
theorem mkq_neg_eq (m : Bool) (a c : Nat) : - mkq m a c = mkq (!m) a c := by
  unfold mkq
  rw [Rat.neg_mkRat]
  cases m <;> simp [sg]
end Vn
