/- Plain facts behind square roots of natural numbers, rounded down. -/
import Derived.Test.YtajecapgmdfjcaaGreatDoorN01
namespace Vn
def IsRoot (a s : Nat) : Prop := s * s ≤ a ∧ a < (s + 1) * (s + 1)
theorem IsRoot.unique {a s t : Nat} (h : IsRoot a s) (k : IsRoot a t) : s = t := by
 rcases Nat.lt_trichotomy s t with h1 | h1 | h1
 ·have := Nat.mul_le_mul (show s + 1 ≤ t from h1) (show s + 1 ≤ t from h1)
  have := h.2; have := k.1; omega
 ·exact h1
 ·have := Nat.mul_le_mul (show t + 1 ≤ s from h1) (show t + 1 ≤ s from h1)
  have := k.2; have := h.1; omega
theorem heron_ge {a x y : Nat} (hx : 0 < x) (hy : y = (x + a / x) / 2) : a < (y + 1) * (y + 1) := by
 have h1 : x + a / x < 2 * (y + 1) := by omega
 have h2 : a < x * (a / x + 1) := by
  have := Nat.lt_mul_div_succ a hx
  exact this
 generalize a / x = q at *
 -- x * (q + 1) ≤ ((x + q + 1) / 2)^2
 have h3 : x * (q + 1) ≤ (y + 1) * (y + 1) := by
  have h4 : x + (q + 1) ≤ 2 * (y + 1) := by omega
  generalize q + 1 = p at *
  generalize y + 1 = z at *
  -- x + p ≤ 2 z  ⟹  x p ≤ z z
  rcases Nat.le_total x z with hxz | hxz
  ·obtain ⟨d, rfl⟩ := Nat.exists_eq_add_of_le hxz
   have : p ≤ x + d + d := by omega
   have := Nat.mul_le_mul_left x this
   have e : x * (x + d + d) + d * d = (x + d) * (x + d) := by grind
   omega
  ·obtain ⟨d, rfl⟩ := Nat.exists_eq_add_of_le hxz
   have hp : p + d ≤ z := by omega
   have h5 : (z + d) * p + (z + d) * d ≤ (z + d) * z := by
    have := Nat.mul_le_mul_left (z + d) hp
    rwa [Nat.mul_add] at this
   have e : (z + d) * z = z * z + d * z := by grind
   have e2 : (z + d) * d = z * d + d * d := by grind
   have e3 : d * z = z * d := Nat.mul_comm _ _
   omega
 omega
theorem heron_done {a x y : Nat} (hy : y = (x + a / x) / 2) (hge : x ≤ y) : x * x ≤ a := by
 have h1 : x ≤ a / x := by omega
 have := Nat.mul_le_mul_left x h1
 have := Nat.mul_div_le a x
 omega
end Vn
namespace Vn
def bl (n : Nat) : Nat := if n = 0 then 0 else n.log2 + 1
theorem bl_zero : bl 0 = 0 := rfl
theorem bl_lt (n : Nat) : n < 2 ^ bl n := by
 unfold bl
 split
 ·next h => subst h; decide
 ·next h => exact Nat.lt_log2_self
theorem bl_le {n : Nat} (h : 0 < n) : 2 ^ (bl n - 1) ≤ n := by
 unfold bl
 rw [if_neg (by omega), Nat.add_sub_cancel]
 exact Nat.log2_self_le (by omega)
theorem bl_pos {n : Nat} (h : 0 < n) : 0 < bl n := by
 unfold bl
 rw [if_neg (by omega)]; omega
theorem bl_unique {n k : Nat} (h1 : 2 ^ k ≤ n) (h2 : n < 2 ^ (k + 1)) : bl n = k + 1 := by
 have hp : 0 < n := Nat.lt_of_lt_of_le (Nat.pow_pos (by decide)) h1
 have a1 := bl_lt n
 have a2 := bl_le hp
 have a3 := bl_pos hp
 have b1 : k < bl n := by
  rcases Nat.lt_or_ge k (bl n) with h | h
  ·exact h
  ·have := Nat.pow_le_pow_right (n := 2) (by decide) h; omega
 have b2 : bl n - 1 < k + 1 := by
  rcases Nat.lt_or_ge (bl n - 1) (k + 1) with h | h
  ·exact h
  ·have := Nat.pow_le_pow_right (n := 2) (by decide) h; omega
 omega
theorem bl_le_of_lt {n k : Nat} (h : n < 2 ^ k) : bl n ≤ k := by
 rcases Nat.eq_zero_or_pos n with h0 | h0
 ·subst h0; exact Nat.zero_le _
 ·have a2 := bl_le h0
  have a3 := bl_pos h0
  rcases Nat.lt_or_ge k (bl n) with hlt | hge
  ·have := Nat.pow_le_pow_right (n := 2) (by decide) (show k ≤ bl n - 1 by omega); omega
  ·exact hge
theorem bl_words {d k X low : Nat} (hd : 0 < d) (hl : low < 4294967296 ^ k) (hX : X = low + 4294967296 ^ k * d) : bl X = 32 * k + bl d := by
 have e : (4294967296 : Nat) ^ k = 2 ^ (32 * k) := by rw [Nat.pow_mul]
 rw [e] at hl hX
 have h1 := bl_le hd
 have h2 := bl_lt d
 have h3 := bl_pos hd
 have h4 : bl X = 32 * k + (bl d - 1) + 1 := by
  apply bl_unique
  ·rw [Nat.pow_add, hX]
   have := Nat.mul_le_mul_left (2 ^ (32 * k)) h1
   omega
  ·rw [hX, show 32 * k + (bl d - 1) + 1 = 32 * k + bl d by omega, Nat.pow_add]
   have := Nat.mul_le_mul_left (2 ^ (32 * k)) (Nat.succ_le_of_lt h2)
   rw [Nat.mul_succ] at this
   omega
 omega
end Vn

/- Plain facts on rational numbers by sign, numerator and denominator. -/
namespace Vn
def sg (neg : Bool) (P : Nat) : Int := if neg then -(P : Int) else P
def mkq (neg : Bool) (P Q : Nat) : Rat := mkRat (sg neg P) Q
theorem sg_natAbs (neg : Bool) (P : Nat) : (sg neg P).natAbs = P := by unfold sg; split <;> omega
theorem mkq_num (neg : Bool) (P Q : Nat) (hQ : Q ≠ 0) : (mkq neg P Q).num = sg neg P / (Nat.gcd P Q : Int) := by
 unfold mkq
 rw [Rat.mkRat_def, dif_neg hQ, Rat.normalize_eq]
 simp only [sg_natAbs]
theorem mkq_den (neg : Bool) (P Q : Nat) (hQ : Q ≠ 0) : (mkq neg P Q).den = Q / Nat.gcd P Q := by
 unfold mkq
 rw [Rat.mkRat_def, dif_neg hQ, Rat.normalize_eq]
 simp only [sg_natAbs]
theorem mkq_natAbs (neg : Bool) (P Q : Nat) (hQ : Q ≠ 0) : (mkq neg P Q).num.natAbs = P / Nat.gcd P Q := by
 rw [mkq_num neg P Q hQ]
 have hg : Nat.gcd P Q ∣ P := Nat.gcd_dvd_left P Q
 obtain ⟨k, hk⟩ := hg
 have hg0 : 0 < Nat.gcd P Q := Nat.gcd_pos_of_pos_right _ (Nat.pos_of_ne_zero hQ)
 generalize Nat.gcd P Q = g at *
 subst hk
 have e : sg neg (g * k) = (g : Int) * sg neg k := by unfold sg; split <;> simp [Int.natCast_mul, Int.mul_neg]
 rw [e, Int.mul_ediv_cancel_left _ (by omega), sg_natAbs, Nat.mul_div_cancel_left _ hg0]
theorem mkq_neg (neg : Bool) (P Q : Nat) (hQ : Q ≠ 0) : decide ((mkq neg P Q).num < 0) = (neg && decide (P ≠ 0)) := by
 rw [mkq_num neg P Q hQ]
 have hg : Nat.gcd P Q ∣ P := Nat.gcd_dvd_left P Q
 obtain ⟨k, hk⟩ := hg
 have hg0 : 0 < Nat.gcd P Q := Nat.gcd_pos_of_pos_right _ (Nat.pos_of_ne_zero hQ)
 generalize Nat.gcd P Q = g at *
 subst hk
 have e : sg neg (g * k) = (g : Int) * sg neg k := by unfold sg; split <;> simp [Int.natCast_mul, Int.mul_neg]
 rw [e, Int.mul_ediv_cancel_left _ (by omega)]
 have e2 : (g * k ≠ 0) ↔ k ≠ 0 := by
  constructor
  ·intro h h2; subst h2; simp at h
  ·intro h h2
   rcases Nat.mul_eq_zero.1 h2 with h3 | h3
   ·omega
   ·exact h h3
 rw [Bool.eq_iff_iff]
 simp only [decide_eq_true_iff, Bool.and_eq_true, e2]
 cases neg <;> simp [sg] <;> omega
theorem mkq_zero (neg : Bool) (Q : Nat) : mkq neg 0 Q = 0 := by
 unfold mkq sg
 cases neg <;> simp [Rat.zero_mkRat]
theorem mkq_self (q : Rat) : mkq (decide (q.num < 0)) q.num.natAbs q.den = q := by
 unfold mkq
 have : sg (decide (q.num < 0)) q.num.natAbs = q.num := by
  unfold sg
  by_cases h : q.num < 0
  ·simp only [h, decide_true, if_true]; omega
  ·simp only [h, decide_false]; simp; omega
 rw [this, Rat.mkRat_self]
theorem sg_mul (m n : Bool) (a b : Nat) : sg m a * sg n b = sg (m != n) (a * b) := by
 cases m <;> cases n <;> simp [sg, Int.natCast_mul, Int.mul_neg, Int.neg_mul]
theorem sg_scale (m : Bool) (a b : Nat) : sg m a * (b : Int) = sg m (a * b) := by
 cases m <;> simp [sg, Int.natCast_mul, Int.neg_mul]
theorem mkq_add (m n : Bool) (a b c d : Nat) (hc : c ≠ 0) (hd : d ≠ 0) : mkq m a c + mkq n b d = mkRat (sg m (a * d) + sg n (b * c)) (c * d) := by
 unfold mkq
 rw [Rat.mkRat_add_mkRat _ _ hc hd, sg_scale, sg_scale]
theorem mkq_mul (m n : Bool) (a b c d : Nat) : mkq m a c * mkq n b d = mkq (m != n) (a * b) (c * d) := by
 unfold mkq
 rw [Rat.mkRat_mul_mkRat, sg_mul]
theorem mkq_inv (n : Bool) (b d : Nat) (hb : b ≠ 0) (hd : d ≠ 0) : (mkq n b d)⁻¹ = mkq n d b := by
 have h1 : mkq n b d * mkq n d b = 1 := by
  rw [mkq_mul]
  unfold mkq
  have : sg (n != n) (b * d) = ((d * b : Nat) : Int) := by cases n <;> simp [sg, Nat.mul_comm]
  rw [this, Rat.mkRat_eq_div]
  have hne : ((d * b : Nat) : Rat) ≠ 0 := by
   intro h
   have : d * b = 0 := by exact_mod_cast h
   rcases Nat.mul_eq_zero.1 this with h | h
   ·exact hd h
   ·exact hb h
  have : (((d * b : Nat) : Int) : Rat) = ((d * b : Nat) : Rat) := rfl
  rw [this, Rat.div_def, Rat.mul_inv_cancel _ hne]
 have h2 : mkq n b d ≠ 0 := by
  intro h
  rw [h, Rat.zero_mul] at h1
  exact absurd h1 (by decide)
 have h3 : (mkq n b d)⁻¹ * (mkq n b d * mkq n d b) = (mkq n b d)⁻¹ := by rw [h1, Rat.mul_one]
 rw [← Rat.mul_assoc, Rat.inv_mul_cancel _ h2, Rat.one_mul] at h3
 exact h3.symm
theorem mkq_div (m n : Bool) (a b c d : Nat) (hb : b ≠ 0) (hd : d ≠ 0) : mkq m a c / mkq n b d = mkq (m != n) (a * d) (c * b) := by
 rw [Rat.div_def, mkq_inv n b d hb hd, mkq_mul]
end Vn

/- Plain: powers of two over Rat, logarithms. -/
namespace Go.Proofs.YtajecapgmdfjcaaGreatDoor
open Vn
theorem two_pos : (0 : Rat) < 2 := by decide
theorem p2_pos (k : Int) : (0 : Rat) < (2 : Rat) ^ k := Rat.zpow_pos two_pos
theorem p2_add (m n : Int) : (2 : Rat) ^ (m + n) = (2 : Rat) ^ m * (2 : Rat) ^ n := Rat.zpow_add (by decide) m n
theorem p2_succ (m : Int) : (2 : Rat) ^ (m + 1) = (2 : Rat) ^ m * 2 := by rw [p2_add, Rat.zpow_one]
theorem p2_cancel (m : Int) : (2 : Rat) ^ (-m) * (2 : Rat) ^ m = 1 := by rw [← p2_add, Int.add_left_neg, Rat.zpow_zero]
theorem p2_nat (n : Nat) : (2 : Rat) ^ (n : Int) = ((2 ^ n : Nat) : Rat) := by rw [Rat.zpow_natCast, Rat.natCast_pow]; rfl
theorem p2_mono {m n : Int} (h : m ≤ n) : (2 : Rat) ^ m ≤ (2 : Rat) ^ n := by
 obtain ⟨k, rfl⟩ : ∃ k : Nat, n = m + k := ⟨(n - m).toNat, by omega⟩
 rw [p2_add, p2_nat]
 have h1 : (1 : Rat) ≤ ((2 ^ k : Nat) : Rat) := by
  have : 1 ≤ 2 ^ k := Nat.pow_pos (by decide)
  exact_mod_cast this
 have := Rat.mul_le_mul_of_nonneg_left h1 (Rat.le_of_lt (p2_pos m))
 rwa [Rat.mul_one] at this
theorem p2_lt {m n : Int} (h : m < n) : (2 : Rat) ^ m < (2 : Rat) ^ n := by
 have h1 := p2_mono (show m + 1 ≤ n by omega)
 rw [p2_succ] at h1
 have := p2_pos m
 grind
theorem p2_lt_iff {m n : Int} : (2 : Rat) ^ m < (2 : Rat) ^ n ↔ m < n :=
 ⟨fun h => by
  rcases Int.lt_or_le m n with k | k
  ·exact k
  ·exact absurd h (Rat.not_lt.2 (p2_mono k)), p2_lt⟩
theorem p2_le_iff {m n : Int} : (2 : Rat) ^ m ≤ (2 : Rat) ^ n ↔ m ≤ n :=
 ⟨fun h => by
  rcases Int.lt_or_le n m with k | k
  ·exact absurd h (Rat.not_le.2 (p2_lt k))
  ·exact k, p2_mono⟩
theorem num_eq (q : Rat) : (q.num : Rat) = q * q.den := by
 have h := Rat.mkRat_eq_div q.num q.den
 rw [Rat.mkRat_self] at h
 have hd : (q.den : Rat) ≠ 0 := by
  have := q.den_nz
  exact_mod_cast this
 have h2 : (q.num : Rat) / q.den * q.den = q.num := by rw [Rat.div_def, Rat.mul_assoc, Rat.inv_mul_cancel _ hd, Rat.mul_one]
 rw [← h] at h2
 exact h2.symm
def IsLog (q : Rat) (k : Int) : Prop := (2 : Rat) ^ k ≤ q ∧ q < (2 : Rat) ^ (k + 1)
theorem IsLog.unique {q : Rat} {k l : Int} (h : IsLog q k) (h' : IsLog q l) : k = l := by
 have h1 : (2 : Rat) ^ k < (2 : Rat) ^ (l + 1) := by have := h.1; have := h'.2; grind
 have h2 : (2 : Rat) ^ l < (2 : Rat) ^ (k + 1) := by have := h'.1; have := h.2; grind
 rw [p2_lt_iff] at h1 h2
 omega
theorem IsLog.pos {q : Rat} {k : Int} (h : IsLog q k) : 0 < q := by
 have := h.1; have := p2_pos k; grind
theorem lt_p2 {q : Rat} (h : 0 < q.num) (m n : Nat) : q < (2 : Rat) ^ ((m : Int) - n) ↔ q.num.natAbs * 2 ^ n < q.den * 2 ^ m := by
 have hd : (0 : Rat) < q.den := by have := Nat.pos_of_ne_zero q.den_nz; exact_mod_cast this
 have hn := p2_pos n
 rw [← Rat.mul_lt_mul_right hn, ← Rat.mul_lt_mul_right hd, ← p2_add, show (m : Int) - n + n = m by omega, p2_nat, p2_nat]
 rw [show q * ((2 ^ n : Nat) : Rat) * q.den = q * q.den * ((2 ^ n : Nat) : Rat) by grind, ← num_eq, show ((2 ^ m : Nat) : Rat) * q.den = (q.den : Rat) * ((2 ^ m : Nat) : Rat) by grind]
 rw [show (q.num : Rat) = ((q.num.natAbs : Nat) : Rat) by
  have : q.num = ((q.num.natAbs : Nat) : Int) := by omega
  conv => lhs; rw [this]
  rfl]
 rw [← Rat.natCast_mul, ← Rat.natCast_mul, Rat.natCast_lt_natCast]
theorem p2_le {q : Rat} (h : 0 < q.num) (m n : Nat) : (2 : Rat) ^ ((m : Int) - n) ≤ q ↔ q.den * 2 ^ m ≤ q.num.natAbs * 2 ^ n := by
 rw [← Rat.not_lt, lt_p2 h]; omega
theorem log_is {q : Rat} (h : 0 < q.num) (k : Int) (hk : k = (bl q.num.natAbs : Int) - bl q.den) :
  IsLog q (if q.num.natAbs * 2 ^ (max (-k) 0).toNat < q.den * 2 ^ (max k 0).toNat then k - 1 else k) := by
 have hd := Nat.pos_of_ne_zero q.den_nz
 have hp : 0 < q.num.natAbs := by omega
 have h1 := bl_lt q.num.natAbs
 have h2 := bl_le hp
 have h3 := bl_lt q.den
 have h4 := bl_le hd
 have h5 := bl_pos hp
 have h6 := bl_pos hd
 have he : ((max k 0).toNat : Int) - ((max (-k) 0).toNat : Int) = k := by omega
 have hc := lt_p2 h (max k 0).toNat (max (-k) 0).toNat
 rw [he] at hc
 have lo : (2 : Rat) ^ (k - 1) ≤ q := by
  have e : k - 1 = ((bl q.num.natAbs - 1 : Nat) : Int) - (bl q.den : Int) := by omega
  rw [e, p2_le h, Nat.mul_comm q.num.natAbs]
  exact Nat.mul_le_mul (Nat.le_of_lt h3) h2
 have hi : q < (2 : Rat) ^ (k + 1) := by
  have e : k + 1 = (bl q.num.natAbs : Int) - ((bl q.den - 1 : Nat) : Int) := by omega
  rw [e, lt_p2 h, Nat.mul_comm q.den]
  exact Nat.mul_lt_mul_of_lt_of_le h1 h4 hd
 by_cases hl : q.num.natAbs * 2 ^ (max (-k) 0).toNat < q.den * 2 ^ (max k 0).toNat
 ·rw [if_pos hl]
  exact ⟨lo, by rw [show k - 1 + 1 = k by omega]; exact hc.2 hl⟩
 ·rw [if_neg hl]
  exact ⟨Rat.not_lt.1 fun h => hl (hc.1 h), hi⟩
end Go.Proofs.YtajecapgmdfjcaaGreatDoor

/- Plain facts behind the reference's natural numbers: what makes a list of digits normal, sums and differences digit by digit, a digit of a quotient by halves, divisors by halves. -/
namespace Vn
theorem Norm.of_ge {B : Nat} (hB : 0 < B) {l : List Nat} (h : Dig B l) (hv : l ≠ [] → B ^ (l.length - 1) ≤ dv B l) : Norm B l := by
 refine ⟨h, ?_⟩
 by_cases hl : l = []
 ·exact .inl hl
 ·right
  have hlen : 0 < l.length := List.length_pos_iff.2 hl
  rcases Nat.eq_zero_or_pos (l.getD (l.length - 1) 0) with h0 | h0
  ·exfalso
   have h1 := hv hl
   have h2 : dv B (l.take (l.length - 1)) = dv B l := dv_take_zeros (by omega) (fun k a b => by
    obtain rfl : k = l.length - 1 := by omega
    exact h0)
   have h3 := dv_lt hB (h.take (l.length - 1))
   rw [h2, List.length_take, Nat.min_eq_left (by omega)] at h3
   omega
  ·exact h0
theorem dv_snoc (B : Nat) (o : List Nat) (s : Nat) : dv B (o ++ [s]) = dv B o + s * B ^ o.length := by
 rw [dv_append, dv_cons, dv_nil, Nat.mul_comm]; simp
structure SumR (B : Nat) (x y : List Nat) (k q : Nat) (o : List Nat) : Prop where
 len : o.length = k
 dig : Dig B o
 hq : q ≤ 1
 val : dv B o + B ^ k * q = dv B (x.take k) + dv B (y.take k)
 hk : k ≤ max x.length y.length ∨ (k = max x.length y.length + 1 ∧ q = 0 ∧ B ^ (max x.length y.length) ≤ dv B o)
theorem SumR.start (B : Nat) (x y : List Nat) : SumR B x y 0 0 [] := ⟨rfl, Dig.nil, by omega, by simp [dv], .inl (Nat.zero_le _)⟩
theorem SumR.step {B : Nat} (hB : 2 < B) {x y : List Nat} {k q : Nat} {o : List Nat} (h : SumR B x y k q o) (hx : Dig B x) (hy : Dig B y) (hc : k < max x.length y.length ∨ 0 < q) :
  SumR B x y (k + 1) ((q + x.getD k 0 + y.getD k 0) / B) (o ++ [(q + x.getD k 0 + y.getD k 0) % B]) := by
 have hd := hx.get (by omega) k
 have hf := hy.get (by omega) k
 have hq := h.hq
 have hlen := h.len
 have hkk := h.hk
 have hm := Nat.mod_add_div (q + x.getD k 0 + y.getD k 0) B
 have hq' : (q + x.getD k 0 + y.getD k 0) / B ≤ 1 := by
  have : (q + x.getD k 0 + y.getD k 0) / B < 2 := Nat.div_lt_of_lt_mul (by omega)
  omega
 refine ⟨by simp [hlen], h.dig.append (Dig.mk (Nat.mod_lt _ (by omega)) Dig.nil), hq', ?_, ?_⟩
 ·rw [dv_snoc, hlen, dv_take_succ', dv_take_succ']
  exact add_step h.val hm.symm
 ·rcases Nat.lt_or_ge k (max x.length y.length) with hlt | hge
  ·exact .inl hlt
  ·right
   have h1 : 0 < q := by omega
   have h2 : k = max x.length y.length := by
    rcases hkk with h3 | ⟨_, h4, _⟩
    ·omega
    ·omega
   have hx0 : x.getD k 0 = 0 := getD_ge (by omega)
   have hy0 : y.getD k 0 = 0 := getD_ge (by omega)
   have hq1 : q = 1 := by omega
   rw [hx0, hy0, hq1]
   refine ⟨by omega, Nat.div_eq_of_lt (by omega), ?_⟩
   rw [dv_snoc, hlen, Nat.mod_eq_of_lt (by omega), ← h2]
   omega
theorem SumR.finish {B : Nat} (hB : 2 < B) {x y : List Nat} {k : Nat} {o : List Nat} (h : SumR B x y k 0 o) (hx : Norm B x) (hy : Norm B y) (hk : max x.length y.length ≤ k) : Norm B o ∧ dv B o = dv B x + dv B y := by
 have hv := h.val
 rw [List.take_of_length_le (by omega), List.take_of_length_le (by omega), Nat.mul_zero, Nat.add_zero] at hv
 refine ⟨Norm.of_ge (by omega) h.dig (fun hne => ?_), hv⟩
 have hlen := h.len
 have hpos : 0 < o.length := List.length_pos_iff.2 hne
 rcases h.hk with h1 | ⟨h1, _, h3⟩
 ·have hkm : k = max x.length y.length := by omega
  rw [hlen, hv, hkm]
  rcases Nat.le_total x.length y.length with hle | hle
  ·have := Trim.pos (B := B) (by omega) hy.trim (by intro e; subst e; simp at hle; simp [hle] at hkm; omega)
   rw [Nat.max_eq_right hle]; omega
  ·have := Trim.pos (B := B) (by omega) hx.trim (by intro e; subst e; simp at hle; simp [hle] at hkm; omega)
   rw [Nat.max_eq_left hle]; omega
 ·rw [hlen, h1]
  exact h3
theorem SumR.last {B : Nat} {x y : List Nat} {k q : Nat} {o : List Nat} (h : SumR B x y k q o) : k ≤ max x.length y.length + 1 := by
 rcases h.hk with h1 | ⟨h1, _⟩ <;> omega
structure DifR (B : Nat) (x y : List Nat) (k q : Nat) (o : List Nat) : Prop where
 hk : k ≤ x.length
 len : o.length = k
 dig : Dig B o
 hq : q ≤ 1
 val : dv B o + dv B (y.take k) = dv B (x.take k) + B ^ k * q
theorem DifR.start (B : Nat) (x y : List Nat) : DifR B x y 0 0 [] := ⟨Nat.zero_le _, rfl, Dig.nil, by omega, by simp [dv]⟩
theorem DifR.stay {B : Nat} {x y : List Nat} {k q : Nat} {o : List Nat} (h : DifR B x y k q o) (hk : k < x.length) (hx : Dig B x) (hB : 0 < B) (hc : q + y.getD k 0 ≤ x.getD k 0) :
  DifR B x y (k + 1) 0 (o ++ [x.getD k 0 - (q + y.getD k 0)]) := by
 have hd := hx.get hB k
 have hlen := h.len
 refine ⟨hk, by simp [hlen], h.dig.append (Dig.mk (by omega) Dig.nil), by omega, ?_⟩
 rw [dv_snoc, hlen, dv_take_succ', dv_take_succ']
 exact dif_step h.val (by omega)
theorem DifR.lend {B : Nat} {x y : List Nat} {k q : Nat} {o : List Nat} (h : DifR B x y k q o) (hk : k < x.length) (hy : Dig B y) (hB : 0 < B) (hc : x.getD k 0 < q + y.getD k 0) :
  DifR B x y (k + 1) 1 (o ++ [x.getD k 0 + B - (q + y.getD k 0)]) := by
 have hf := hy.get hB k
 have hq := h.hq
 have hlen := h.len
 refine ⟨hk, by simp [hlen], h.dig.append (Dig.mk (by omega) Dig.nil), by omega, ?_⟩
 rw [dv_snoc, hlen, dv_take_succ', dv_take_succ']
 exact dif_step h.val (by omega)
theorem DifR.finish {B : Nat} {x y : List Nat} {k q : Nat} {o : List Nat} (h : DifR B x y k q o) (hB : 0 < B) (hk : k = x.length) (hl : y.length ≤ x.length) (hle : dv B y ≤ dv B x) : dv B o = dv B x - dv B y := by
 have hv := h.val
 rw [List.take_of_length_le (by omega), List.take_of_length_le (by omega)] at hv
 have hlt := dv_lt hB h.dig
 rw [h.len] at hlt
 have hq := h.hq
 rcases (show q = 0 ∨ q = 1 by omega) with rfl | rfl <;> omega
theorem guess_low {p t u x y b r : Nat} (h0 : 0 < b) (hb : b = u * p + t) (ht : t < p) (hr : r = x * p + y) (_hy : y < p) : x / (u + 1) ≤ r / b := by
 rw [Nat.le_div_iff_mul_le h0]
 have h1 : x / (u + 1) * (u + 1) ≤ x := Nat.div_mul_le_self _ _
 have h2 : x / (u + 1) * b ≤ x / (u + 1) * ((u + 1) * p) := Nat.mul_le_mul_left _ (by rw [Nat.add_mul]; omega)
 have h3 : x / (u + 1) * ((u + 1) * p) ≤ x * p := by rw [← Nat.mul_assoc]; exact Nat.mul_le_mul_right _ h1
 omega
theorem guess_high {p t u x y b r : Nat} (hb : b = u * p + t) (hu : 0 < u) (hp : 0 < p) (hr : r = x * p + y) (hy : y < p) : r / b ≤ (x + 1) / u := by
 have h0 : 0 < b := by have := Nat.mul_pos hu hp; omega
 rw [Nat.le_div_iff_mul_le hu]
 have h1 : r / b * b ≤ r := Nat.div_mul_le_self _ _
 have h2 : r / b * (u * p) ≤ r / b * b := Nat.mul_le_mul_left _ (by omega)
 have h3 : r / b * u * p < (x + 1) * p := by rw [Nat.mul_assoc, Nat.add_mul]; omega
 have := Nat.lt_of_mul_lt_mul_right h3
 omega
theorem dv_top {B : Nat} {y : List Nat} {m : Nat} (hm0 : 0 < m) (hm : m ≤ y.length) (h1 : y.length ≤ m + 1) : dv B y = (y.getD (m - 1) 0 + B * y.getD m 0) * B ^ (m - 1) + dv B (y.take (m - 1)) := by
 rw [dv_take_drop B y (m - 1) (by omega), dv_drop B y (m - 1) (by omega), show m - 1 + 1 = m by omega]
 have e : dv B (y.drop m) = y.getD m 0 := by
  rcases Nat.lt_or_ge m y.length with h | h
  ·rw [dv_drop B y m h, List.drop_eq_nil_of_le (by omega), dv_nil, Nat.mul_zero, Nat.add_zero]
  ·rw [List.drop_eq_nil_of_le h, getD_ge h, dv_nil]
 rw [e, Nat.mul_comm (B ^ (m - 1))]
 omega
theorem guess {B : Nat} (hB : 1 < B) {y l : List Nat} {m : Nat} (hy : Norm B y) (hm : y.length = m) (hm0 : 0 < m) (hl : Norm B l) (hM : dv B y ≤ dv B l) (hN : dv B l < B * dv B y) :
  m ≤ l.length ∧ l.length ≤ m + 1 ∧ 0 < y.getD (m - 1) 0 ∧ (l.getD (m - 1) 0 + B * l.getD m 0) / (y.getD (m - 1) 0 + 1) ≤ dv B l / dv B y ∧ dv B l / dv B y ≤ (l.getD (m - 1) 0 + B * l.getD m 0 + 1) / y.getD (m - 1) 0 ∧ dv B l / dv B y < B := by
 have hB0 : 0 < B := by omega
 have h1 : m ≤ l.length := by
  rcases Nat.lt_or_ge l.length m with h | h
  ·have := Norm.lt_of_len hB0 hl.dig hy (by omega); omega
  ·exact h
 have hyl := dv_lt hB0 hy.dig
 rw [hm] at hyl
 have h2 : l.length ≤ m + 1 := by
  refine hl.len_le hB0 (Nat.lt_trans hN ?_)
  rw [Nat.pow_succ, Nat.mul_comm]
  exact Nat.mul_lt_mul_of_pos_right hyl hB0
 have h3 : 0 < y.getD (m - 1) 0 := by
  rcases hy.trim with h | h
  ·rw [h] at hm; simp at hm; omega
  ·rwa [hm] at h
 have hp : 0 < B ^ (m - 1) := Nat.pow_pos hB0
 have ey := dv_top (B := B) hm0 (show m ≤ y.length by omega) (by omega)
 rw [getD_ge (show y.length ≤ m by omega), Nat.mul_zero, Nat.add_zero] at ey
 have el := dv_top (B := B) hm0 h1 h2
 have ty := dv_lt hB0 (hy.dig.take (m - 1))
 have tl := dv_lt hB0 (hl.dig.take (m - 1))
 rw [List.length_take, Nat.min_eq_left (by omega)] at ty tl
 have h0 : 0 < dv B y := by
  have := Nat.mul_pos h3 hp
  omega
 exact ⟨h1, h2, h3, guess_low h0 ey ty el tl, guess_high ey h3 hp el tl, Nat.div_lt_of_lt_mul (by rw [Nat.mul_comm]; exact hN)⟩
end Vn
