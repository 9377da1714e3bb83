/- Plain: what the parts of a word of n steps are. -/
import Derived.Test.YtpdjenblkgaffaaGreatDoorM35
namespace Go.Proofs.YtpdjenblkgaffaaGreatDoor
open Go.RowKit Vn

theorem pow_EP {E P : Nat} (hP : 1 ≤ P) : 2 ^ (E + P - 1) = 2 ^ (P - 1) * 2 ^ E := by rw [← Nat.pow_add]; congr 1; omega
theorem wordN_eq {E P : Nat} (neg : Bool) {n f : Nat} (h : n + f * 2 ^ (P - 1) < 2 ^ (E + P - 1)) : wordN E P neg n f = n + f * 2 ^ (P - 1) + 2 ^ (E + P - 1) * (if neg = true then 1 else 0) := by
  unfold wordN sgb
  rw [Nat.or_comm]
  cases neg
  · simp
  · simp only [if_true]
    have := or_add (b := 1) h
    rw [Nat.mul_one] at this
    rw [this, Nat.mul_one]
theorem wordN_wf {E P : Nat} (hP : 1 ≤ P) (neg : Bool) {n f : Nat} (h : n + f * 2 ^ (P - 1) < 2 ^ (E + P - 1)) : wf E P (wordN E P neg n f) = (n + f * 2 ^ (P - 1)) / 2 ^ (P - 1) := by
  rw [wordN_eq neg h]
  unfold wf
  have hp : 0 < 2 ^ (P - 1) := Nat.pow_pos (by decide)
  have h2 : (n + f * 2 ^ (P - 1)) / 2 ^ (P - 1) < 2 ^ E := by
    rw [Nat.div_lt_iff_lt_mul hp, Nat.mul_comm (2 ^ E), ← pow_EP hP]; exact h
  rw [pow_EP hP, Nat.mul_assoc, Nat.add_mul_div_left _ _ hp, Nat.add_mul_mod_self_left, Nat.mod_eq_of_lt h2]
theorem wordN_wr {E P : Nat} (hP : 1 ≤ P) (neg : Bool) {n f : Nat} (h : n + f * 2 ^ (P - 1) < 2 ^ (E + P - 1)) : wr P (wordN E P neg n f) = n % 2 ^ (P - 1) := by
  rw [wordN_eq neg h]
  unfold wr
  rw [pow_EP hP, Nat.mul_assoc, Nat.add_mul_mod_self_left, Nat.add_mul_mod_self_right]
theorem wordN_wn {E P : Nat} (neg : Bool) {n f : Nat} (h : n + f * 2 ^ (P - 1) < 2 ^ (E + P - 1)) : wn E P (wordN E P neg n f) = neg := by
  rw [wordN_eq neg h]
  unfold wn
  have hp : 0 < 2 ^ (E + P - 1) := Nat.pow_pos (by decide)
  rw [Nat.add_mul_div_left _ _ hp, Nat.div_eq_of_lt h]
  cases neg <;> simp

/-- a word of n steps reads as n steps, where n is normed: below 2^P (or 2^P itself), and not below 2^(P-1) but at the least exponent. -/
theorem wordN_val {E P b : Nat} (hP : 1 ≤ P) (neg : Bool) {n f : Nat} (h : n + f * 2 ^ (P - 1) < 2 ^ (E + P - 1)) (hn : n ≤ 2 ^ P) (hf : f = 0 ∨ 2 ^ (P - 1) ≤ n) :
    wval E P b (wordN E P neg n f) = (if neg = true then -1 else 1) * (((n : Nat) : Rat) * (2 : Rat) ^ (2 - (b : Int) - P + (f : Nat))) := by
  unfold wval wfr
  rw [wordN_wn neg h, wordN_wf hP neg h, wordN_wr hP neg h]
  have hp : 0 < 2 ^ (P - 1) := Nat.pow_pos (by decide)
  have hPP : 2 ^ P = 2 * 2 ^ (P - 1) := by rw [← Nat.pow_succ']; congr 1; omega
  have hd : (n + f * 2 ^ (P - 1)) / 2 ^ (P - 1) = n / 2 ^ (P - 1) + f := Nat.add_mul_div_right _ _ hp
  rw [hd]
  congr 1
  rcases Nat.lt_or_ge n (2 ^ (P - 1)) with h1 | h1
  · obtain rfl : f = 0 := by omega
    rw [Nat.div_eq_of_lt h1, Nat.mod_eq_of_lt h1]
    simp
  · rcases Nat.lt_or_ge n (2 ^ P) with h2 | h2
    · have e1 : n / 2 ^ (P - 1) = 1 := by
        rw [Nat.div_eq_iff hp]; omega
      have e2 : n % 2 ^ (P - 1) + 2 ^ (P - 1) = n := by
        have := Nat.div_add_mod n (2 ^ (P - 1)); rw [e1] at this; omega
      rw [e1, if_neg (by omega), e2]
      congr 2; omega
    · have e0 : n = 2 ^ (P - 1) * 2 := by omega
      have e1 : n / 2 ^ (P - 1) = 2 := by rw [e0, Nat.mul_div_cancel_left _ hp]
      have e2 : n % 2 ^ (P - 1) = 0 := by rw [e0, Nat.mul_mod_right]
      rw [e1, e2, if_neg (by omega), Nat.zero_add, e0, Rat.natCast_mul]
      have e3 : (2 - (b : Int) - P + ((max (2 + f) 1 - 1 : Nat) : Int)) = 2 - (b : Int) - P + (f : Nat) + 1 := by omega
      rw [e3, p2_succ]
      grind
end Go.Proofs.YtpdjenblkgaffaaGreatDoor

/- Plain: a number that is a value is rounded to itself. -/
namespace Go.Proofs.YtpdjenblkgaffaaGreatDoor
open Go.RowKit Vn

/-- so many steps, whatever the greatest value is. -/
def IsVal (P b : Nat) (q : Rat) : Prop := ∃ (m : Nat) (j : Int), 2 - (b : Int) - P ≤ j ∧ m < 2 ^ P ∧ absQ q = (m : Rat) * (2 : Rat) ^ j

theorem isVal_step {P b : Nat} {q : Rat} {l : Int} (hl : IsLog (absQ q) l) (h : IsVal P b q) : ∃ N : Nat, rdT P b l q = (N : Rat) ∧ absQ q = (N : Rat) * (2 : Rat) ^ (rdK P b l) := by
  obtain ⟨m, j, h1, h2, h3⟩ := h
  have hk : rdK P b l ≤ j := by
    rcases Int.lt_or_le j (rdK P b l) with h4 | h4
    · have e : rdK P b l = l - P + 1 := by unfold rdK at *; unfold rdF at *; omega
      have h5 : absQ q < (2 : Rat) ^ ((P : Int) + j) := by
        rw [h3, p2_add, Rat.mul_lt_mul_right (p2_pos j), p2_nat, Rat.natCast_lt_natCast]; exact h2
      have h6 : (2 : Rat) ^ l < (2 : Rat) ^ ((P : Int) + j) := by have := hl.1; grind
      rw [p2_lt_iff] at h6
      omega
    · exact h4
  obtain ⟨d, hd⟩ : ∃ d : Nat, j = rdK P b l + d := ⟨(j - rdK P b l).toNat, by omega⟩
  have e : absQ q = ((m * 2 ^ d : Nat) : Rat) * (2 : Rat) ^ (rdK P b l) := by
    rw [h3, hd, p2_add, p2_nat, Rat.natCast_mul]; grind
  refine ⟨m * 2 ^ d, ?_, e⟩
  unfold rdT
  rw [e, Rat.mul_assoc, p2_cancel', Rat.mul_one]

theorem rdN_of {P b : Nat} {l : Int} {q : Rat} {N : Nat} (h : rdT P b l q = (N : Rat)) : rdN P b l q = N := by
  unfold rdN
  rw [h, show ((N : Nat) : Rat) = (((N : Nat) : Int) : Rat) from rfl, Rat.floor_intCast]; rfl

/-- a value that is not too great is rounded to itself, and no flag is set. -/
theorem round_exact {E P b m : Nat} {q : Rat} {l : Int} (hl : IsLog (absQ q) l) (h : IsVal P b q) (hg : absQ q ≤ grQ P b) :
    roundR E P b m q l = (wordN E P (decide (q.num < 0)) (rdN P b l q) (rdF b l), 0) ∧ absQ q = (rdN P b l q : Rat) * (2 : Rat) ^ (2 - (b : Int) - P + (rdF b l : Nat)) := by
  obtain ⟨N, h1, h2⟩ := isVal_step hl h
  have hN := rdN_of h1
  have hk : rdK P b l = 2 - (b : Int) - P + (rdF b l : Nat) := rfl
  rw [hk] at h2
  rw [hN]
  refine ⟨?_, h2⟩
  unfold roundR endR
  have hd : (rdT P b l q).den = 1 := by rw [h1]; rfl
  have e1 : endN m (decide (q.num < 0)) (rdN P b l q) (decide ((rdT P b l q).den = 1)) (cmpQ ((rdT P b l q - (rdN P b l q : Nat)) * 2) 1) = N := by
    unfold endN; rw [hd, hN]; simp
  have e2 : endF (decide ((rdT P b l q).den = 1)) (decide (l < 1 - (b : Int))) = 0 := by unfold endF; rw [hd]; simp
  rw [e1, e2, if_pos (by rw [← h2]; exact hg)]
/-- and the word stands for it. -/
theorem absQ_sign (q : Rat) : (if decide (q.num < 0) = true then -1 else 1) * absQ q = q := by
  rw [absQ_eq]
  by_cases h : q.num < 0
  · rw [if_pos (decide_eq_true h), if_pos h]; grind
  · rw [if_neg (by rw [decide_eq_false h]; decide), if_neg h]; grind
theorem round_exact_val {E P b m : Nat} {q : Rat} {l : Int} (hP : 1 ≤ P) (hl : IsLog (absQ q) l) (h : IsVal P b q) (hg : absQ q ≤ grQ P b) (hlt : rdN P b l q + rdF b l * 2 ^ (P - 1) < 2 ^ (E + P - 1)) :
    wval E P b (roundR E P b m q l).1 = q := by
  obtain ⟨h1, h2⟩ := round_exact (E := E) (m := m) hl h hg
  rw [h1, wordN_val hP _ hlt (Nat.le_of_lt (rdN_lt hl)) (rdN_ge hP hl), ← h2, absQ_sign]
end Go.Proofs.YtpdjenblkgaffaaGreatDoor

/- Plain: what a word stands for is a value, and not too great. -/
namespace Go.Proofs.YtpdjenblkgaffaaGreatDoor
open Go.RowKit Vn

theorem absQ_nonneg {x : Rat} (h : 0 ≤ x) : absQ x = x := by
  rw [absQ_eq, if_neg]
  intro h2
  have := num_neg_iff.1 h2
  grind
theorem absQ_neg (x : Rat) : absQ (-x) = absQ x := by
  unfold absQ
  rw [Rat.neg_num, Rat.neg_den, Int.natAbs_neg]
theorem absQ_signed {x : Rat} (h : 0 ≤ x) (s : Bool) : absQ ((if s = true then -1 else 1) * x) = x := by
  cases s
  · rw [if_neg (by decide), Rat.one_mul]; exact absQ_nonneg h
  · rw [if_pos rfl, Rat.neg_mul, Rat.one_mul, absQ_neg]; exact absQ_nonneg h
theorem steps_nonneg (n : Nat) (k : Int) : 0 ≤ ((n : Nat) : Rat) * (2 : Rat) ^ k := by
  have h1 : (0 : Rat) ≤ ((n : Nat) : Rat) := by exact_mod_cast Nat.zero_le n
  exact Rat.mul_nonneg h1 (Rat.le_of_lt (p2_pos k))

theorem two_bias {E : Nat} (hE : 1 ≤ E) : 2 ^ E = 2 * bias E + 2 := by
  unfold bias
  have h1 : 1 ≤ 2 ^ (E - 1) := Nat.pow_pos (by decide)
  have h2 : 2 ^ E = 2 * 2 ^ (E - 1) := by rw [← Nat.pow_succ']; congr 1; omega
  omega

theorem wfr_lt {E P n : Nat} (hP : 1 ≤ P) : wfr E P n < 2 ^ P := by
  have h1 : wr P n < 2 ^ (P - 1) := Nat.mod_lt _ (Nat.pow_pos (by decide))
  have h3 : 2 ^ P = 2 * 2 ^ (P - 1) := by rw [← Nat.pow_succ']; congr 1; omega
  unfold wfr; split <;> omega

theorem wval_abs (E P b n : Nat) : absQ (wval E P b n) = ((wfr E P n : Nat) : Rat) * (2 : Rat) ^ (2 - (b : Int) - P + ((max (wf E P n) 1 - 1 : Nat) : Int)) := by
  unfold wval; exact absQ_signed (steps_nonneg _ _) _

theorem wval_isVal {E P b n : Nat} (hP : 1 ≤ P) : IsVal P b (wval E P b n) :=
  ⟨_, _, by omega, wfr_lt hP, wval_abs E P b n⟩

theorem wval_le {E P n : Nat} (hE : 2 ≤ E) (hP : 1 ≤ P) (h : wf E P n ≠ 2 ^ E - 1) : absQ (wval E P (bias E) n) ≤ grQ P (bias E) := by
  have hf : wf E P n < 2 ^ E := Nat.mod_lt _ (Nat.pow_pos (by decide))
  have h2 := two_bias (E := E) (by omega)
  have hb : 1 ≤ bias E := by
    have : 2 ^ 2 ≤ 2 ^ E := Nat.pow_le_pow_right (by decide) hE
    omega
  rw [wval_abs]
  unfold grQ
  have h1 := wfr_lt (E := E) (P := P) (n := n) hP
  have h3 : (2 : Rat) ^ (2 - (bias E : Int) - P + ((max (wf E P n) 1 - 1 : Nat) : Int)) ≤ (2 : Rat) ^ ((bias E : Int) - P + 1) := p2_mono (by omega)
  have h4 : ((wfr E P n : Nat) : Rat) ≤ ((2 ^ P - 1 : Nat) : Rat) := by rw [Rat.natCast_le_natCast]; omega
  have h0 : (0 : Rat) ≤ ((2 ^ P - 1 : Nat) : Rat) := by exact_mod_cast Nat.zero_le _
  exact Rat.le_trans (Rat.mul_le_mul_of_nonneg_right h4 (Rat.le_of_lt (p2_pos _))) (Rat.mul_le_mul_of_nonneg_left h3 h0)

/-- what is rounded and not too great has its word in the format. -/
theorem rd_fits {E P n f : Nat} (hE : 1 ≤ E) (hP : 1 ≤ P) (hn : n < 2 ^ P) (hf : f = 0 ∨ 2 ^ (P - 1) ≤ n) (hg : ((n : Nat) : Rat) * (2 : Rat) ^ (2 - (bias E : Int) - P + (f : Nat)) ≤ grQ P (bias E)) : n + f * 2 ^ (P - 1) < 2 ^ (E + P - 1) := by
  have hfb : f ≤ 2 * bias E := by
    rcases hf with h | h
    · omega
    · exact f_bound hP h hg
  have h2 := two_bias hE
  have h3 : 2 ^ P = 2 * 2 ^ (P - 1) := by rw [← Nat.pow_succ']; congr 1; omega
  rw [pow_EP hP, h2]
  have h4 : f * 2 ^ (P - 1) ≤ 2 * bias E * 2 ^ (P - 1) := Nat.mul_le_mul_right _ hfb
  have h5 : 2 ^ (P - 1) * (2 * bias E + 2) = 2 * bias E * 2 ^ (P - 1) + 2 * 2 ^ (P - 1) := by rw [Nat.mul_add, Nat.mul_comm, Nat.mul_comm (2 ^ (P - 1)) 2]
  omega

/-- a value that is not too great: its word stands for it, without flags. -/
theorem round_value {E P m : Nat} {q : Rat} {l : Int} (hE : 1 ≤ E) (hP : 1 ≤ P) (hl : IsLog (absQ q) l) (h : IsVal P (bias E) q) (hg : absQ q ≤ grQ P (bias E)) :
    (roundR E P (bias E) m q l).2 = 0 ∧ wval E P (bias E) (roundR E P (bias E) m q l).1 = q := by
  obtain ⟨h1, h2⟩ := round_exact (E := E) (m := m) hl h hg
  refine ⟨by rw [h1], round_exact_val hP hl h hg (rd_fits hE hP (rdN_lt hl) (rdN_ge hP hl) (by rw [← h2]; exact hg))⟩

theorem IsVal.neg {P b : Nat} {q : Rat} (h : IsVal P b q) : IsVal P b (-q) := by
  obtain ⟨m, j, h1, h2, h3⟩ := h
  exact ⟨m, j, h1, h2, by rw [absQ_neg]; exact h3⟩
end Go.Proofs.YtpdjenblkgaffaaGreatDoor

/- Plain: a difference of values, each at most twice the other, is a value. -/
namespace Go.Proofs.YtpdjenblkgaffaaGreatDoor
open Go.RowKit Vn

theorem absQ_int (z : Int) (k : Int) : absQ ((z : Rat) * (2 : Rat) ^ k) = ((z.natAbs : Nat) : Rat) * (2 : Rat) ^ k := by
  rcases Int.le_total 0 z with h | h
  · have e : (z : Rat) = ((z.natAbs : Nat) : Rat) := by
      conv => lhs; rw [show z = ((z.natAbs : Nat) : Int) by omega]
      rfl
    rw [e]; exact absQ_nonneg (steps_nonneg _ _)
  · have e : (z : Rat) = -((z.natAbs : Nat) : Rat) := by
      conv => lhs; rw [show z = -((z.natAbs : Nat) : Int) by omega]
      rw [Rat.intCast_neg]; rfl
    rw [e, Rat.neg_mul, absQ_neg]; exact absQ_nonneg (steps_nonneg _ _)

/-- steps at a finer exponent. -/
theorem finer (m : Nat) {i j : Int} (h : i ≤ j) : ∃ d : Nat, ((m : Nat) : Rat) * (2 : Rat) ^ j = ((m * 2 ^ d : Nat) : Rat) * (2 : Rat) ^ i := by
  obtain ⟨d, rfl⟩ : ∃ d : Nat, j = i + d := ⟨(j - i).toNat, by omega⟩
  exact ⟨d, by rw [p2_add, p2_nat, Rat.natCast_mul]; grind⟩

theorem sub_steps (m n : Nat) (i : Int) : ((m : Nat) : Rat) * (2 : Rat) ^ i - ((n : Nat) : Rat) * (2 : Rat) ^ i = (((m : Int) - (n : Int) : Int) : Rat) * (2 : Rat) ^ i := by
  rw [Rat.intCast_sub]
  show _ = (((m : Nat) : Rat) - ((n : Nat) : Rat)) * _
  grind

theorem sterbenz_half {P b : Nat} {x y : Rat} {m n : Nat} {i j : Int} (hi : 2 - (b : Int) - P ≤ i) (hm : m < 2 ^ P) (hx : x = (m : Rat) * (2 : Rat) ^ i) (hy : y = (n : Rat) * (2 : Rat) ^ j) (hij : i ≤ j) (h : y ≤ x + x) :
    IsVal P b (x - y) ∧ absQ (x - y) ≤ x := by
  obtain ⟨d, hd⟩ := finer n hij
  have e : x - y = (((m : Int) - (n * 2 ^ d : Nat) : Int) : Rat) * (2 : Rat) ^ i := by rw [hx, hy, hd, sub_steps]
  have hle : n * 2 ^ d ≤ m + m := by
    have h1 : ((n * 2 ^ d : Nat) : Rat) * (2 : Rat) ^ i ≤ ((m + m : Nat) : Rat) * (2 : Rat) ^ i := by
      rw [← hd, ← hy, Rat.natCast_add]; rw [hx] at h; grind
    rcases Nat.lt_or_ge (m + m) (n * 2 ^ d) with h2 | h2
    · exfalso
      have h3 : ((m + m : Nat) : Rat) * (2 : Rat) ^ i < ((n * 2 ^ d : Nat) : Rat) * (2 : Rat) ^ i := by
        rw [Rat.mul_lt_mul_right (p2_pos i), Rat.natCast_lt_natCast]; exact h2
      grind
    · exact h2
  have hab : ((m : Int) - (n * 2 ^ d : Nat)).natAbs ≤ m := by omega
  refine ⟨⟨_, i, hi, Nat.lt_of_le_of_lt hab hm, by rw [e, absQ_int]⟩, ?_⟩
  rw [e, absQ_int, hx]
  exact Rat.mul_le_mul_of_nonneg_right (by rw [Rat.natCast_le_natCast]; exact hab) (Rat.le_of_lt (p2_pos i))

/-- STERBENZ: a difference of values, each at most twice the other, is a value, and not above them. -/
theorem sterbenz {P b : Nat} {x y : Rat} (hx : IsVal P b x) (hy : IsVal P b y) (x0 : 0 ≤ x) (y0 : 0 ≤ y) (h1 : x ≤ y + y) (h2 : y ≤ x + x) :
    IsVal P b (x - y) ∧ (absQ (x - y) ≤ x ∨ absQ (x - y) ≤ y) := by
  obtain ⟨m, i, hi, hm, ex⟩ := hx
  obtain ⟨n, j, hj, hn, ey⟩ := hy
  rw [absQ_nonneg x0] at ex
  rw [absQ_nonneg y0] at ey
  rcases Int.le_total i j with h | h
  · obtain ⟨k1, k2⟩ := sterbenz_half hi hm ex ey h h2
    exact ⟨k1, .inl k2⟩
  · obtain ⟨k1, k2⟩ := sterbenz_half hj hn ey ex h h1
    have e : x - y = -(y - x) := by grind
    rw [e]
    exact ⟨k1.neg, .inr (by rw [absQ_neg]; exact k2)⟩
end Go.Proofs.YtpdjenblkgaffaaGreatDoor

/- Plain: rounding to the nearest value. -/
namespace Go.Proofs.YtpdjenblkgaffaaGreatDoor
open Go.RowKit Vn

theorem floor_le_rd (P b : Nat) (l : Int) (q : Rat) : ((rdN P b l q : Nat) : Rat) ≤ rdT P b l q ∧ rdT P b l q < ((rdN P b l q : Nat) : Rat) + 1 := by
  have h1 := Rat.floor_le (rdT P b l q)
  have h2 := Rat.lt_floor_add_one (rdT P b l q)
  rw [rdN_floor] at h1 h2
  refine ⟨h1, ?_⟩
  have e : ((((rdN P b l q : Nat) : Int) + 1 : Int) : Rat) = ((rdN P b l q : Nat) : Rat) + 1 := by rw [Rat.intCast_add]; rfl
  rw [e] at h2; exact h2

/-- the steps to which a size is rounded in the mode 'nearest, even'. -/
abbrev evN (P b : Nat) (q : Rat) (l : Int) : Nat := endN 0 (decide (q.num < 0)) (rdN P b l q) (decide ((rdT P b l q).den = 1)) (cmpQ ((rdT P b l q - (rdN P b l q : Nat)) * 2) 1)

theorem den_one {t : Rat} (h : t.den = 1) : ((t.floor : Int) : Rat) = t := by
  have e : t = ((t.num : Int) : Rat) := by
    have := num_eq t
    rw [h] at this
    rw [this]; grind
  conv => rhs; rw [e]
  rw [e, Rat.floor_intCast]; rfl

theorem evN_half (P b : Nat) (q : Rat) (l : Int) : 2 * (((evN P b q l : Nat) : Rat) - rdT P b l q) ≤ 1 ∧ -1 ≤ 2 * (((evN P b q l : Nat) : Rat) - rdT P b l q) := by
  obtain ⟨h1, h2⟩ := floor_le_rd P b l q
  unfold evN endN
  have hm : modeN 0 (decide (q.num < 0)) = 0 := by unfold modeN mirM; split <;> rfl
  rw [hm]
  by_cases hd : (rdT P b l q).den = 1
  · rw [if_pos (decide_eq_true hd)]
    have := den_one hd
    rw [rdN_floor] at this
    have e : ((rdN P b l q : Nat) : Rat) = rdT P b l q := this
    rw [e]; constructor <;> grind
  · rw [if_neg (by rw [decide_eq_false hd]; decide)]
    have e1 : ((rdN P b l q + 1 : Nat) : Rat) = ((rdN P b l q : Nat) : Rat) + 1 := by rw [Rat.natCast_add]; rfl
    generalize rdT P b l q = t at *
    generalize rdN P b l q = n at *
    unfold cmpQ
    by_cases c1 : (t - (n : Rat)) * 2 < 1
    · rw [if_pos c1]
      have hu : upB 0 (decide (n % 2 = 1)) (-1) = false := by unfold upB; simp
      rw [hu, if_neg (by decide)]
      constructor <;> grind
    · rw [if_neg c1]
      by_cases c2 : 1 < (t - (n : Rat)) * 2
      · rw [if_pos c2]
        have hu : upB 0 (decide (n % 2 = 1)) 1 = true := by unfold upB; simp
        rw [hu, if_pos rfl, e1]
        constructor <;> grind
      · rw [if_neg c2]
        split
        · rw [e1]; constructor <;> grind
        · constructor <;> grind

/-- no number of steps is nearer. -/
theorem evN_near (P b : Nat) (q : Rat) (l : Int) (z : Int) : (z : Rat) ≠ ((evN P b q l : Nat) : Rat) →
    (((evN P b q l : Nat) : Rat) - rdT P b l q ≤ (z : Rat) - rdT P b l q ∧ rdT P b l q - ((evN P b q l : Nat) : Rat) ≤ (z : Rat) - rdT P b l q) ∨
    (((evN P b q l : Nat) : Rat) - rdT P b l q ≤ rdT P b l q - (z : Rat) ∧ rdT P b l q - ((evN P b q l : Nat) : Rat) ≤ rdT P b l q - (z : Rat)) := by
  obtain ⟨h1, h2⟩ := evN_half P b q l
  generalize evN P b q l = N at *
  generalize rdT P b l q = t at *
  intro hne
  have hz : z ≠ (N : Int) := fun h => hne (by rw [h]; rfl)
  rcases Int.lt_or_gt_of_ne hz with h | h
  · right
    have h3 : (z : Rat) + 1 ≤ ((N : Nat) : Rat) := by
      have : ((z + 1 : Int) : Rat) ≤ (((N : Nat) : Int) : Rat) := by rw [Rat.intCast_le_intCast]; omega
      rw [Rat.intCast_add] at this; exact this
    constructor <;> grind
  · left
    have h3 : ((N : Nat) : Rat) + 1 ≤ (z : Rat) := by
      have : ((((N : Nat) : Int) + 1 : Int) : Rat) ≤ ((z : Int) : Rat) := by rw [Rat.intCast_le_intCast]; omega
      rw [Rat.intCast_add] at this; exact this
    constructor <;> grind
end Go.Proofs.YtpdjenblkgaffaaGreatDoor

/- Plain: no value is nearer than the rounded one. -/
namespace Go.Proofs.YtpdjenblkgaffaaGreatDoor
open Go.RowKit Vn

/-- the rounded size. -/
def evV (P b : Nat) (q : Rat) (l : Int) : Rat := ((evN P b q l : Nat) : Rat) * (2 : Rat) ^ (rdK P b l)

theorem absQ_back (P b : Nat) (q : Rat) (l : Int) : absQ q = rdT P b l q * (2 : Rat) ^ (rdK P b l) := by
  unfold rdT; rw [Rat.mul_assoc, p2_cancel, Rat.mul_one]

/-- no whole number of steps is nearer to the size. -/
theorem evV_near (P b : Nat) (q : Rat) (l : Int) (z : Int) : absQ (evV P b q l - absQ q) ≤ absQ ((z : Rat) * (2 : Rat) ^ (rdK P b l) - absQ q) := by
  have hp := p2_pos (rdK P b l)
  have e0 := absQ_back P b q l
  have key : ∀ x : Rat, absQ (x * (2 : Rat) ^ (rdK P b l) - absQ q) = absQ (x - rdT P b l q) * (2 : Rat) ^ (rdK P b l) := by
    intro x
    have e1 : x * (2 : Rat) ^ (rdK P b l) - absQ q = (x - rdT P b l q) * (2 : Rat) ^ (rdK P b l) := by rw [e0]; grind
    rw [e1]
    rcases Rat.le_total (a := 0) (b := x - rdT P b l q) with h | h
    · rw [absQ_nonneg h, absQ_nonneg (Rat.mul_nonneg h (Rat.le_of_lt hp))]
    · have h' : 0 ≤ -(x - rdT P b l q) := by grind
      have e2 : (x - rdT P b l q) * (2 : Rat) ^ (rdK P b l) = -(-(x - rdT P b l q) * (2 : Rat) ^ (rdK P b l)) := by grind
      rw [e2, absQ_neg, absQ_nonneg (Rat.mul_nonneg h' (Rat.le_of_lt hp)), ← absQ_neg, absQ_nonneg h']
  unfold evV
  rw [key, key]
  refine Rat.mul_le_mul_of_nonneg_right ?_ (Rat.le_of_lt hp)
  by_cases hz : (z : Rat) = ((evN P b q l : Nat) : Rat)
  · rw [hz]; exact Rat.le_refl
  · have h := evN_near P b q l z hz
    generalize ((evN P b q l : Nat) : Rat) = N at *
    generalize rdT P b l q = t at *
    have a1 : absQ (N - t) = N - t ∨ absQ (N - t) = t - N := by
      rcases Rat.le_total (a := 0) (b := N - t) with g | g
      · exact .inl (absQ_nonneg g)
      · right; rw [← absQ_neg, absQ_nonneg (by grind)]; grind
    have a2 : absQ ((z : Rat) - t) = (z : Rat) - t ∧ 0 ≤ (z : Rat) - t ∨ absQ ((z : Rat) - t) = t - (z : Rat) ∧ 0 ≤ t - (z : Rat) := by
      rcases Rat.le_total (a := 0) (b := (z : Rat) - t) with g | g
      · exact .inl ⟨absQ_nonneg g, g⟩
      · right; refine ⟨by rw [← absQ_neg, absQ_nonneg (by grind)]; grind, by grind⟩
    rcases a1 with a1 | a1 <;> rcases a2 with ⟨a2, a3⟩ | ⟨a2, a3⟩ <;> rw [a1, a2] <;> rcases h with ⟨b1, b2⟩ | ⟨b1, b2⟩ <;> grind
end Go.Proofs.YtpdjenblkgaffaaGreatDoor

/- Plain: no value is nearer than the rounded one. -/
namespace Go.Proofs.YtpdjenblkgaffaaGreatDoor
open Go.RowKit Vn

theorem absQ_ge (x : Rat) : x ≤ absQ x ∧ -x ≤ absQ x := by
  rcases Rat.le_total (a := 0) (b := x) with g | g
  · rw [absQ_nonneg g]; constructor <;> grind
  · rw [← absQ_neg, absQ_nonneg (by grind)]; constructor <;> grind
theorem absQ_cases (x : Rat) : x = absQ x ∨ x = -absQ x := by
  rcases Rat.le_total (a := 0) (b := x) with g | g
  · rw [absQ_nonneg g]; exact .inl rfl
  · right; rw [← absQ_neg, absQ_nonneg (by grind)]; grind

theorem near_val {P b : Nat} {q x : Rat} {l : Int} (hP : 1 ≤ P) (hl : IsLog (absQ q) l) (hx : IsVal P b x) : absQ (evV P b q l - absQ q) ≤ absQ (x - absQ q) := by
  obtain ⟨m, j, hj, hm, ex⟩ := hx
  rcases Int.lt_or_le j (rdK P b l) with h | h
  · have e : rdK P b l = l - P + 1 := by unfold rdK at *; unfold rdF at *; omega
    have h1 := evV_near P b q l ((2 ^ (P - 1) : Nat) : Int)
    have e2 : ((((2 ^ (P - 1) : Nat) : Int)) : Rat) * (2 : Rat) ^ (rdK P b l) = (2 : Rat) ^ l := by
      show ((2 ^ (P - 1) : Nat) : Rat) * _ = _
      rw [← p2_nat, ← p2_add]; congr 1; omega
    rw [e2] at h1
    have hq := hl.1
    have e3 : absQ ((2 : Rat) ^ l - absQ q) = absQ q - (2 : Rat) ^ l := by
      rw [← absQ_neg, absQ_nonneg (by grind)]; grind
    rw [e3] at h1
    have hxl : absQ x ≤ (2 : Rat) ^ l := by
      rw [ex]
      have a1 : ((m : Nat) : Rat) * (2 : Rat) ^ j ≤ ((2 ^ P : Nat) : Rat) * (2 : Rat) ^ j := Rat.mul_le_mul_of_nonneg_right (by rw [Rat.natCast_le_natCast]; omega) (Rat.le_of_lt (p2_pos j))
      rw [← p2_nat, ← p2_add] at a1
      have a2 : (2 : Rat) ^ ((P : Int) + j) ≤ (2 : Rat) ^ l := p2_mono (by omega)
      exact Rat.le_trans a1 a2
    have h4 := (absQ_ge (x - absQ q)).2
    have h5 := (absQ_ge x).1
    grind
  · obtain ⟨d, hd⟩ := finer m h
    rw [hd] at ex
    rcases absQ_cases x with hs | hs
    · have h1 := evV_near P b q l ((m * 2 ^ d : Nat) : Int)
      have e : ((((m * 2 ^ d : Nat) : Int)) : Rat) * (2 : Rat) ^ (rdK P b l) = x := by rw [hs, ex]; rfl
      rw [e] at h1; exact h1
    · have h1 := evV_near P b q l (-((m * 2 ^ d : Nat) : Int))
      have e : (((-((m * 2 ^ d : Nat) : Int)) : Int) : Rat) * (2 : Rat) ^ (rdK P b l) = x := by
        rw [hs, ex, Rat.intCast_neg]
        show -((m * 2 ^ d : Nat) : Rat) * _ = _
        rw [Rat.neg_mul]
      rw [e] at h1; exact h1
end Go.Proofs.YtpdjenblkgaffaaGreatDoor

/- Plain: what a rounded sum differs by is a value. -/
namespace Go.Proofs.YtpdjenblkgaffaaGreatDoor
open Go.RowKit Vn

theorem IsVal.zero (P b : Nat) : IsVal P b 0 := ⟨0, _, Int.le_refl _, Nat.pow_pos (by decide), by rw [absQ_nonneg Rat.le_refl]; grind⟩

/-- a value is a whole number of its steps, with its sign. -/
theorem signed_steps {x : Rat} {m : Nat} {i : Int} (h : absQ x = (m : Rat) * (2 : Rat) ^ i) : ∃ z : Int, z.natAbs = m ∧ x = (z : Rat) * (2 : Rat) ^ i := by
  rcases absQ_cases x with hs | hs
  · exact ⟨(m : Int), by omega, by rw [hs, h]; rfl⟩
  · refine ⟨-(m : Int), by omega, ?_⟩
    rw [hs, h, Rat.intCast_neg, Rat.neg_mul]; rfl

theorem exact_zero {P b : Nat} {q : Rat} {l : Int} {N : Nat} (h : rdT P b l q = (N : Rat)) : evV P b q l = absQ q := by
  have hd : (rdT P b l q).den = 1 := by rw [h]; rfl
  have hN := rdN_of h
  unfold evV evN endN
  rw [if_pos (decide_eq_true hd), hN, absQ_back P b q l, h]

theorem err_half {P b : Nat} {x y : Rat} {l : Int} (_hP : 1 ≤ P) {m n : Nat} {i j : Int} (hi : 2 - (b : Int) - P ≤ i) (hm : m < 2 ^ P) (ex : absQ x = (m : Rat) * (2 : Rat) ^ i) (ey : absQ y = (n : Rat) * (2 : Rat) ^ j) (hij : i ≤ j)
    (_hl : IsLog (absQ (x + y)) l) (h0 : 0 ≤ x + y) (hle : absQ (x + y - evV P b (x + y) l) ≤ absQ x) : IsVal P b (x + y - evV P b (x + y) l) := by
  obtain ⟨z1, hz1, e1⟩ := signed_steps ex
  obtain ⟨z2, hz2, e2⟩ := signed_steps ey
  obtain ⟨d, rfl⟩ : ∃ d : Nat, j = i + d := ⟨(j - i).toNat, by omega⟩
  have eq1 : x + y = ((z1 + z2 * (2 ^ d : Nat) : Int) : Rat) * (2 : Rat) ^ i := by
    rw [e1, e2, p2_add, p2_nat, Rat.intCast_add, Rat.intCast_mul]
    show _ = ((z1 : Rat) + (z2 : Rat) * ((2 ^ d : Nat) : Rat)) * _
    grind
  rcases Int.lt_or_le (rdK P b l) i with h | h
  · -- the step is finer: nothing is lost
    obtain ⟨f, hf⟩ : ∃ f : Nat, i = rdK P b l + f := ⟨(i - rdK P b l).toNat, by omega⟩
    have e3 : absQ (x + y) = (((z1 + z2 * (2 ^ d : Nat)).natAbs * 2 ^ f : Nat) : Rat) * (2 : Rat) ^ (rdK P b l) := by
      rw [eq1, absQ_int, hf, p2_add, p2_nat, Rat.natCast_mul]; grind
    have e4 : rdT P b l (x + y) = (((z1 + z2 * (2 ^ d : Nat)).natAbs * 2 ^ f : Nat) : Rat) := by
      unfold rdT; rw [e3, Rat.mul_assoc, p2_cancel', Rat.mul_one]
    have e5 := exact_zero e4
    rw [e5, absQ_nonneg h0]
    have : x + y - (x + y) = 0 := by grind
    rw [this]; exact IsVal.zero P b
  · obtain ⟨f, hf⟩ : ∃ f : Nat, rdK P b l = i + f := ⟨(rdK P b l - i).toNat, by omega⟩
    have e3 : evV P b (x + y) l = (((evN P b (x + y) l * 2 ^ f : Nat) : Int) : Rat) * (2 : Rat) ^ i := by
      unfold evV
      rw [hf, p2_add, p2_nat]
      show _ = ((evN P b (x + y) l * 2 ^ f : Nat) : Rat) * _
      rw [Rat.natCast_mul]; grind
    have e4 : x + y - evV P b (x + y) l = ((z1 + z2 * (2 ^ d : Nat) - (evN P b (x + y) l * 2 ^ f : Nat) : Int) : Rat) * (2 : Rat) ^ i := by
      rw [e3, Rat.intCast_sub]
      have e5 : ∀ a b c : Rat, (a - b) * c = a * c - b * c := fun a b c => by grind
      rw [e5, ← eq1]
    rw [e4] at hle ⊢
    rw [absQ_int, ex] at hle
    refine ⟨_, i, hi, ?_, absQ_int _ _⟩
    refine Nat.lt_of_le_of_lt ?_ hm
    rcases Nat.lt_or_ge m (z1 + z2 * (2 ^ d : Nat) - (evN P b (x + y) l * 2 ^ f : Nat) : Int).natAbs with h2 | h2
    · exfalso
      have h3 : ((m : Nat) : Rat) * (2 : Rat) ^ i < (((z1 + z2 * (2 ^ d : Nat) - (evN P b (x + y) l * 2 ^ f : Nat) : Int).natAbs : Nat) : Rat) * (2 : Rat) ^ i := by
        rw [Rat.mul_lt_mul_right (p2_pos i), Rat.natCast_lt_natCast]; exact h2
      grind
    · exact h2
end Go.Proofs.YtpdjenblkgaffaaGreatDoor

/- Plain: what a rounded sum differs by is a value, at most as great as each operand. -/
namespace Go.Proofs.YtpdjenblkgaffaaGreatDoor
open Go.RowKit Vn

theorem err_pos {P b : Nat} {x y : Rat} {l : Int} (hP : 1 ≤ P) (hx : IsVal P b x) (hy : IsVal P b y) (hl : IsLog (absQ (x + y)) l) (h0 : 0 ≤ x + y) :
    IsVal P b (x + y - evV P b (x + y) l) ∧ absQ (x + y - evV P b (x + y) l) ≤ absQ x ∧ absQ (x + y - evV P b (x + y) l) ≤ absQ y := by
  have n1 := near_val hP hl hx
  have n2 := near_val hP hl hy
  rw [absQ_nonneg h0] at n1 n2
  have e0 : absQ (x + y - evV P b (x + y) l) = absQ (evV P b (x + y) l - (x + y)) := by rw [← absQ_neg]; congr 1; grind
  have e1 : absQ (x - (x + y)) = absQ y := by rw [← absQ_neg]; congr 1; grind
  have e2 : absQ (y - (x + y)) = absQ x := by rw [← absQ_neg]; congr 1; grind
  rw [e1, ← e0] at n1
  rw [e2, ← e0] at n2
  refine ⟨?_, n2, n1⟩
  obtain ⟨m, i, hi, hm, ex⟩ := hx
  obtain ⟨n, j, hj, hn, ey⟩ := hy
  rcases Int.le_total i j with h | h
  · exact err_half hP hi hm ex ey h hl h0 n2
  · have ec : x + y = y + x := Rat.add_comm x y
    rw [ec] at hl h0 n1 ⊢
    exact err_half hP hj hn ey ex h hl h0 n1
end Go.Proofs.YtpdjenblkgaffaaGreatDoor

/- Plain: a remainder is a value. -/
namespace Go.Proofs.YtpdjenblkgaffaaGreatDoor
open Go.RowKit Vn

theorem absQ_zero_le (x : Rat) : 0 ≤ absQ x := by have := absQ_ge x; grind
theorem absQ_le_add (x y : Rat) : absQ (x - y) ≤ absQ x + absQ y := by
  have h1 := absQ_ge x
  have h2 := absQ_ge y
  rcases absQ_cases (x - y) with h | h <;> grind
theorem absQ_mul_int (c : Rat) (z : Int) (hz : z ≠ 0) : absQ c ≤ absQ (c * (z : Rat)) := by
  have h0 := absQ_zero_le c
  have hp : ∀ n : Nat, 0 < n → absQ c ≤ absQ (c * (n : Rat)) := by
    intro n hn
    have hn1 : (1 : Rat) ≤ (n : Rat) := by exact_mod_cast hn
    have hn0 : (0 : Rat) ≤ (n : Rat) := by grind
    have e : absQ (c * (n : Rat)) = absQ c * (n : Rat) := by
      rcases Rat.le_total (a := 0) (b := c) with g | g
      · rw [absQ_nonneg g, absQ_nonneg (Rat.mul_nonneg g hn0)]
      · have g' : 0 ≤ -c := by grind
        rw [← absQ_neg c, absQ_nonneg g', ← absQ_neg, ← Rat.neg_mul, absQ_nonneg (Rat.mul_nonneg g' hn0)]
    rw [e]
    have := Rat.mul_le_mul_of_nonneg_left hn1 h0
    rwa [Rat.mul_one] at this
  rcases Int.lt_or_gt_of_ne hz with h | h
  · have e : c * (z : Rat) = -(c * ((z.natAbs : Nat) : Rat)) := by
      have : (z : Rat) = -((z.natAbs : Nat) : Rat) := by
        conv => lhs; rw [show z = -((z.natAbs : Nat) : Int) by omega]
        rw [Rat.intCast_neg]; rfl
      rw [this]; grind
    rw [e, absQ_neg]; exact hp _ (by omega)
  · have e : (z : Rat) = ((z.natAbs : Nat) : Rat) := by
      conv => lhs; rw [show z = ((z.natAbs : Nat) : Int) by omega]
      rfl
    rw [e]; exact hp _ (by omega)

theorem rem_val {P b : Nat} {a c : Rat} (ha : IsVal P b a) (hc : IsVal P b c) (z : Int) (h : absQ (a - c * (z : Rat)) + absQ (a - c * (z : Rat)) ≤ absQ c) : IsVal P b (a - c * (z : Rat)) := by
  have h0 := absQ_zero_le (a - c * (z : Rat))
  have hra : absQ (a - c * (z : Rat)) ≤ absQ a := by
    by_cases hz : z = 0
    · subst hz
      have : a - c * ((0 : Int) : Rat) = a := by
        rw [show ((0 : Int) : Rat) = 0 from rfl]; grind
      rw [this]; exact Rat.le_refl
    · have h1 := absQ_mul_int c z hz
      have h2 := absQ_le_add a (a - c * (z : Rat))
      have e : a - (a - c * (z : Rat)) = c * (z : Rat) := by grind
      rw [e] at h2
      grind
  have hrc : absQ (a - c * (z : Rat)) ≤ absQ c := by grind
  obtain ⟨m, i, hi, hm, ex⟩ := ha
  obtain ⟨n, j, hj, hn, ey⟩ := hc
  obtain ⟨z1, hz1, e1⟩ := signed_steps ex
  obtain ⟨z2, hz2, e2⟩ := signed_steps ey
  have fin : ∀ (k : Int) (N : Nat) (w : Int), 2 - (b : Int) - P ≤ k → N < 2 ^ P → a - c * (z : Rat) = (w : Rat) * (2 : Rat) ^ k → absQ (a - c * (z : Rat)) ≤ (N : Rat) * (2 : Rat) ^ k → IsVal P b (a - c * (z : Rat)) := by
    intro k N w hk hN e hle
    rw [e] at hle ⊢
    rw [absQ_int] at hle
    refine ⟨_, k, hk, ?_, absQ_int _ _⟩
    refine Nat.lt_of_le_of_lt ?_ hN
    rcases Nat.lt_or_ge N w.natAbs with h2 | h2
    · exfalso
      have h3 : ((N : Nat) : Rat) * (2 : Rat) ^ k < ((w.natAbs : Nat) : Rat) * (2 : Rat) ^ k := by
        rw [Rat.mul_lt_mul_right (p2_pos k), Rat.natCast_lt_natCast]; exact h2
      grind
    · exact h2
  rcases Int.le_total i j with hij | hij
  · obtain ⟨d, rfl⟩ : ∃ d : Nat, j = i + d := ⟨(j - i).toNat, by omega⟩
    refine fin i m (z1 - z2 * (2 ^ d : Nat) * z) hi hm ?_ (by rw [← ex]; exact hra)
    rw [e1, e2, p2_add, p2_nat, Rat.intCast_sub, Rat.intCast_mul, Rat.intCast_mul]
    show _ = ((z1 : Rat) - (z2 : Rat) * ((2 ^ d : Nat) : Rat) * (z : Rat)) * _
    grind
  · obtain ⟨d, rfl⟩ : ∃ d : Nat, i = j + d := ⟨(i - j).toNat, by omega⟩
    refine fin j n (z1 * (2 ^ d : Nat) - z2 * z) hj hn ?_ (by rw [← ey]; exact hrc)
    rw [e1, e2, p2_add, p2_nat, Rat.intCast_sub, Rat.intCast_mul, Rat.intCast_mul]
    show _ = ((z1 : Rat) * ((2 ^ d : Nat) : Rat) - (z2 : Rat) * (z : Rat)) * _
    grind
end Go.Proofs.YtpdjenblkgaffaaGreatDoor

/- Plain: the rounded size is a value, and the word of a rounded number stands for it. -/
namespace Go.Proofs.YtpdjenblkgaffaaGreatDoor
open Go.RowKit Vn

theorem endN_le {P b m : Nat} {q : Rat} {l : Int} (hl : IsLog (absQ q) l) (neg is : Bool) (c : Int) : endN m neg (rdN P b l q) is c ≤ 2 ^ P ∧ rdN P b l q ≤ endN m neg (rdN P b l q) is c := by
  have := rdN_lt (P := P) (b := b) hl
  unfold endN
  split
  · omega
  · split <;> omega

/-- a number that is rounded to what is not above the greatest value: the word stands for the rounded size, with the sign. -/
theorem round_val {E P m : Nat} {q : Rat} {l : Int} (_hE : 1 ≤ E) (hP : 1 ≤ P) (hl : IsLog (absQ q) l) (N : Nat)
    (hN : N = endN m (decide (q.num < 0)) (rdN P (bias E) l q) (decide ((rdT P (bias E) l q).den = 1)) (cmpQ ((rdT P (bias E) l q - (rdN P (bias E) l q : Nat)) * 2) 1))
    (hg : ((N : Nat) : Rat) * (2 : Rat) ^ (rdK P (bias E) l) ≤ grQ P (bias E)) (hlt : N + rdF (bias E) l * 2 ^ (P - 1) < 2 ^ (E + P - 1)) :
    wval E P (bias E) (roundR E P (bias E) m q l).1 = (if decide (q.num < 0) = true then -1 else 1) * (((N : Nat) : Rat) * (2 : Rat) ^ (rdK P (bias E) l)) ∧
    (roundR E P (bias E) m q l).2 = endF (decide ((rdT P (bias E) l q).den = 1)) (decide (l < 1 - ((bias E : Nat) : Int))) := by
  have hb := endN_le (P := P) (b := bias E) (m := m) hl (decide (q.num < 0)) (decide ((rdT P (bias E) l q).den = 1)) (cmpQ ((rdT P (bias E) l q - (rdN P (bias E) l q : Nat)) * 2) 1)
  rw [← hN] at hb
  have hk : rdK P (bias E) l = 2 - ((bias E : Nat) : Int) - P + (rdF (bias E) l : Nat) := rfl
  have e : roundR E P (bias E) m q l = (wordN E P (decide (q.num < 0)) N (rdF (bias E) l), endF (decide ((rdT P (bias E) l q).den = 1)) (decide (l < 1 - ((bias E : Nat) : Int)))) := by
    unfold roundR endR
    rw [← hN, if_pos (by rw [← hk]; exact hg)]
  rw [e]
  refine ⟨?_, rfl⟩
  rw [wordN_val hP _ hlt hb.1 (by rcases rdN_ge (b := bias E) hP hl with h | h; exact .inl h; exact .inr (Nat.le_trans h hb.2)), hk]
end Go.Proofs.YtpdjenblkgaffaaGreatDoor
