/- Plain: what the parts of a word of n steps are. -/
import Derived.Test.YtopmjkkjlagfcaaGreatDoorW34
namespace Go.Proofs.YtopmjkkjlagfcaaGreatDoor
open Go.RowKit Vn
theorem pow_EP {E P : Nat} (hP : 1 ≤ P) : 2 ^ (E + P - 1) = 2 ^ (P - 1) * 2 ^ E := by rw [← Nat.pow_add]; congr 1; omega
theorem wordN_eq {E P : Nat} (neg : Bool) {n f : Nat} (h : n + f * 2 ^ (P - 1) < 2 ^ (E + P - 1)) : wordN E P neg n f = n + f * 2 ^ (P - 1) + 2 ^ (E + P - 1) * (if neg = true then 1 else 0) := by
 unfold wordN sgb
 rw [Nat.or_comm]
 cases neg
 ·simp
 ·simp only [if_true]
  have := or_add (b := 1) h
  rw [Nat.mul_one] at this
  rw [this, Nat.mul_one]
theorem wordN_wf {E P : Nat} (hP : 1 ≤ P) (neg : Bool) {n f : Nat} (h : n + f * 2 ^ (P - 1) < 2 ^ (E + P - 1)) : wf E P (wordN E P neg n f) = (n + f * 2 ^ (P - 1)) / 2 ^ (P - 1) := by
 rw [wordN_eq neg h]
 unfold wf
 have hp : 0 < 2 ^ (P - 1) := Nat.pow_pos (by decide)
 have h2 : (n + f * 2 ^ (P - 1)) / 2 ^ (P - 1) < 2 ^ E := by
  rw [Nat.div_lt_iff_lt_mul hp, Nat.mul_comm (2 ^ E), ← pow_EP hP]; exact h
 rw [pow_EP hP, Nat.mul_assoc, Nat.add_mul_div_left _ _ hp, Nat.add_mul_mod_self_left, Nat.mod_eq_of_lt h2]
theorem wordN_wr {E P : Nat} (hP : 1 ≤ P) (neg : Bool) {n f : Nat} (h : n + f * 2 ^ (P - 1) < 2 ^ (E + P - 1)) : wr P (wordN E P neg n f) = n % 2 ^ (P - 1) := by
 rw [wordN_eq neg h]
 unfold wr
 rw [pow_EP hP, Nat.mul_assoc, Nat.add_mul_mod_self_left, Nat.add_mul_mod_self_right]
theorem wordN_wn {E P : Nat} (neg : Bool) {n f : Nat} (h : n + f * 2 ^ (P - 1) < 2 ^ (E + P - 1)) : wn E P (wordN E P neg n f) = neg := by
 rw [wordN_eq neg h]
 unfold wn
 have hp : 0 < 2 ^ (E + P - 1) := Nat.pow_pos (by decide)
 rw [Nat.add_mul_div_left _ _ hp, Nat.div_eq_of_lt h]
 cases neg <;> simp
theorem wordN_val {E P b : Nat} (hP : 1 ≤ P) (neg : Bool) {n f : Nat} (h : n + f * 2 ^ (P - 1) < 2 ^ (E + P - 1)) (hn : n ≤ 2 ^ P) (hf : f = 0 ∨ 2 ^ (P - 1) ≤ n) :
  wval E P b (wordN E P neg n f) = (if neg = true then -1 else 1) * (((n : Nat) : Rat) * (2 : Rat) ^ (2 - (b : Int) - P + (f : Nat))) := by
 unfold wval wfr
 rw [wordN_wn neg h, wordN_wf hP neg h, wordN_wr hP neg h]
 have hp : 0 < 2 ^ (P - 1) := Nat.pow_pos (by decide)
 have hPP : 2 ^ P = 2 * 2 ^ (P - 1) := by rw [← Nat.pow_succ']; congr 1; omega
 have hd : (n + f * 2 ^ (P - 1)) / 2 ^ (P - 1) = n / 2 ^ (P - 1) + f := Nat.add_mul_div_right _ _ hp
 rw [hd]
 congr 1
 rcases Nat.lt_or_ge n (2 ^ (P - 1)) with h1 | h1
 ·obtain rfl : f = 0 := by omega
  rw [Nat.div_eq_of_lt h1, Nat.mod_eq_of_lt h1]
  simp
 ·rcases Nat.lt_or_ge n (2 ^ P) with h2 | h2
  ·have e1 : n / 2 ^ (P - 1) = 1 := by
    rw [Nat.div_eq_iff hp]; omega
   have e2 : n % 2 ^ (P - 1) + 2 ^ (P - 1) = n := by
    have := Nat.div_add_mod n (2 ^ (P - 1)); rw [e1] at this; omega
   rw [e1, if_neg (by omega), e2]
   congr 2; omega
  ·have e0 : n = 2 ^ (P - 1) * 2 := by omega
   have e1 : n / 2 ^ (P - 1) = 2 := by rw [e0, Nat.mul_div_cancel_left _ hp]
   have e2 : n % 2 ^ (P - 1) = 0 := by rw [e0, Nat.mul_mod_right]
   rw [e1, e2, if_neg (by omega), Nat.zero_add, e0, Rat.natCast_mul]
   have e3 : (2 - (b : Int) - P + ((max (2 + f) 1 - 1 : Nat) : Int)) = 2 - (b : Int) - P + (f : Nat) + 1 := by omega
   rw [e3, p2_succ]
   grind
end Go.Proofs.YtopmjkkjlagfcaaGreatDoor

/- Plain: a number that is a value is rounded to itself. -/
namespace Go.Proofs.YtopmjkkjlagfcaaGreatDoor
open Go.RowKit Vn
def IsVal (P b : Nat) (q : Rat) : Prop := ∃ (m : Nat) (j : Int), 2 - (b : Int) - P ≤ j ∧ m < 2 ^ P ∧ absQ q = (m : Rat) * (2 : Rat) ^ j
theorem isVal_step {P b : Nat} {q : Rat} {l : Int} (hl : IsLog (absQ q) l) (h : IsVal P b q) : ∃ N : Nat, rdT P b l q = (N : Rat) ∧ absQ q = (N : Rat) * (2 : Rat) ^ (rdK P b l) := by
 obtain ⟨m, j, h1, h2, h3⟩ := h
 have hk : rdK P b l ≤ j := by
  rcases Int.lt_or_le j (rdK P b l) with h4 | h4
  ·have e : rdK P b l = l - P + 1 := by unfold rdK at *; unfold rdF at *; omega
   have h5 : absQ q < (2 : Rat) ^ ((P : Int) + j) := by
    rw [h3, p2_add, Rat.mul_lt_mul_right (p2_pos j), p2_nat, Rat.natCast_lt_natCast]; exact h2
   have h6 : (2 : Rat) ^ l < (2 : Rat) ^ ((P : Int) + j) := by have := hl.1; grind
   rw [p2_lt_iff] at h6
   omega
  ·exact h4
 obtain ⟨d, hd⟩ : ∃ d : Nat, j = rdK P b l + d := ⟨(j - rdK P b l).toNat, by omega⟩
 have e : absQ q = ((m * 2 ^ d : Nat) : Rat) * (2 : Rat) ^ (rdK P b l) := by
  rw [h3, hd, p2_add, p2_nat, Rat.natCast_mul]; grind
 refine ⟨m * 2 ^ d, ?_, e⟩
 unfold rdT
 rw [e, Rat.mul_assoc, p2_cancel', Rat.mul_one]
theorem rdN_of {P b : Nat} {l : Int} {q : Rat} {N : Nat} (h : rdT P b l q = (N : Rat)) : rdN P b l q = N := by
 unfold rdN
 rw [h, show ((N : Nat) : Rat) = (((N : Nat) : Int) : Rat) from rfl, Rat.floor_intCast]; rfl
theorem round_exact {E P b m : Nat} {q : Rat} {l : Int} (hl : IsLog (absQ q) l) (h : IsVal P b q) (hg : absQ q ≤ grQ P b) :
  roundR E P b m q l = (wordN E P (decide (q.num < 0)) (rdN P b l q) (rdF b l), 0) ∧ absQ q = (rdN P b l q : Rat) * (2 : Rat) ^ (2 - (b : Int) - P + (rdF b l : Nat)) := by
 obtain ⟨N, h1, h2⟩ := isVal_step hl h
 have hN := rdN_of h1
 have hk : rdK P b l = 2 - (b : Int) - P + (rdF b l : Nat) := rfl
 rw [hk] at h2
 rw [hN]
 refine ⟨?_, h2⟩
 unfold roundR endR
 have hd : (rdT P b l q).den = 1 := by rw [h1]; rfl
 have e1 : endN m (decide (q.num < 0)) (rdN P b l q) (decide ((rdT P b l q).den = 1)) (cmpQ ((rdT P b l q - (rdN P b l q : Nat)) * 2) 1) = N := by
  unfold endN; rw [hd, hN]; simp
 have e2 : endF (decide ((rdT P b l q).den = 1)) (decide (l < 1 - (b : Int))) = 0 := by unfold endF; rw [hd]; simp
 rw [e1, e2, if_pos (by rw [← h2]; exact hg)]
end Go.Proofs.YtopmjkkjlagfcaaGreatDoor

/- Plain: what a word stands for is a value, and not too great. -/
namespace Go.Proofs.YtopmjkkjlagfcaaGreatDoor
open Go.RowKit Vn
theorem absQ_nonneg {x : Rat} (h : 0 ≤ x) : absQ x = x := by
 rw [absQ_eq, if_neg]
 intro h2
 have := num_neg_iff.1 h2
 grind
theorem absQ_neg (x : Rat) : absQ (-x) = absQ x := by
 unfold absQ
 rw [Rat.neg_num, Rat.neg_den, Int.natAbs_neg]
theorem absQ_signed {x : Rat} (h : 0 ≤ x) (s : Bool) : absQ ((if s = true then -1 else 1) * x) = x := by
 cases s
 ·rw [if_neg (by decide), Rat.one_mul]; exact absQ_nonneg h
 ·rw [if_pos rfl, Rat.neg_mul, Rat.one_mul, absQ_neg]; exact absQ_nonneg h
theorem steps_nonneg (n : Nat) (k : Int) : 0 ≤ ((n : Nat) : Rat) * (2 : Rat) ^ k := by
 have h1 : (0 : Rat) ≤ ((n : Nat) : Rat) := by exact_mod_cast Nat.zero_le n
 exact Rat.mul_nonneg h1 (Rat.le_of_lt (p2_pos k))
theorem two_bias {E : Nat} (hE : 1 ≤ E) : 2 ^ E = 2 * bias E + 2 := by
 unfold bias
 have h1 : 1 ≤ 2 ^ (E - 1) := Nat.pow_pos (by decide)
 have h2 : 2 ^ E = 2 * 2 ^ (E - 1) := by rw [← Nat.pow_succ']; congr 1; omega
 omega
theorem wfr_lt {E P n : Nat} (hP : 1 ≤ P) : wfr E P n < 2 ^ P := by
 have h1 : wr P n < 2 ^ (P - 1) := Nat.mod_lt _ (Nat.pow_pos (by decide))
 have h3 : 2 ^ P = 2 * 2 ^ (P - 1) := by rw [← Nat.pow_succ']; congr 1; omega
 unfold wfr; split <;> omega
theorem wval_abs (E P b n : Nat) : absQ (wval E P b n) = ((wfr E P n : Nat) : Rat) * (2 : Rat) ^ (2 - (b : Int) - P + ((max (wf E P n) 1 - 1 : Nat) : Int)) := by
 unfold wval; exact absQ_signed (steps_nonneg _ _) _
theorem wval_isVal {E P b n : Nat} (hP : 1 ≤ P) : IsVal P b (wval E P b n) :=
 ⟨_, _, by omega, wfr_lt hP, wval_abs E P b n⟩
theorem wval_le {E P n : Nat} (hE : 2 ≤ E) (hP : 1 ≤ P) (h : wf E P n ≠ 2 ^ E - 1) : absQ (wval E P (bias E) n) ≤ grQ P (bias E) := by
 have hf : wf E P n < 2 ^ E := Nat.mod_lt _ (Nat.pow_pos (by decide))
 have h2 := two_bias (E := E) (by omega)
 have hb : 1 ≤ bias E := by
  have : 2 ^ 2 ≤ 2 ^ E := Nat.pow_le_pow_right (by decide) hE
  omega
 rw [wval_abs]
 unfold grQ
 have h1 := wfr_lt (E := E) (P := P) (n := n) hP
 have h3 : (2 : Rat) ^ (2 - (bias E : Int) - P + ((max (wf E P n) 1 - 1 : Nat) : Int)) ≤ (2 : Rat) ^ ((bias E : Int) - P + 1) := p2_mono (by omega)
 have h4 : ((wfr E P n : Nat) : Rat) ≤ ((2 ^ P - 1 : Nat) : Rat) := by rw [Rat.natCast_le_natCast]; omega
 have h0 : (0 : Rat) ≤ ((2 ^ P - 1 : Nat) : Rat) := by exact_mod_cast Nat.zero_le _
 exact Rat.le_trans (Rat.mul_le_mul_of_nonneg_right h4 (Rat.le_of_lt (p2_pos _))) (Rat.mul_le_mul_of_nonneg_left h3 h0)
theorem rd_fits {E P n f : Nat} (hE : 1 ≤ E) (hP : 1 ≤ P) (hn : n < 2 ^ P) (hf : f = 0 ∨ 2 ^ (P - 1) ≤ n) (hg : ((n : Nat) : Rat) * (2 : Rat) ^ (2 - (bias E : Int) - P + (f : Nat)) ≤ grQ P (bias E)) : n + f * 2 ^ (P - 1) < 2 ^ (E + P - 1) := by
 have hfb : f ≤ 2 * bias E := by
  rcases hf with h | h
  ·omega
  ·exact f_bound hP h hg
 have h2 := two_bias hE
 have h3 : 2 ^ P = 2 * 2 ^ (P - 1) := by rw [← Nat.pow_succ']; congr 1; omega
 rw [pow_EP hP, h2]
 have h4 : f * 2 ^ (P - 1) ≤ 2 * bias E * 2 ^ (P - 1) := Nat.mul_le_mul_right _ hfb
 have h5 : 2 ^ (P - 1) * (2 * bias E + 2) = 2 * bias E * 2 ^ (P - 1) + 2 * 2 ^ (P - 1) := by rw [Nat.mul_add, Nat.mul_comm, Nat.mul_comm (2 ^ (P - 1)) 2]
 omega
theorem IsVal.neg {P b : Nat} {q : Rat} (h : IsVal P b q) : IsVal P b (-q) := by
 obtain ⟨m, j, h1, h2, h3⟩ := h
 exact ⟨m, j, h1, h2, by rw [absQ_neg]; exact h3⟩
end Go.Proofs.YtopmjkkjlagfcaaGreatDoor

/- Plain: a difference of values, each at most twice the other, is a value. -/
namespace Go.Proofs.YtopmjkkjlagfcaaGreatDoor
open Go.RowKit Vn
end Go.Proofs.YtopmjkkjlagfcaaGreatDoor

/- Plain: rounding to the nearest value. -/
namespace Go.Proofs.YtopmjkkjlagfcaaGreatDoor
open Go.RowKit Vn
end Go.Proofs.YtopmjkkjlagfcaaGreatDoor

/- Plain: no value is nearer than the rounded one. -/
namespace Go.Proofs.YtopmjkkjlagfcaaGreatDoor
open Go.RowKit Vn
end Go.Proofs.YtopmjkkjlagfcaaGreatDoor

/- Plain: no value is nearer than the rounded one. -/
namespace Go.Proofs.YtopmjkkjlagfcaaGreatDoor
open Go.RowKit Vn
end Go.Proofs.YtopmjkkjlagfcaaGreatDoor

/- Plain: what a rounded sum differs by is a value. -/
namespace Go.Proofs.YtopmjkkjlagfcaaGreatDoor
open Go.RowKit Vn
theorem IsVal.zero (P b : Nat) : IsVal P b 0 := ⟨0, _, Int.le_refl _, Nat.pow_pos (by decide), by rw [absQ_nonneg Rat.le_refl]; grind⟩
end Go.Proofs.YtopmjkkjlagfcaaGreatDoor

/- Plain: what a rounded sum differs by is a value, at most as great as each operand. -/
namespace Go.Proofs.YtopmjkkjlagfcaaGreatDoor
open Go.RowKit Vn
end Go.Proofs.YtopmjkkjlagfcaaGreatDoor

/- Plain: a remainder is a value. -/
namespace Go.Proofs.YtopmjkkjlagfcaaGreatDoor
open Go.RowKit Vn
end Go.Proofs.YtopmjkkjlagfcaaGreatDoor

/- Plain: the rounded size is a value, and the word of a rounded number stands for it. -/
namespace Go.Proofs.YtopmjkkjlagfcaaGreatDoor
open Go.RowKit Vn
theorem endN_le {P b m : Nat} {q : Rat} {l : Int} (hl : IsLog (absQ q) l) (neg is : Bool) (c : Int) : endN m neg (rdN P b l q) is c ≤ 2 ^ P ∧ rdN P b l q ≤ endN m neg (rdN P b l q) is c := by
 have := rdN_lt (P := P) (b := b) hl
 unfold endN
 split
 ·omega
 ·split <;> omega
end Go.Proofs.YtopmjkkjlagfcaaGreatDoor
