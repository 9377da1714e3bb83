/- floats: exactly. -/
import Derived.Test.YtopmjkkjlagfcaaGreatDoorW38
import Derived.Test.YtopmjkkjlagfcaaGreatDoorW33
import Derived.Test.YtopmjkkjlagfcaaGreatDoorW35
namespace Go.Proofs.YtopmjkkjlagfcaaGreatDoor
open Go.RowKit Vn
end Go.Proofs.YtopmjkkjlagfcaaGreatDoor

/- Plain: the nearest whole number of a quotient, and what remains. -/
namespace Go.Proofs.YtopmjkkjlagfcaaGreatDoor
open Go.RowKit Vn
theorem SmQ.mul {K L : Nat} {q r : Rat} (h : SmQ K q) (k : SmQ L r) : SmQ (K + L) (q * r) := by
 have e1 : q.num.natAbs * r.num.natAbs < 2 ^ (K + L) := by
  rw [Nat.pow_add]; exact Nat.mul_lt_mul_of_lt_of_le h.1 (Nat.le_of_lt k.1) (Nat.pow_pos (by decide))
 have e2 : q.den * r.den < 2 ^ (K + L) := by
  rw [Nat.pow_add]; exact Nat.mul_lt_mul_of_lt_of_le h.2 (Nat.le_of_lt k.2) (Nat.pow_pos (by decide))
 rw [Rat.mul_def']
 exact SmQ.mk _ _ (Nat.mul_ne_zero q.den_nz r.den_nz) (by rw [Int.natAbs_mul]; exact e1) e2
theorem SmQ.pos {K : Nat} {q : Rat} (h : SmQ K q) : 0 < K := by
 rcases Nat.eq_zero_or_pos K with e | e
 ·subst e
  have h1 : q.den < 2 ^ 0 := h.2
  have := q.den_pos
  omega
 ·exact e
theorem SmQ.floor {K : Nat} {q : Rat} (h : SmQ K q) : SmQ K ((q.floor : Int) : Rat) := by
 refine SmQ.int h.pos ?_
 rw [Rat.floor_def]
 exact Nat.lt_of_le_of_lt (Int.natAbs_ediv_le_natAbs _ _) h.1
theorem kind_zero {E P b n : Nat} (h : wkind E P n ≤ 2) : wkind E P n = 1 ↔ wvalK E P b n = 0 := by
 have hne := fin_wf h
 constructor
 ·intro h1
  unfold wvalK
  rw [if_neg (by omega), if_neg (by omega), if_neg (by omega)]
 ·intro h0
  rw [wvalK_fin h] at h0
  have h2 : absQ (wval E P b n) = 0 := by rw [h0]; exact absQ_nonneg Rat.le_refl
  rw [wval_abs] at h2
  have h3 : wfr E P n = 0 := by
   rcases Nat.eq_zero_or_pos (wfr E P n) with e | e
   ·exact e
   ·exfalso
    have h4 : (0 : Rat) < ((wfr E P n : Nat) : Rat) := by exact_mod_cast e
    have h5 := Rat.mul_pos h4 (p2_pos (2 - (b : Int) - P + ((max (wf E P n) 1 - 1 : Nat) : Int)))
    grind
  have hp : 0 < 2 ^ (P - 1) := Nat.pow_pos (by decide)
  unfold wfr at h3
  unfold wkind
  rw [if_neg hne]
  by_cases hf : wf E P n = 0
  ·rw [if_pos hf] at h3
   rw [if_pos ⟨hf, h3⟩]
  ·rw [if_neg hf] at h3; omega
end Go.Proofs.YtopmjkkjlagfcaaGreatDoor

/- exact, floats: the logarithm of the size of a number that is not 0. -/
namespace Go.Proofs.YtopmjkkjlagfcaaGreatDoor
open Go.RowKit Vn
end Go.Proofs.YtopmjkkjlagfcaaGreatDoor

/- floats: Has, of a number that is a value. -/
namespace Go.Proofs.YtopmjkkjlagfcaaGreatDoor
open Go.RowKit Vn
end Go.Proofs.YtopmjkkjlagfcaaGreatDoor

/- Plain: which numbers are values of a wider format; a word is what its value is rounded to. -/
namespace Go.Proofs.YtopmjkkjlagfcaaGreatDoor
open Go.RowKit Vn
theorem ltle {a b c : Rat} (h : a < b) (k : b ≤ c) : a < c := by grind
theorem lelt {a b c : Rat} (h : a ≤ b) (k : b < c) : a < c := by grind
theorem bias_pos {E : Nat} (hE : 2 ≤ E) : 1 ≤ bias E := by
 have h2 := two_bias (E := E) (by omega)
 have : 2 ^ 2 ≤ 2 ^ E := Nat.pow_le_pow_right (by decide) hE
 omega
theorem log_steps {P b f N : Nat} {q : Rat} {l : Int} (hP : 1 ≤ P) (hl : IsLog (absQ q) l) (e : absQ q = (N : Rat) * (2 : Rat) ^ (2 - (b : Int) - P + (f : Nat))) (hN : N < 2 ^ P) (hf : f = 0 ∨ 2 ^ (P - 1) ≤ N) : rdF b l = f ∧ rdN P b l q = N := by
 have u : l < (P : Int) + (2 - (b : Int) - P + (f : Nat)) := by
  rw [← p2_lt_iff, p2_add, p2_nat]
  refine lelt hl.1 ?_
  rw [e, Rat.mul_lt_mul_right (p2_pos _), Rat.natCast_lt_natCast]
  exact hN
 have hF : rdF b l = f := by
  unfold rdF
  rcases hf with h | h
  ·omega
  ·have h1 : ((P - 1 : Nat) : Int) + (2 - (b : Int) - P + (f : Nat)) < l + 1 := by
    rw [← p2_lt_iff, p2_add, p2_nat]
    refine lelt ?_ hl.2
    rw [e]
    refine Rat.mul_le_mul_of_nonneg_right ?_ (Rat.le_of_lt (p2_pos _))
    rw [Rat.natCast_le_natCast]; exact h
   omega
 refine ⟨hF, ?_⟩
 refine rdN_of ?_
 unfold rdT rdK
 rw [hF, e, Rat.mul_assoc, p2_cancel', Rat.mul_one]
theorem word_back {E P m n : Nat} {l : Int} (hE : 2 ≤ E) (hP : 1 ≤ P) (hn : n < 2 ^ (E + P)) (hk : wkind E P n = 2) (hl : IsLog (absQ (wval E P (bias E) n)) l) : (roundR E P (bias E) m (wval E P (bias E) n) l).1 = n := by
 have k2 : wkind E P n ≤ 2 := by omega
 have hfin := fin_wf k2
 have hp : 0 < 2 ^ (P - 1) := Nat.pow_pos (by decide)
 have hpp : 2 ^ P = 2 * 2 ^ (P - 1) := by rw [← Nat.pow_succ']; congr 1; omega
 have hr : wr P n < 2 ^ (P - 1) := Nat.mod_lt _ hp
 obtain ⟨h1, _⟩ := round_exact (E := E) (m := m) hl (wval_isVal hP) (wval_le hE hP hfin)
 have hN : wfr E P n < 2 ^ P := wfr_lt hP
 have hff : max (wf E P n) 1 - 1 = 0 ∨ 2 ^ (P - 1) ≤ wfr E P n := by
  by_cases h0 : wf E P n = 0
  ·left; omega
  ·right; unfold wfr; rw [if_neg h0]; omega
 obtain ⟨e1, e2⟩ := log_steps hP hl (wval_abs E P (bias E) n) hN hff
 have hpos : 0 < wfr E P n := by
  unfold wfr
  split
  ·rename_i h0
   unfold wkind at hk
   rw [if_neg hfin] at hk
   by_cases h3 : wf E P n = 0 ∧ wr P n = 0
   ·rw [if_pos h3] at hk; omega
   ·have : wr P n ≠ 0 := fun e => h3 ⟨h0, e⟩
    omega
  ·omega
 have hsz : (0 : Rat) < ((wfr E P n : Nat) : Rat) * (2 : Rat) ^ (2 - (bias E : Int) - P + ((max (wf E P n) 1 - 1 : Nat) : Int)) := Rat.mul_pos (by exact_mod_cast hpos) (p2_pos _)
 have hs : decide ((wval E P (bias E) n).num < 0) = wn E P n := by
  unfold wval
  cases wn E P n
  ·rw [decide_eq_false]
   rw [num_neg_iff, if_neg (by decide), Rat.one_mul]
   exact Rat.not_lt.2 (Rat.le_of_lt hsz)
  ·rw [decide_eq_true]
   rw [num_neg_iff, if_pos rfl]
   grind
 rw [h1, hs, e1, e2]
 have hsum : wfr E P n + (max (wf E P n) 1 - 1) * 2 ^ (P - 1) = n % 2 ^ (E + P - 1) := by
  have e3 : n % 2 ^ (E + P - 1) = wr P n + wf E P n * 2 ^ (P - 1) := by
   unfold wr wf
   rw [pow_EP hP, Nat.mod_mul, Nat.mul_comm]
  rw [e3]
  unfold wfr
  split
  ·rename_i h0; rw [h0]; simp
  ·rename_i h0
   have : wf E P n = (max (wf E P n) 1 - 1) + 1 := by omega
   conv => rhs; rw [this, Nat.add_mul]
   omega
 have hlt : wfr E P n + (max (wf E P n) 1 - 1) * 2 ^ (P - 1) < 2 ^ (E + P - 1) := by rw [hsum]; exact Nat.mod_lt _ (Nat.pow_pos (by decide))
 show wordN E P (wn E P n) (wfr E P n) (max (wf E P n) 1 - 1) = n
 rw [wordN_eq _ hlt, hsum]
 have h2 : 2 ^ (E + P) = 2 * 2 ^ (E + P - 1) := by rw [← Nat.pow_succ']; congr 1; omega
 have hq : n / 2 ^ (E + P - 1) < 2 := by rw [Nat.div_lt_iff_lt_mul (Nat.pow_pos (by decide))]; omega
 have hdm := Nat.div_add_mod n (2 ^ (E + P - 1))
 unfold wn
 by_cases h0 : n / 2 ^ (E + P - 1) = 0
 ·rw [h0] at hdm
  simp only [h0]
  simp
  omega
 ·have h1 : n / 2 ^ (E + P - 1) = 1 := Nat.le_antisymm (Nat.le_of_lt_succ hq) (Nat.pos_of_ne_zero h0)
  rw [h1] at hdm
  simp only [h1]
  simp
  omega
theorem zero_back {E P n : Nat} (hP : 1 ≤ P) (hn : n < 2 ^ (E + P)) (hE : 1 ≤ E) (hk : wkind E P n = 1) : sgb E P (wn E P n) = n := by
 have hfin := fin_wf (show wkind E P n ≤ 2 by omega)
 unfold wkind at hk
 rw [if_neg hfin] at hk
 by_cases h3 : wf E P n = 0 ∧ wr P n = 0
 ·have e3 : n % 2 ^ (E + P - 1) = wr P n + wf E P n * 2 ^ (P - 1) := by
   unfold wr wf
   rw [pow_EP hP, Nat.mod_mul, Nat.mul_comm]
  rw [h3.1, h3.2] at e3
  have h2 : 2 ^ (E + P) = 2 * 2 ^ (E + P - 1) := by rw [← Nat.pow_succ']; congr 1; omega
  have hq : n / 2 ^ (E + P - 1) < 2 := by rw [Nat.div_lt_iff_lt_mul (Nat.pow_pos (by decide))]; omega
  have hdm := Nat.div_add_mod n (2 ^ (E + P - 1))
  unfold sgb wn
  by_cases h0 : n / 2 ^ (E + P - 1) = 0
  ·rw [h0] at hdm
   simp only [h0]
   simp
   omega
  ·have h1 : n / 2 ^ (E + P - 1) = 1 := Nat.le_antisymm (Nat.le_of_lt_succ hq) (Nat.pos_of_ne_zero h0)
   rw [h1] at hdm
   simp only [h1]
   simp
   omega
 ·rw [if_neg h3] at hk; omega
end Go.Proofs.YtopmjkkjlagfcaaGreatDoor

/- floats: valid formats; with of no words. -/
namespace Go.Proofs.YtopmjkkjlagfcaaGreatDoor
open Go.RowKit Vn
theorem fmt_bounds {E P : Nat} (hF : Fmt E P) : (2 ≤ E ∧ E ≤ 11) ∧ (2 ≤ P ∧ P ≤ 113) ∧ bias E ≤ 1023 ∧ E + P ≤ 124 ∧ 1 ≤ bias E := by
 have hE : 2 ≤ E ∧ E ≤ 11 := by unfold Fmt at hF; omega
 have hP : 2 ≤ P ∧ P ≤ 113 := by unfold Fmt at hF; omega
 have hb : bias E ≤ 1023 := by
  have : 2 ^ (E - 1) ≤ 1024 := Nat.pow_le_pow_right (n := 2) (j := 10) (by decide) (by omega)
  unfold bias; omega
 exact ⟨hE, hP, hb, by omega, bias_pos hE.1⟩
theorem with_nil (E P : Nat) (w : World) (hF : Fmt E P) : Calls Tryz.prog 41 #[.agg #[.int .i64 (E : Nat), .int .i64 (P : Nat)], .int .i64 0, .slice none 0 0] w fun e w' => e = .returned (.tuple #[.agg #[.int .i64 (E : Nat), .int .i64 (P : Nat), .int .i64 0, .int .i64 (bias E : Nat)], .int .i64 0]) ∧ Ext w w' := by
 have := with_good E P 0 _ [] w (by decide) hF (WSl.nil w)
 rwa [show withRes E P 0 [] = .tuple #[.agg #[.int .i64 (E : Nat), .int .i64 (P : Nat), .int .i64 0, .int .i64 (bias E : Nat)], .int .i64 0] from by unfold withRes; rw [if_pos (fun x hx => by simp at hx)]; rfl] at this
end Go.Proofs.YtopmjkkjlagfcaaGreatDoor
