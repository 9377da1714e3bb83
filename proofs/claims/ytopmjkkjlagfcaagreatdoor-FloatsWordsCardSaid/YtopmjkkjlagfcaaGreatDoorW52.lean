/- The law FloatsWords: true at every input. -/
import Derived.Test.YtopmjkkjlagfcaaGreatDoorW43
import Derived.Test.YtopmjkkjlagfcaaGreatDoorW47
import Derived.Test.YtopmjkkjlagfcaaGreatDoorW51
namespace Go.Proofs.YtopmjkkjlagfcaaGreatDoor
open Go.RowKit Vn
theorem word_halves (h l : Nat) (hl : l < 18446744073709551616) : Word (h * 18446744073709551616 + l) = .agg #[.int .u64 h, .int .u64 l] := by
 unfold Word
 have e1 : (h * 18446744073709551616 + l) / 18446744073709551616 = h := by omega
 have e2 : (h * 18446744073709551616 + l) % 18446744073709551616 = l := by omega
 rw [e1, e2]
theorem tail_of {E P i j p0 p1 : Nat} (hF : Fmt E P) (hi : i < 2 ^ (E + P)) (hj : j < 2 ^ (E + P)) (ki : wkind E P i ≤ 2) (kj : wkind E P j ≤ 2) (h : wvalK E P (bias E) i ≤ wvalK E P (bias E) j)
  (ep : Word j = .agg #[.int .u64 (p0 : Nat), .int .u64 (p1 : Nat)]) : Tail E P (wvalK E P (bias E) i) (wvalK E P (bias E) j) p0 p1 := by
 obtain ⟨hE, hP, hb2, hEP, hb1⟩ := fmt_bounds hF
 have hp := countV_pos (by omega) ki kj h
 refine ⟨_, _, fun u v w hu hv hT => Count_words E P i j u v w hF hi hj ki kj h hu hv hT, ?_⟩
 by_cases hb : 4611686018427387904 < countV E P i j
 ·left; rw [if_pos hb]
 ·right
  rw [if_neg hb, if_neg hb]
  obtain ⟨q0, q1, eq⟩ := Word.shape (if wvalK E P (bias E) j = 0 then 0 else j)
  refine ⟨rfl, hp, by omega, q0, q1, fun u w hu hT => ?_, fun h0 => ?_, fun h0 => ?_⟩
  ·have := Nth_words E P i j u w hF hi hj ki kj h (by omega) hu hT
   rwa [eq] at this
  ·rw [if_pos h0] at eq
   have : (0 : Int) = (q0 : Nat) ∧ (0 : Int) = (q1 : Nat) := by simpa [Word] using eq
   omega
  ·rw [if_neg h0, ep] at eq
   have : ((p0 : Nat) : Int) = (q0 : Nat) ∧ ((p1 : Nat) : Int) = (q1 : Nat) := by simpa using eq
   omega
theorem word_ne {n k a0 a1 b0 b1 : Nat} (h : n ≠ k) (e1 : Word n = .agg #[.int .u64 (a0 : Nat), .int .u64 (a1 : Nat)]) (e2 : Word k = .agg #[.int .u64 (b0 : Nat), .int .u64 (b1 : Nat)]) : a0 ≠ b0 ∨ (a0 = b0 ∧ a1 ≠ b1) := by
 by_cases h0 : a0 = b0
 ·right
  refine ⟨h0, fun h1 => h ?_⟩
  have e3 : Word n = Word k := by rw [e1, e2, h0, h1]
  exact Word.inj e3
 ·left; exact h0
theorem words_c (E P M : Int) (i0 i1 j0 j1 : Nat) (c0 c1 : Int) (w : World) (hi0 : i0 < 18446744073709551616) (hi1 : i1 < 18446744073709551616) (hj0 : j0 < 18446744073709551616) (hj1 : j1 < 18446744073709551616) (hw : WM w) (hT : Tabs w) :
  Calls Tryz.prog 8 #[.agg #[.int .i64 E, .int .i64 P, .int .i64 M, .int .u64 (i0 : Nat), .int .u64 (i1 : Nat), .int .u64 (j0 : Nat), .int .u64 (j1 : Nat), .int .u64 c0, .int .u64 c1]] w fun e w' => TruePost w e w' := by
 have ei := word_halves i0 i1 hi1
 have ej := word_halves j0 j1 hj1
 obtain ⟨i, hi⟩ : ∃ i, i = i0 * 18446744073709551616 + i1 := ⟨_, rfl⟩
 obtain ⟨j, hj⟩ : ∃ j, j = j0 * 18446744073709551616 + j1 := ⟨_, rfl⟩
 rw [← hi] at ei
 rw [← hj] at ej
 have wi : W128 i := by show i < 2 ^ 128; omega
 have wj : W128 j := by show j < 2 ^ 128; omega
 by_cases hF : Fmt E P
 case neg =>
  refine words_bad E P M i0 i1 j0 j1 c0 c1 2 rfl w (hid fun w _ => ?_) hw hT
  rw [← ei]; exact Decode_bad E P i w hF
 obtain ⟨e, rfl⟩ := Int.eq_ofNat_of_zero_le (show 0 ≤ E by unfold Fmt at hF; omega)
 obtain ⟨p, rfl⟩ := Int.eq_ofNat_of_zero_le (show 0 ≤ P by unfold Fmt at hF; omega)
 obtain ⟨hE, hP, hb2, hEP, hb1⟩ := fmt_bounds hF
 have CD := fun w hT => Decode_good e p i w hF wi hT
 unfold decodeR at CD
 by_cases hn : i < 2 ^ (e + p)
 case neg =>
  rw [if_neg hn, ei] at CD
  exact words_bad e p M i0 i1 j0 j1 c0 c1 6 rfl w (hid CD) hw hT
 rw [if_pos hn, ei] at CD
 have CE := fun w hw hT => EncDec e p i w hF hn hw hT
 rw [ei] at CE
 have hVB : ∀ w, Calls Tryz.prog 18 #[.agg #[.int .i64 (e : Nat), .int .i64 (p : Nat)], .agg #[.int .u64 (j0 : Nat), .int .u64 (j1 : Nat)]] w (NumErr (valueZ e p j).1 (valueZ e p j).2 w) := fun w => by
  rw [← ej]; exact Value_c e p j w wj
 have hVA : ∀ w, Calls Tryz.prog 18 #[.agg #[.int .i64 (e : Nat), .int .i64 (p : Nat)], .agg #[.int .u64 (i0 : Nat), .int .u64 (i1 : Nat)]] w (NumErr (valueZ e p i).1 (valueZ e p i).2 w) := fun w => by
  rw [← ei]; exact Value_c e p i w wi
 have hzb := valueZ_cases e p j
 by_cases hk : 4 ≤ wkind e p i
 ·have CU := fun w => Next_nan_u e p i w hF hn hk
  rw [ei] at CU
  rcases wkind_cases e p i with h | h | h | h | h
  ·omega
  ·rw [h] at CD CE
   exact words_nan e p M i0 i1 j0 j1 c0 c1 4 (.inl rfl) _ _ w (hid CD) (hid CE) (hid CU) hw hT
  ·rw [h] at CD CE
   exact words_nan e p M i0 i1 j0 j1 c0 c1 5 (.inr rfl) _ _ w (hid CD) (hid CE) (hid CU) hw hT
  ·omega
  ·omega
 have hk3 : wkind e p i ≤ 3 := by omega
 have CU := fun w => Next_up e p i w hF hn hk3
 rw [ei] at CU
 obtain ⟨u0, u1, eu⟩ := Word.shape (nextU e p i)
 rw [eu] at CU
 obtain ⟨b0, b1, eb⟩ := Word.shape (nextD e p (nextU e p i))
 have sa := valueZ_sm e p i
 have sb := valueZ_sm e p j
 have HL : ∀ i0 i1 j0 j1 : Nat, Word i = .agg #[.int .u64 (i0 : Nat), .int .u64 (i1 : Nat)] → Word j = .agg #[.int .u64 (j0 : Nat), .int .u64 (j1 : Nat)] → ((valueZ e p i).2 = 0 ∧ (valueZ e p j).2 = 0) →
   (0 < cmpQ (valueZ e p i).1 (valueZ e p j).1 → Tail e p (valueZ e p j).1 (valueZ e p i).1 i0 i1) ∧ (¬ 0 < cmpQ (valueZ e p i).1 (valueZ e p j).1 → Tail e p (valueZ e p i).1 (valueZ e p j).1 j0 j1) := fun i0 i1 j0 j1 ei ej hz => by
  obtain ⟨_, hi2, ki, ev⟩ := valueZ_ok hz.1
  obtain ⟨_, hj2, kj, ew⟩ := valueZ_ok hz.2
  simp only [Int.toNat_natCast] at hi2 ki ev hj2 kj ew
  rw [ev, ew]
  refine ⟨fun h => tail_of hF hj2 hn kj ki ?_ ei, fun h => tail_of hF hn hj2 ki kj ?_ ej⟩
  ·unfold cmpQ at h
   split at h
   ·omega
   ·split at h
    ·apply Rat.le_of_lt; assumption
    ·omega
  ·unfold cmpQ at h
   split at h
   ·apply Rat.le_of_lt; assumption
   ·split at h
    ·omega
    ·rename_i h1; exact Rat.not_lt.1 h1
 have hza := valueZ_cases e p i
 by_cases htop : i = infw e p false
 ·have hku : wkind e p i = 3 := by rw [kind_inf (by omega), ← rank_abs, htop, infw_rankZ (by omega) (by omega)]; simp
  have hng : wn e p i = false := by
   have h1 := infw_rankZ (E := e) (P := p) (by omega) (by omega) false
   rw [← htop, rankZ_mag] at h1
   have := infZ_pos (E := e) (P := p) (by omega)
   cases h2 : wn e p i
   ·rfl
   ·rw [h2, if_pos rfl, if_neg (by decide)] at h1; omega
  have hup : nextU e p i = i := by rw [htop, up_top]
  rw [hup] at eu eb
  have CB := fun w => Next_dn e p i w hF hn hk3
  rw [eb, eu] at CB
  rw [ei] at eu
  have hu : ((i0 : Nat) : Int) = (u0 : Nat) ∧ ((i1 : Nat) : Int) = (u1 : Nat) := by simpa using eu
  exact words_main e p M i0 i1 j0 j1 c0 c1 _ _ _ w (hid CD) (hid CE) b0 b1 u0 u1 (hid CU) (hid CB) (.inr (.inr (.inr ⟨hku, hng, by omega, by omega⟩))) _ _ _ _ hza hzb (hid hVA) (hid hVB) sa sb (hid fun h => (HL i0 i1 j0 j1 ei ej h).1) (hid fun h => (HL i0 i1 j0 j1 ei ej h).2) hw hT
 obtain ⟨ul, ur, uk, _⟩ := up_facts (E := e) (P := p) (by omega) (by omega) hn hk3 htop
 have hne := word_ne (up_ne (E := e) (P := p) (by omega) (by omega) hn hk3 htop) eu ei
 have CB := fun w => Next_dn e p (nextU e p i) w hF ul uk
 rw [eb, eu] at CB
 have hback : wkind e p i ≠ 1 → i0 = b0 ∧ i1 = b1 := fun h0 => by
  rw [down_up (by omega) (by omega) hn hk3 htop h0, ei] at eb
  have hu : ((i0 : Nat) : Int) = (b0 : Nat) ∧ ((i1 : Nat) : Int) = (b1 : Nat) := by simpa using eb
  omega
 refine words_main e p M i0 i1 j0 j1 c0 c1 _ _ _ w (hid CD) (hid CE) b0 b1 u0 u1 (hid CU) (hid CB) ?_ _ _ _ _ hza hzb (hid hVA) (hid hVB) sa sb (hid fun h => (HL i0 i1 j0 j1 ei ej h).1) (hid fun h => (HL i0 i1 j0 j1 ei ej h).2) hw hT
 rcases wkind_cases e p i with h | h | h | h | h
 ·refine .inr (.inr (.inl ⟨h, ?_, hback (by omega), hne⟩))
  have h1 := inf_back (E := e) (P := p) (by omega) (by omega) hn h
  cases h2 : wn e p i
  ·rw [h2] at h1; exact absurd h1.symm htop
  ·rfl
 ·omega
 ·omega
 ·exact .inl ⟨h, hne⟩
 ·exact .inr (.inl ⟨h, hback (by omega), hne⟩)
end Go.Proofs.YtopmjkkjlagfcaaGreatDoor
