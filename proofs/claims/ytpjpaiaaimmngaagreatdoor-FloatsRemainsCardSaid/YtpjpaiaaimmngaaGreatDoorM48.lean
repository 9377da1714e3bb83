/- The law FloatsDiffers: true at every input. -/
import Derived.Test.YtpjpaiaaimmngaaGreatDoorM40
import Derived.Test.YtpjpaiaaimmngaaGreatDoorM47
namespace Go.Proofs.YtpjpaiaaimmngaaGreatDoor
open Go.RowKit Vn

/-- two halves of a word. -/
theorem word_parts (h l : Nat) (hl : l < 18446744073709551616) : Word (h * 18446744073709551616 + l) = .agg #[.int .u64 h, .int .u64 l] := by
  unfold Word
  have e1 : (h * 18446744073709551616 + l) / 18446744073709551616 = h := by omega
  have e2 : (h * 18446744073709551616 + l) % 18446744073709551616 = l := by omega
  rw [e1, e2]
theorem kind_nat {E P n : Nat} (h : wkind E P n ≤ 2) : wkind E P n = ((wkind E P n).toNat : Int) ∧ (wkind E P n).toNat ≤ 3 := by
  have := wkind_cases E P n
  omega

theorem differs_good (E P M : Int) (i j : Nat) (hz : (valueZ E P i).2 = 0 ∧ (valueZ E P j).2 = 0) (a0 : 0 ≤ (valueZ E P i).1) (b0 : 0 ≤ (valueZ E P j).1)
    (h1 : (valueZ E P i).1 ≤ (valueZ E P j).1 + (valueZ E P j).1) (h2 : (valueZ E P j).1 ≤ (valueZ E P i).1 + (valueZ E P i).1) (m0 : 0 ≤ M) (m4 : M ≤ 4) :
    ∃ r : Nat, W128 r ∧ (∀ w, Tabs w → Calls Tryz.prog 11 #[.agg #[.int .i64 E, .int .i64 P], .int .i64 M, Word i, Word j] w fun e w' => e = .returned (.tuple #[Word r, .int .i64 0, .int .i64 0]) ∧ Ext w w') ∧
      (∀ w, Calls Tryz.prog 12 #[.agg #[.int .i64 E, .int .i64 P], Word r] w (NumErr ((valueZ E P i).1 - (valueZ E P j).1) 0 w)) := by
  obtain ⟨hF, hi2, ki, ea⟩ := valueZ_ok hz.1
  obtain ⟨_, hj2, kj, eb⟩ := valueZ_ok hz.2
  rw [ea, eb]
  rw [ea] at a0 h1 h2
  rw [eb] at b0 h1 h2
  clear ea eb hz
  obtain ⟨e, rfl⟩ := Int.eq_ofNat_of_zero_le (show 0 ≤ E by unfold Fmt at hF; omega)
  obtain ⟨p, rfl⟩ := Int.eq_ofNat_of_zero_le (show 0 ≤ P by unfold Fmt at hF; omega)
  obtain ⟨m, rfl⟩ := Int.eq_ofNat_of_zero_le m0
  simp only [Int.toNat_natCast] at *
  have hE : 2 ≤ e := by unfold Fmt at hF; omega
  have hP : 1 ≤ p := by unfold Fmt at hF; omega
  have hEP : e + p ≤ 124 := by unfold Fmt at hF; omega
  obtain ⟨l, hl⟩ := log_there (wvalK e p (bias e) i + -wvalK e p (bias e) j)
  obtain ⟨r, hr⟩ : ∃ r, r = addR e p (bias e) m (wkind e p i) (wn e p i) (wvalK e p (bias e) i) (wkind e p j) (!(wn e p j)) (-(wvalK e p (bias e) j)) l := ⟨_, rfl⟩
  obtain ⟨r2, rlt, rv⟩ := differs_ok hE hP ki kj a0 b0 h1 h2 hl r hr
  have r8 : W128 r.1 := Nat.lt_of_lt_of_le rlt (Nat.pow_le_pow_right (n := 2) (j := 128) (by decide) (by omega))
  refine ⟨r.1, r8, fun w hT => ?_, fun w => ?_⟩
  · have k1 := kind_nat ki
    have k2 := kind_nat kj
    have := Sub_good e p m i j _ _ l 5000 w hF (by omega) hi2 hj2 k1.1 k2.1 k1.2 k2.2 (wvalK_sm hF ki) (wvalK_sm hF kj) (by decide) hl hT
    rw [← k1.1, ← k2.1, ← hr] at this
    unfold RoundPost at this
    rw [r2] at this
    exact this
  · have := Value_good e p r.1 w hF r8
    rw [rv] at this
    exact this

theorem differs_c (E P M : Int) (i0 i1 j0 j1 : Nat) (c0 c1 : Int) (w : World) (hi0 : i0 < 18446744073709551616) (hi1 : i1 < 18446744073709551616) (hj0 : j0 < 18446744073709551616) (hj1 : j1 < 18446744073709551616) (hw : WM w) (hT : Tabs w) :
   Calls Tryz.prog 3 #[.agg #[.int .i64 E, .int .i64 P, .int .i64 M, .int .u64 (i0 : Nat), .int .u64 (i1 : Nat), .int .u64 (j0 : Nat), .int .u64 (j1 : Nat), .int .u64 c0, .int .u64 c1]] w fun e w' => TruePost w e w' := by
  have ei := word_parts i0 i1 hi1
  have ej := word_parts j0 j1 hj1
  obtain ⟨i, hi⟩ : ∃ i, i = i0 * 18446744073709551616 + i1 := ⟨_, rfl⟩
  obtain ⟨j, hj⟩ : ∃ j, j = j0 * 18446744073709551616 + j1 := ⟨_, rfl⟩
  rw [← hi] at ei
  rw [← hj] at ej
  have wi : W128 i := by show i < 2 ^ 128; omega
  have wj : W128 j := by show j < 2 ^ 128; omega
  refine differs_x E P M i0 i1 j0 j1 c0 c1 (valueZ E P i).1 (valueZ E P j).1 (valueZ E P i).2 (valueZ E P j).2 w (valueZ_cases E P i) (valueZ_cases E P j) (hid fun w => ?_) (hid fun w => ?_) (valueZ_sm E P i) (valueZ_sm E P j) hw hT (hid fun hz a0 b0 h1 h2 m0 m4 => ?_)
  · rw [← ei]; exact Value_c E P i w wi
  · rw [← ej]; exact Value_c E P j w wj
  · obtain ⟨r, r8, hs, hv⟩ := differs_good E P M i j hz a0 b0 h1 h2 m0 m4
    obtain ⟨r0, r1, er⟩ := Word.shape r
    refine ⟨r0, r1, fun w hT => ?_, fun w => ?_⟩
    · rw [← ei, ← ej, ← er]; exact hs w hT
    · rw [← er]; exact hv w
end Go.Proofs.YtpjpaiaaimmngaaGreatDoor
