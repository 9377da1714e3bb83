/- The law FloatsErrs: true at every input. -/
import Derived.Test.YtpjpaiaaimmngaaGreatDoorE01
import Derived.Test.YtpjpaiaaimmngaaGreatDoorE02
import Derived.Test.YtpjpaiaaimmngaaGreatDoorM48
namespace Go.Proofs.YtpjpaiaaimmngaaGreatDoor
open Go.RowKit Vn

theorem sum_good (E P : Int) (i j : Nat) (hz : (valueZ E P i).2 = 0 ∧ (valueZ E P j).2 = 0) :
    ∃ (r : Nat) (fl : Int) (v : Rat) (z : Int), W128 r ∧ (∀ w, Tabs w → Calls Tryz.prog 14 #[.agg #[.int .i64 E, .int .i64 P], .int .i64 0, Word i, Word j] w fun e w' => e = .returned (.tuple #[Word r, .int .i64 fl, .int .i64 0]) ∧ Ext w w') ∧
      (∀ w, Calls Tryz.prog 12 #[.agg #[.int .i64 E, .int .i64 P], Word r] w (NumErr v z w)) ∧
      ((z = 4 ∧ fl = 20) ∨ (z = 0 ∧ SmQ 5000 v ∧ (fl = 0 ↔ v = (valueZ E P i).1 + (valueZ E P j).1) ∧ ∀ (x : Value) (w : World), NumV w x ((valueZ E P i).1 + (valueZ E P j).1 - v) → Calls Tryz.prog 15 #[.agg #[.int .i64 E, .int .i64 P], x] w fun e w' => e = .returned (.bool true) ∧ Ext w w')) := by
  obtain ⟨hF, hi2, ki, ea⟩ := valueZ_ok hz.1
  obtain ⟨_, hj2, kj, eb⟩ := valueZ_ok hz.2
  rw [ea, eb]
  clear ea eb hz
  obtain ⟨e, rfl⟩ := Int.eq_ofNat_of_zero_le (show 0 ≤ E by unfold Fmt at hF; omega)
  obtain ⟨p, rfl⟩ := Int.eq_ofNat_of_zero_le (show 0 ≤ P by unfold Fmt at hF; omega)
  simp only [Int.toNat_natCast] at *
  have hE : 2 ≤ e := by unfold Fmt at hF; omega
  have hP : 1 ≤ p := by unfold Fmt at hF; omega
  have hEP : e + p ≤ 124 := by unfold Fmt at hF; omega
  have si := wvalK_sm hF ki
  have sj := wvalK_sm hF kj
  obtain ⟨l, hl⟩ := log_there (wvalK e p (bias e) i + wvalK e p (bias e) j)
  obtain ⟨r, hr⟩ : ∃ r, r = addR e p (bias e) 0 (wkind e p i) (wn e p i) (wvalK e p (bias e) i) (wkind e p j) (wn e p j) (wvalK e p (bias e) j) l := ⟨_, rfl⟩
  obtain ⟨rlt, rv⟩ := errs_ok hE hP ki kj hl r hr
  have r8 : W128 r.1 := Nat.lt_of_lt_of_le rlt (Nat.pow_le_pow_right (n := 2) (j := 128) (by decide) (by omega))
  have hadd : ∀ w, Tabs w → Calls Tryz.prog 14 #[.agg #[.int .i64 (e : Nat), .int .i64 (p : Nat)], .int .i64 0, Word i, Word j] w fun x w' => x = .returned (.tuple #[Word r.1, .int .i64 (r.2 : Nat), .int .i64 0]) ∧ Ext w w' := fun w hT => by
    have k1 := kind_nat ki
    have k2 := kind_nat kj
    have := Add_good e p 0 i j _ _ l 5000 w hF (by omega) hi2 hj2 k1.1 k2.1 k1.2 k2.2 si sj (by decide) hl hT
    rw [← k1.1, ← k2.1, ← hr] at this
    exact this
  have hval : ∀ w, Calls Tryz.prog 12 #[.agg #[.int .i64 (e : Nat), .int .i64 (p : Nat)], Word r.1] w (NumErr (valueR e p r.1).1 (valueR e p r.1).2 w) := fun w => Value_good e p r.1 w hF r8
  rcases rv with ⟨r2, rv⟩ | ⟨v, rv, hv, hg, hfl⟩
  · rw [rv] at hval
    exact ⟨r.1, _, 0, 4, r8, hadd, hval, .inl ⟨rfl, by rw [r2]; rfl⟩⟩
  · have hvs : SmQ 5000 v := by
      have hz : (valueZ (e : Nat) (p : Nat) r.1) = (v, 0) := by
        unfold valueZ; rw [if_pos hF]; exact rv
      have := valueZ_sm (e : Nat) (p : Nat) r.1
      rwa [hz] at this
    rw [rv] at hval
    refine ⟨r.1, _, v, 0, r8, hadd, hval, .inr ⟨rfl, hvs, ?_, fun x w hx => ?_⟩⟩
    · rw [← hfl]; omega
    · exact Has_true e p x _ 16000 w hF hx (((SmQ.add si sj).sub hvs).mono (by decide)) (by decide) hv hg

theorem errs_c (E P M : Int) (i0 i1 j0 j1 : Nat) (c0 c1 : Int) (w : World) (hi0 : i0 < 18446744073709551616) (hi1 : i1 < 18446744073709551616) (hj0 : j0 < 18446744073709551616) (hj1 : j1 < 18446744073709551616) (hw : WM w) (hT : Tabs w) :
   Calls Tryz.prog 4 #[.agg #[.int .i64 E, .int .i64 P, .int .i64 M, .int .u64 (i0 : Nat), .int .u64 (i1 : Nat), .int .u64 (j0 : Nat), .int .u64 (j1 : Nat), .int .u64 c0, .int .u64 c1]] w fun e w' => TruePost w e w' := by
  have ei := word_parts i0 i1 hi1
  have ej := word_parts j0 j1 hj1
  obtain ⟨i, hi⟩ : ∃ i, i = i0 * 18446744073709551616 + i1 := ⟨_, rfl⟩
  obtain ⟨j, hj⟩ : ∃ j, j = j0 * 18446744073709551616 + j1 := ⟨_, rfl⟩
  rw [← hi] at ei
  rw [← hj] at ej
  have wi : W128 i := by show i < 2 ^ 128; omega
  have wj : W128 j := by show j < 2 ^ 128; omega
  refine errs_x E P M i0 i1 j0 j1 c0 c1 (valueZ E P i).1 (valueZ E P j).1 (valueZ E P i).2 (valueZ E P j).2 w (valueZ_cases E P i) (valueZ_cases E P j) (hid fun w => ?_) (hid fun w => ?_) (valueZ_sm E P i) (valueZ_sm E P j) hw hT (hid fun hz => ?_)
  · rw [← ei]; exact Value_c E P i w wi
  · rw [← ej]; exact Value_c E P j w wj
  · obtain ⟨r, fl, v, z, r8, hs, hv, hc⟩ := sum_good E P i j hz
    obtain ⟨r0, r1, er⟩ := Word.shape r
    refine ⟨r0, r1, fl, v, z, fun w hT => ?_, fun w => ?_, hc⟩
    · rw [← ei, ← ej, ← er]; exact hs w hT
    · rw [← er]; exact hv w
end Go.Proofs.YtpjpaiaaimmngaaGreatDoor
