/- Plain: what a sum that is rounded to the nearest value differs by is a value. -/
import Derived.Test.YtpjpaiaaimmngaaGreatDoorM40
import Derived.Test.YtpjpaiaaimmngaaGreatDoorM34
import Derived.Test.YtpjpaiaaimmngaaGreatDoorM36
namespace Go.Proofs.YtpjpaiaaimmngaaGreatDoor
open Go.RowKit Vn

theorem mode0 (s : Bool) : modeN 0 s = 0 := by unfold modeN mirM; split <;> rfl
theorem evN_neg (P b : Nat) (q : Rat) (l : Int) : evN P b (-q) l = evN P b q l := by
  have hT : rdT P b l (-q) = rdT P b l q := by unfold rdT; rw [absQ_neg]
  have hN : rdN P b l (-q) = rdN P b l q := by unfold rdN; rw [hT]
  unfold evN endN
  rw [hT, hN, mode0, mode0]
theorem evV_neg (P b : Nat) (q : Rat) (l : Int) : evV P b (-q) l = evV P b q l := by unfold evV; rw [evN_neg]

theorem err_sum {P b : Nat} {x y : Rat} {l : Int} (hP : 1 ≤ P) (hx : IsVal P b x) (hy : IsVal P b y) (hl : IsLog (absQ (x + y)) l) :
    IsVal P b (x + y - (if decide ((x + y).num < 0) = true then -1 else 1) * evV P b (x + y) l) ∧ absQ (x + y - (if decide ((x + y).num < 0) = true then -1 else 1) * evV P b (x + y) l) ≤ absQ x := by
  by_cases h0 : 0 ≤ x + y
  · have hn : ¬ (x + y).num < 0 := fun h => absurd h0 (Rat.not_le.2 (num_neg_iff.1 h))
    rw [if_neg (by simp only [decide_eq_true_eq]; exact hn), Rat.one_mul]
    obtain ⟨k1, k2, _⟩ := err_pos hP hx hy hl h0
    exact ⟨k1, k2⟩
  · have hn : (x + y).num < 0 := num_neg_iff.2 (Rat.not_le.1 h0)
    rw [if_pos (decide_eq_true hn)]
    have e : -x + -y = -(x + y) := by grind
    have hl2 : IsLog (absQ (-x + -y)) l := by rw [e, absQ_neg]; exact hl
    have h02 : 0 ≤ -x + -y := by grind
    obtain ⟨k1, k2, _⟩ := err_pos hP hx.neg hy.neg hl2 h02
    rw [e, evV_neg] at k1 k2
    have e2 : x + y - -1 * evV P b (x + y) l = -(-(x + y) - evV P b (x + y) l) := by grind
    rw [e2, absQ_neg]
    rw [absQ_neg] at k2
    exact ⟨k1.neg, k2⟩

/-- rounded up to a power of two, it has its word as well. -/
theorem end_fits {E P n f : Nat} (hE : 1 ≤ E) (hP : 1 ≤ P) (hn : n ≤ 2 ^ P) (hf : f = 0 ∨ 2 ^ (P - 1) ≤ n) (hg : ((n : Nat) : Rat) * (2 : Rat) ^ (2 - (bias E : Int) - P + (f : Nat)) ≤ grQ P (bias E)) : n + f * 2 ^ (P - 1) < 2 ^ (E + P - 1) := by
  rcases Nat.lt_or_ge n (2 ^ P) with h | h
  · exact rd_fits hE hP h hf hg
  · obtain rfl : n = 2 ^ P := by omega
    have h1 : (2 : Rat) ^ ((P : Int) + (2 - (bias E : Int) - P + (f : Nat))) ≤ grQ P (bias E) := by rw [p2_add, p2_nat]; exact hg
    have h2 := grQ_lt P (bias E)
    have h3 : (2 : Rat) ^ ((P : Int) + (2 - (bias E : Int) - P + (f : Nat))) < (2 : Rat) ^ ((bias E : Int) + 1) := by grind
    rw [p2_lt_iff] at h3
    have h4 := two_bias hE
    have h5 : 2 ^ P = 2 * 2 ^ (P - 1) := by rw [← Nat.pow_succ']; congr 1; omega
    rw [pow_EP hP, h4, h5]
    have h6 : f + 2 ≤ 2 * bias E := by omega
    have h7 : (f + 2) * 2 ^ (P - 1) ≤ 2 * bias E * 2 ^ (P - 1) := Nat.mul_le_mul_right _ h6
    have h8 : 2 ^ (P - 1) * (2 * bias E + 2) = 2 * bias E * 2 ^ (P - 1) + 2 * 2 ^ (P - 1) := by rw [Nat.mul_add, Nat.mul_comm, Nat.mul_comm (2 ^ (P - 1)) 2]
    have h9 : (f + 2) * 2 ^ (P - 1) = f * 2 ^ (P - 1) + 2 * 2 ^ (P - 1) := by rw [Nat.add_mul]
    have hp : 0 < 2 ^ (P - 1) := Nat.pow_pos (by decide)
    omega

theorem inf_word (E P : Nat) (s : Bool) : infw E P s = wordN E P s 0 (2 ^ E - 1) := by unfold infw wordN; rw [Nat.zero_add]
theorem inf_ok {E P : Nat} (hP : 1 ≤ P) (s : Bool) : infw E P s < 2 ^ (E + P) ∧ valueR E P (infw E P s) = (0, 4) := by
  have hp : 0 < 2 ^ (P - 1) := Nat.pow_pos (by decide)
  have he : 0 < 2 ^ E := Nat.pow_pos (by decide)
  have h0 : 0 + (2 ^ E - 1) * 2 ^ (P - 1) < 2 ^ (E + P - 1) := by
    rw [Nat.zero_add, pow_EP hP, Nat.mul_comm (2 ^ (P - 1))]
    exact Nat.mul_lt_mul_of_pos_right (by omega) hp
  have hlt : infw E P s < 2 ^ (E + P) := by rw [inf_word]; exact wordN_lt (by omega) s h0
  refine ⟨hlt, ?_⟩
  have e1 : wf E P (infw E P s) = 2 ^ E - 1 := by rw [inf_word, wordN_wf hP s h0, Nat.zero_add, Nat.mul_div_cancel _ hp]
  have e2 : wr P (infw E P s) = 0 := by rw [inf_word, wordN_wr hP s h0, Nat.zero_mod]
  have e3 : wkind E P (infw E P s) = 3 := by unfold wkind; rw [if_pos e1, if_pos e2]
  unfold valueR
  rw [if_neg (fun k => k hlt), if_pos (by rw [e3]; decide)]

theorem errs_ok {E P i j : Nat} {l : Int} (hE : 2 ≤ E) (hP : 1 ≤ P) (ki : wkind E P i ≤ 2) (kj : wkind E P j ≤ 2)
    (hl : wvalK E P (bias E) i + wvalK E P (bias E) j ≠ 0 → IsLog (absQ (wvalK E P (bias E) i + wvalK E P (bias E) j)) l) (r : Nat × Nat)
    (hr : r = addR E P (bias E) 0 (wkind E P i) (wn E P i) (wvalK E P (bias E) i) (wkind E P j) (wn E P j) (wvalK E P (bias E) j) l) :
    r.1 < 2 ^ (E + P) ∧ ((r.2 = 20 ∧ valueR E P r.1 = (0, 4)) ∨ (∃ v, valueR E P r.1 = (v, 0) ∧ IsVal P (bias E) (wvalK E P (bias E) i + wvalK E P (bias E) j - v) ∧
      absQ (wvalK E P (bias E) i + wvalK E P (bias E) j - v) ≤ grQ P (bias E) ∧ (r.2 = 0 ↔ v = wvalK E P (bias E) i + wvalK E P (bias E) j))) := by
  have va : IsVal P (bias E) (wvalK E P (bias E) i) := by rw [wvalK_fin ki]; exact wval_isVal hP
  have vb : IsVal P (bias E) (wvalK E P (bias E) j) := by rw [wvalK_fin kj]; exact wval_isVal hP
  have ga : absQ (wvalK E P (bias E) i) ≤ grQ P (bias E) := by rw [wvalK_fin ki]; exact wval_le hE hP (fin_wf ki)
  generalize wvalK E P (bias E) i = a at *
  generalize wvalK E P (bias E) j = b at *
  unfold addR at hr
  rw [if_neg (by omega), if_neg (by omega), if_neg (by omega)] at hr
  by_cases hd : a + b = 0
  · rw [if_neg (fun k => k hd)] at hr
    have key : ∀ s, r = (sgb E P s, 0) → r.1 < 2 ^ (E + P) ∧ ((r.2 = 20 ∧ valueR E P r.1 = (0, 4)) ∨ (∃ v, valueR E P r.1 = (v, 0) ∧ IsVal P (bias E) (a + b - v) ∧ absQ (a + b - v) ≤ grQ P (bias E) ∧ (r.2 = 0 ↔ v = a + b))) := fun s hs => by
      obtain ⟨k1, k2⟩ := sgb_ok hE hP s
      rw [hs]
      refine ⟨k1, .inr ⟨0, k2, ?_, ?_, ?_⟩⟩
      · rw [hd]; have : (0 : Rat) - 0 = 0 := by grind
        rw [this]; exact IsVal.zero _ _
      · rw [hd]; have : (0 : Rat) - 0 = 0 := by grind
        rw [this, absQ_nonneg Rat.le_refl]; exact grQ_nonneg _ _
      · exact ⟨fun _ => hd.symm, fun _ => rfl⟩
    split at hr
    · exact key _ hr
    · exact key _ hr
  · rw [if_pos hd] at hr
    replace hl := hl hd
    obtain ⟨k1, k2⟩ := err_sum hP va vb hl
    have hN := endN_le (P := P) (b := bias E) (m := 0) hl (decide ((a + b).num < 0)) (decide ((rdT P (bias E) l (a + b)).den = 1)) (cmpQ ((rdT P (bias E) l (a + b) - (rdN P (bias E) l (a + b) : Nat)) * 2) 1)
    by_cases hg : ((evN P (bias E) (a + b) l : Nat) : Rat) * (2 : Rat) ^ (rdK P (bias E) l) ≤ grQ P (bias E)
    · have hge : rdF (bias E) l = 0 ∨ 2 ^ (P - 1) ≤ evN P (bias E) (a + b) l := by
        rcases rdN_ge (b := bias E) hP hl with h | h
        · exact .inl h
        · exact .inr (Nat.le_trans h hN.2)
      have hfit := end_fits (by omega) hP hN.1 hge hg
      obtain ⟨v1, v2⟩ := round_val (E := E) (m := 0) (by omega) hP hl (evN P (bias E) (a + b) l) rfl hg hfit
      have hw : (roundR E P (bias E) 0 (a + b) l).1 = wordN E P (decide ((a + b).num < 0)) (evN P (bias E) (a + b) l) (rdF (bias E) l) := by
        unfold roundR endR
        exact congrArg Prod.fst (if_pos hg)
      have hlt : r.1 < 2 ^ (E + P) := by rw [hr, hw]; exact wordN_lt (by omega) _ hfit
      have hsz : absQ (wval E P (bias E) r.1) ≤ grQ P (bias E) := by rw [hr, v1, absQ_signed (steps_nonneg _ _)]; exact hg
      refine ⟨hlt, .inr ⟨_, value_fin hlt (kind_of_le hE hP hsz), ?_⟩⟩
      rw [hr, v1, v2]
      refine ⟨k1, Rat.le_trans k2 ga, ?_⟩
      have hs := absQ_sign (a + b)
      have hb := absQ_back P (bias E) (a + b) l
      by_cases his : (rdT P (bias E) l (a + b)).den = 1
      · rw [decide_eq_true his]
        have hT : rdT P (bias E) l (a + b) = ((rdN P (bias E) l (a + b) : Nat) : Rat) := by
          have := den_one his
          rw [rdN_floor] at this
          exact this.symm
        have hz := exact_zero hT
        unfold evV at hz
        rw [hz, hs]
        exact ⟨fun _ => rfl, fun _ => rfl⟩
      · rw [decide_eq_false his]
        refine ⟨fun h => ?_, fun h => ?_⟩
        · exfalso; unfold endF at h; rw [if_neg (by decide)] at h; split at h <;> omega
        · exfalso
          apply his
          have h1 : ((evN P (bias E) (a + b) l : Nat) : Rat) * (2 : Rat) ^ (rdK P (bias E) l) = absQ (a + b) := by
            have h2 := congrArg absQ h
            rwa [absQ_signed (steps_nonneg _ _)] at h2
          rw [hb] at h1
          have h3 : ((evN P (bias E) (a + b) l : Nat) : Rat) = rdT P (bias E) l (a + b) := by
            have h4 := congrArg (· * (2 : Rat) ^ (-(rdK P (bias E) l))) h1
            simp only [Rat.mul_assoc, p2_cancel', Rat.mul_one] at h4
            exact h4
          rw [← h3]; rfl
    · have hw : roundR E P (bias E) 0 (a + b) l = (infw E P (decide ((a + b).num < 0)), 20) := by
        unfold roundR endR
        exact (if_neg hg).trans (if_neg (by rw [mode0]; omega))
      rw [hr, hw]
      obtain ⟨k3, k4⟩ := inf_ok (E := E) hP (decide ((a + b).num < 0))
      exact ⟨k3, .inl ⟨rfl, k4⟩⟩
end Go.Proofs.YtpjpaiaaimmngaaGreatDoor

/- exact, floats: the logarithm of the size of a number that is not 0. -/
namespace Go.Proofs.YtpjpaiaaimmngaaGreatDoor
open Go.RowKit Vn

theorem absQ_parts (q : Rat) : (absQ q).num.natAbs = q.num.natAbs ∧ (absQ q).den = q.den := by
  rw [absQ_eq]; split
  · simp [Rat.neg_num, Rat.neg_den]
  · exact ⟨rfl, rfl⟩
theorem logA_c (x : Value) (q : Rat) (K : Nat) (w : World) (hx : NumV w x q) (sx : SmQ K q) (hK : K ≤ 10000000) (h : q.num ≠ 0) :
   Calls Tryz.prog 99 #[x] w fun e w' => ∃ k, e = .returned (.int .i64 k) ∧ IsLog (absQ q) k ∧ Ext w w' := by
  have h1 : bl q.num.natAbs ≤ K := bl_le_of_lt sx.1
  have h2 : bl q.den ≤ K := bl_le_of_lt sx.2
  refine (log_core x q K _ _ w hx sx hK (hid rfl) (by omega) (by omega) (hid rfl)).mono ?_
  rintro e w' ⟨rfl, g⟩
  obtain ⟨e1, e2⟩ := absQ_parts q
  have hl := log_is (absQ_num_pos h) _ rfl
  rw [e1, e2] at hl
  exact ⟨_, rfl, hl, g⟩

set_option maxRecDepth 100000 in
set_option maxHeartbeats 8000000 in
theorem LogA_c (x : Value) (q : Rat) (K : Nat) (w : World) (hx : NumV w x q) (sx : SmQ K q) (hK : K ≤ 10000000) (h : q.num ≠ 0) :
   Calls Tryz.prog 71 #[x] w fun e w' => ∃ k, e = .returned (.tuple #[.int .i64 k, .int .i64 0]) ∧ IsLog (absQ q) k ∧ Ext w w' := by
  obtain ⟨ng, a, n, c, a', n', c', rfl⟩ := hx.shape
  obtain ⟨W0, hW0⟩ : ∃ W0, W0 = w.alloc (.cells #[.bool ng, .slice a n c, .slice a' n' c'] 32) := ⟨_, rfl⟩
  have HE : Hid (Ext w W0) := hid (by rw [hW0]; exact Ext.alloc w _)
  have hBx : Box W0 w.heap.size #[.bool ng, .slice a n c, .slice a' n' c'] 32 := by rw [hW0]; exact Box.new w _ _
  have HS : Hid (∀ w', Ext W0 w' → Tri w.heap.size (.bool ng) (.slice a n c) (.slice a' n' c') w') := hid fun w' h => Tri.of (hBx.ext h)
  have Hx := hid hx
  have hb0 : Ext W0 W0.drew := Below.drew (Below.refl _ W0)
  have HK := hid hK
  have Sx := hid sx
  have H0 := hid h
  have hs : (q.num.sign == 0) = false := beq_eq_false_iff_ne.2 (fun e => h (Int.sign_eq_zero_iff_zero.1 e))
  clear hx hBx hK sx h
  obtain ⟨x0, x1, x2⟩ := HS.out _ (Below.refl _ W0)
  go_enter Tryz.func71, Tryz.ntmps71
  go_wp2_with fail
  rw [← hW0]
  clear hW0
  refine (sign_c _ q _ (Hx.out.ext HE.out)).mono ?_
  rintro e w1 ⟨rfl, hb1⟩
  clear x0 x1 x2
  obtain ⟨x0, x1, x2⟩ := HS.out _ hb1
  go_wp2_with fail
  refine (logA_c _ q K _ (Hx.out.ext (HE.out.trans hb1)) Sx.out HK.out H0.out).mono ?_
  rintro e w2 ⟨k, rfl, hl, g2⟩
  have Hl := hid hl
  clear hl
  go_wp2_with fail
  exact bodyPost_ret (v := .tuple #[.int .i64 k, .int .i64 0]) (by simp [results, Tryz.results71, go_sem]) rfl ⟨k, rfl, Hl.out, HE.out.trans (hb1.trans g2)⟩

set_option maxRecDepth 100000 in
set_option maxHeartbeats 8000000 in
theorem flogA_c (x : Value) (q : Rat) (K : Nat) (w : World) (hx : NumV w x q) (sx : SmQ K q) (hK : K ≤ 10000000) (h : q.num ≠ 0) :
   Calls Tryz.prog 39 #[x] w fun e w' => ∃ k, e = .returned (.int .i64 k) ∧ IsLog (absQ q) k ∧ Ext w w' := by
  obtain ⟨ng, a, n, c, a', n', c', rfl⟩ := hx.shape
  obtain ⟨W0, hW0⟩ : ∃ W0, W0 = w.alloc (.cells #[.bool ng, .slice a n c, .slice a' n' c'] 32) := ⟨_, rfl⟩
  have HE : Hid (Ext w W0) := hid (by rw [hW0]; exact Ext.alloc w _)
  have hBx : Box W0 w.heap.size #[.bool ng, .slice a n c, .slice a' n' c'] 32 := by rw [hW0]; exact Box.new w _ _
  have HS : Hid (∀ w', Ext W0 w' → Tri w.heap.size (.bool ng) (.slice a n c) (.slice a' n' c') w') := hid fun w' h => Tri.of (hBx.ext h)
  have Hx := hid hx
  have hb0 : Ext W0 W0.drew := Below.drew (Below.refl _ W0)
  have HK := hid hK
  have Sx := hid sx
  have H0 := hid h
  clear hx hBx hK sx h
  obtain ⟨x0, x1, x2⟩ := HS.out _ (Below.refl _ W0)
  go_enter Tryz.func39, Tryz.ntmps39
  go_wp2_with fail
  rw [← hW0]
  clear hW0
  refine (LogA_c _ q K _ (Hx.out.ext HE.out) Sx.out HK.out H0.out).mono ?_
  rintro e w1 ⟨k, rfl, hl, hb1⟩
  have Hl := hid hl
  clear hl
  go_wp2_with fail
  go_ret
  exact ⟨k, rfl, Hl.out, HE.out.trans hb1⟩

end Go.Proofs.YtpjpaiaaimmngaaGreatDoor

/- floats: Has, of a number that is a value. -/
namespace Go.Proofs.YtpjpaiaaimmngaaGreatDoor
open Go.RowKit Vn

theorem has_int {P b : Nat} {q : Rat} {l : Int} (hl : IsLog (absQ q) l) (hv : IsVal P b q) : (q * (2 : Rat) ^ (-(max l (1 - (b : Int)) - P + 1))).den = 1 := by
  obtain ⟨N, h1, h2⟩ := isVal_step hl hv
  have hk : rdK P b l = max l (1 - (b : Int)) - P + 1 := by unfold rdK rdF; omega
  rw [← hk]
  have e : absQ q * (2 : Rat) ^ (-(rdK P b l)) = (N : Rat) := h1
  rw [absQ_eq] at e
  split at e
  · have : q * (2 : Rat) ^ (-(rdK P b l)) = ((-(N : Int) : Int) : Rat) := by
      have e2 : q * (2 : Rat) ^ (-(rdK P b l)) = -(N : Rat) := by grind
      rw [e2, Rat.intCast_neg]; rfl
    rw [this]; rfl
  · rw [e]; rfl
theorem cmpQ_le {q r : Rat} (h : q ≤ r) : cmpQ q r ≤ 0 := by
  have : ¬ r < q := Rat.not_lt.2 h
  unfold cmpQ
  split
  · decide
  · simp
theorem grQ_sm {P b : Nat} (hP : 2 ≤ P ∧ P ≤ 113) (hb : b ≤ 1023) : SmQ 16000 (grQ P b) := by
  have h1 : 2 ^ P - 1 < 2 ^ 113 := by
    have h2 : 2 ^ P ≤ 2 ^ 113 := Nat.pow_le_pow_right (n := 2) (j := 113) (by decide) hP.2
    have : 0 < 2 ^ P := Nat.pow_pos (by decide)
    omega
  have s1 : SmQ 113 ((2 ^ P - 1 : Nat) : Rat) := SmQ.nat (by decide) h1
  exact (s1.mul_p2 ((b : Int) - P + 1) 2000 (by omega)).mono (by decide)

set_option maxRecDepth 100000 in
set_option maxHeartbeats 4000000 in
theorem Has_true (E P : Nat) (x : Value) (q : Rat) (K : Nat) (w : World) (hF : Fmt E P) (hx : NumV w x q) (sx : SmQ K q) (hK : K ≤ 16000) (hv : IsVal P (bias E) q) (hg : absQ q ≤ grQ P (bias E)) :
   Calls Tryz.prog 15 #[.agg #[.int .i64 (E : Nat), .int .i64 (P : Nat)], x] w fun e w' => e = .returned (.bool true) ∧ Ext w w' := by
  obtain ⟨ng, a, n, c, a', n', c', rfl⟩ := hx.shape
  have hE : 2 ≤ E ∧ E ≤ 11 := by unfold Fmt at hF; omega
  have hP : 2 ≤ P ∧ P ≤ 113 := by unfold Fmt at hF; omega
  have hb : bias E ≤ 1023 := by
    have : 2 ^ (E - 1) ≤ 1024 := Nat.pow_le_pow_right (n := 2) (by decide) (show E - 1 ≤ 10 by omega)
    unfold bias; omega
  have HX := hid hx
  have CW : Hid (∀ (w : World), Calls Tryz.prog 33 #[.agg #[.int .i64 (E : Nat), .int .i64 (P : Nat)], .int .i64 0, .slice none 0 0] w fun e w' => e = .returned (.tuple #[.agg #[.int .i64 (E : Nat), .int .i64 (P : Nat), .int .i64 0, .int .i64 (bias E : Nat)], .int .i64 0]) ∧ Ext w w') := hid fun w => by
    have := with_good E P 0 _ [] w (by decide) hF (WSl.nil w)
    rwa [show withRes E P 0 [] = .tuple #[.agg #[.int .i64 (E : Nat), .int .i64 (P : Nat), .int .i64 0, .int .i64 (bias E : Nat)], .int .i64 0] from by unfold withRes; rw [if_pos (fun x hx => by simp at hx)]; rfl] at this
  obtain ⟨s0, hs0⟩ : ∃ s, s = q.num.sign := ⟨_, rfl⟩
  have CSG : Hid (∀ v w, NumV w v q → Calls Tryz.prog 7 #[v] w fun e w' => e = .returned (.int .i64 s0) ∧ Ext w w') := hid fun v w h => by rw [hs0]; exact sign_c v q w h
  have CLG : Hid (q.num ≠ 0 → ∀ v w, NumV w v q → _) := hid fun h0 v w h => flogA_c v q K w h sx (by omega) h0
  have HST : Hid (∀ l, IsLog (absQ q) l → ∀ w, Calls Tryz.prog 38 #[.agg #[.int .i64 (E : Nat), .int .i64 (P : Nat), .int .i64 0, .int .i64 (bias E : Nat)], .int .i64 l] w fun e w' => ∃ s, e = .returned (.int .i64 s) ∧ (-20000 ≤ s ∧ s ≤ 20000) ∧ (q * (2 : Rat) ^ (-s)).den = 1 ∧ Ext w w') := hid fun l hl w => by
    have hbd := hl.bound sx.absQ
    refine (step_c E P 0 (bias E) l w hP hb (by omega)).mono fun e w' ⟨h1, h2⟩ => ⟨_, h1, ?_, has_int hl hv, h2⟩
    omega
  have CSH : Hid (∀ s, -20000 ≤ s → s ≤ 20000 → ∀ v w, NumV w v q → _) := hid fun s h0 h1 v w h => shift_c v q K (-s) w h sx (by omega) (by omega) (by omega)
  have CII : Hid (∀ (s : Int), (q * (2 : Rat) ^ (-s)).den = 1 → ∀ v w, NumV w v (q * (2 : Rat) ^ (-s)) → Calls Tryz.prog 19 #[v] w fun e w' => e = .returned (.bool true) ∧ Ext w w') := hid fun s hd v w h => by
    have := isInt_c v _ w h
    rwa [decide_eq_true hd] at this
  have CAB : Hid (∀ v w, NumV w v q → _) := hid fun v w h => abs_c v q w h
  have CGR : Hid (∀ w, Calls Tryz.prog 40 #[.agg #[.int .i64 (E : Nat), .int .i64 (P : Nat), .int .i64 0, .int .i64 (bias E : Nat)]] w fun e w' => ∃ v, e = .returned v ∧ NumV w' v (grQ P (bias E)) ∧ Ext w w') := hid fun w => greatest_c E P 0 (bias E) w hP hb
  obtain ⟨cG, hcG⟩ : ∃ s, s = cmpQ (absQ q) (grQ P (bias E)) := ⟨_, rfl⟩
  have hcg : cG ≤ 0 := by rw [hcG]; exact cmpQ_le hg
  have sg : SmQ 16000 (grQ P (bias E)) := grQ_sm hP hb
  have CCM : Hid (∀ u v w, NumV w u (absQ q) → NumV w v (grQ P (bias E)) → Calls Tryz.prog 8 #[u, v] w fun e w' => e = .returned (.int .i64 cG) ∧ Ext w w') := hid fun u v w h k => by
    rw [hcG]; exact Cmp_c u v _ _ 16000 w h k (sx.absQ.mono hK) sg (by decide)
  have HS0 := hid hs0
  clear hF hx sx hK hv hg hE hP hb hs0 hcG sg
  obtain ⟨W0, hW0, g0, hz0, B_F, B_X⟩ := pro2s w #[.int .i64 (E : Nat), .int .i64 (P : Nat)] #[.bool ng, .slice a n c, .slice a' n' c'] 23 32
  have HE := hid g0
  have HB_F := hid B_F
  have HB_X := hid B_X
  clear g0 B_F B_X 
  go_enter Tryz.func15, Tryz.ntmps15
  go_upto_region 1 with (fail)
  rw [← hW0]
  clear hW0
  have kx := HX.out.ext HE.out
  obtain ⟨c_1, c_2⟩ := HB_F.out.c2
  obtain ⟨c_3, c_4, c_5⟩ := HB_X.out.c3
  go_wp2_with fail
  clear c_1 c_2 c_3 c_4 c_5
  refine (CW.out _).mono ?_
  rintro e w1 ⟨rfl, g1⟩
  have hz_w1 := g1.size
  replace HE := hid (HE.out.trans g1)
  replace HB_F := hid (HB_F.out.ext g1)
  replace HB_X := hid (HB_X.out.ext g1)
  replace kx := kx.ext g1
  have gA := Ext.alloc w1 (.cells #[.int .i64 (E : Nat), .int .i64 (P : Nat), .int .i64 0, .int .i64 (bias E : Nat)] 66)
  obtain ⟨c_6, c_7⟩ := (HB_F.out.ext gA).c2
  obtain ⟨c_8, c_9, c_10⟩ := (HB_X.out.ext gA).c3
  go_wp2_with fail
  clear gA c_6 c_7 c_8 c_9 c_10
  obtain ⟨W2, hW2, g2, hy2, B_M⟩ := pro1 w1 #[.int .i64 (E : Nat), .int .i64 (P : Nat), .int .i64 0, .int .i64 (bias E : Nat)] 66
  rw [← hW2]
  clear hW2
  have hz_W2 := g2.size
  replace HE := hid (HE.out.trans g2)
  replace HB_F := hid (HB_F.out.ext g2)
  replace HB_X := hid (HB_X.out.ext g2)
  replace kx := kx.ext g2
  have HB_M := hid B_M
  clear B_M
  refine (CSG.out _ _ kx).mono ?_
  rintro e w3 ⟨rfl, g3⟩
  have hz_w3 := g3.size
  replace HE := hid (HE.out.trans g3)
  replace HB_F := hid (HB_F.out.ext g3)
  replace HB_X := hid (HB_X.out.ext g3)
  replace HB_M := hid (HB_M.out.ext g3)
  replace kx := kx.ext g3
  by_cases h0 : s0 = 0
  · subst h0
    obtain ⟨c_11, c_12⟩ := HB_F.out.c2
    obtain ⟨c_13, c_14, c_15⟩ := HB_X.out.c3
    obtain ⟨c_16, c_17, c_18, c_19⟩ := HB_M.out.c4
    go_wp2_with fail
    clear c_11 c_12 c_13 c_14 c_15 c_16 c_17 c_18 c_19
    refine bodyPost_ret (v := .bool true) (by simp [results, Tryz.results15, go_sem]) rfl ⟨rfl, HE.out⟩
  · have hq0 : q.num ≠ 0 := fun e => h0 (by rw [HS0.out, e]; rfl)
    have HQ0 := hid hq0
    have hsb : (s0 == 0) = false := beq_eq_false_iff_ne.2 h0
    clear hq0
    obtain ⟨c_11, c_12⟩ := HB_F.out.c2
    obtain ⟨c_13, c_14, c_15⟩ := HB_X.out.c3
    obtain ⟨c_16, c_17, c_18, c_19⟩ := HB_M.out.c4
    go_wp2_with fail
    clear c_11 c_12 c_13 c_14 c_15 c_16 c_17 c_18 c_19
    have HS : Hid (∀ w', Ext w3 w' → w'.cell? ⟨w1.heap.size, 0, none⟩ = some (.int .i64 (E : Nat)) ∧ w'.cell? ⟨w1.heap.size, 1, none⟩ = some (.int .i64 (P : Nat)) ∧ w'.cell? ⟨w1.heap.size, 2, none⟩ = some (.int .i64 0) ∧ w'.cell? ⟨w1.heap.size, 3, none⟩ = some (.int .i64 (bias E : Nat)) ∧ w'.cell? ⟨w.heap.size + 1, 0, none⟩ = some (.bool ng) ∧ w'.cell? ⟨w.heap.size + 1, 1, none⟩ = some (.slice a n c) ∧ w'.cell? ⟨w.heap.size + 1, 2, none⟩ = some (.slice a' n' c')) := hid fun w' h => ⟨(HB_M.out.ext h).cell 0, (HB_M.out.ext h).cell 1, (HB_M.out.ext h).cell 2, (HB_M.out.ext h).cell 3, (HB_X.out.ext h).cell 0, (HB_X.out.ext h).cell 1, (HB_X.out.ext h).cell 2⟩
    have hb0 : Ext w3 w3.drew := Below.drew (Below.refl _ w3)
    go_region_held3 (fun w' => w'.cell? ⟨w1.heap.size, 0, none⟩ = some (.int .i64 (E : Nat)) ∧ w'.cell? ⟨w1.heap.size, 1, none⟩ = some (.int .i64 (P : Nat)) ∧ w'.cell? ⟨w1.heap.size, 2, none⟩ = some (.int .i64 0) ∧ w'.cell? ⟨w1.heap.size, 3, none⟩ = some (.int .i64 (bias E : Nat)) ∧ w'.cell? ⟨w.heap.size + 1, 0, none⟩ = some (.bool ng) ∧ w'.cell? ⟨w.heap.size + 1, 1, none⟩ = some (.slice a n c) ∧ w'.cell? ⟨w.heap.size + 1, 2, none⟩ = some (.slice a' n' c'))
        (first | exact HS.out _ (by assumption))
      (first
      | (go_at_call 39; (with_reducible refine (CLG.out HQ0.out _ _ (kx.ext hb0)).mono ?_); rintro e x20_1 ⟨l, rfl, hl, g1⟩; have hb1 : Ext w3 x20_1 := hb0.trans g1; have HL := hid hl; clear hl)
      | (go_at_call 38; (with_reducible refine (HST.out l HL.out _).mono ?_); rintro e x20_2 ⟨s, rfl, ⟨hs1, hs2⟩, hs3, g2⟩; have hb2 : Ext w3 x20_2 := hb1.trans g2; have HD := hid hs3; clear hs3; have hw2 : wrap64 (-s) = -s := (IntWalk.i64_left (-s)).symm.trans (by rw [IntKind.wrap_i64]; omega); have hw3 : IntKind.i64.wrap (-s) = -s := IntWalk.i64_in _ (by omega))
      | (go_at_call 37; (with_reducible refine (CSH.out s hs1 hs2 _ _ (kx.ext hb2)).mono ?_); rintro e x20_3 ⟨v3, rfl, k3, g3⟩; have hb3 : Ext w3 x20_3 := hb2.trans g3)
      | (go_at_call 19; (with_reducible refine (CII.out s HD.out _ _ k3).mono ?_); rintro e x20_4 ⟨rfl, g4⟩; have hb4 : Ext w3 x20_4 := hb3.trans g4)
      | (go_at_call 17; (with_reducible refine (CAB.out _ _ (kx.ext hb4)).mono ?_); rintro e x20_5 ⟨v5, rfl, k5, g5⟩; have hb5 : Ext w3 x20_5 := hb4.trans g5)
      | (go_at_call 40; (with_reducible refine (CGR.out _).mono ?_); rintro e x20_6 ⟨v6, rfl, k6, g6⟩; have hb6 : Ext w3 x20_6 := hb5.trans g6)
      | (go_at_call 8; (with_reducible refine (CCM.out _ _ _ (k5.ext g6) k6).mono ?_); rintro e x20_7 ⟨rfl, g7⟩; have hb7 : Ext w3 x20_7 := hb6.trans g7))
    clear HS
    have hz_x20_7 := hb7.size
    replace HE := hid (HE.out.trans hb7)
    replace HB_F := hid (HB_F.out.ext hb7)
    replace HB_X := hid (HB_X.out.ext hb7)
    replace HB_M := hid (HB_M.out.ext hb7)
    replace kx := kx.ext hb7
    obtain ⟨c_21, c_22⟩ := HB_F.out.c2
    obtain ⟨c_23, c_24, c_25⟩ := HB_X.out.c3
    obtain ⟨c_26, c_27, c_28, c_29⟩ := HB_M.out.c4
    go_wp2_with fail
    clear c_21 c_22 c_23 c_24 c_25 c_26 c_27 c_28 c_29
    refine bodyPost_ret (v := .bool true) (by simp [results, Tryz.results15, go_sem]) rfl ⟨rfl, HE.out⟩
end Go.Proofs.YtpjpaiaaimmngaaGreatDoor
