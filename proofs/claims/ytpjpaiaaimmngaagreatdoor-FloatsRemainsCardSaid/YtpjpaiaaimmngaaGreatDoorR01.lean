/- floats: exactly. -/
import Derived.Test.YtpjpaiaaimmngaaGreatDoorM40
namespace Go.Proofs.YtpjpaiaaimmngaaGreatDoor
open Go.RowKit Vn

/-- the word and the flags of a number that may be 0 or infinite. -/
def exR (E P b m : Nat) (k : Int) (n : Bool) (q : Rat) (l : Int) : Nat × Nat := if k = 1 then (sgb E P n, 0) else if k = 3 then (infw E P n, 0) else rnd E P b m q l

set_option maxRecDepth 100000 in
set_option maxHeartbeats 8000000 in
theorem exactly_c (E P b m : Nat) (x : Value) (kx : Int) (nx : Bool) (q : Rat) (l : Int) (K : Nat) (w : World) (hF : Fmt E P) (hm : m ≤ 4) (hb : b = bias E) (hx : OpV w x kx nx q) (sx : SmQ K q) (hK : K ≤ 12000) (hl : q ≠ 0 → IsLog (absQ q) l) (hT : Tabs w) :
   Calls Tryz.prog 72 #[.agg #[.int .i64 E, .int .i64 P, .int .i64 m, .int .i64 b], x] w fun e w' => EndPost (exR E P b m kx nx q l) w e w' := by
  obtain ⟨ng, a, n, c, a', n', c', rfl, hvx⟩ := hx
  have HX := hid hvx
  have CR : Hid (∀ w, NumV w _ q → Tabs w → _) := hid fun w h hT => rnd_c E P b m (.agg #[.bool ng, .slice a n c, .slice a' n' c']) q l K w hF hm hb h sx hK hl hT
  have HT := hid hT; have HF := hid hF
  clear hvx sx hK hl hT hF hm hb
  obtain ⟨W0, hW0, g0, hz0, B_M, B_X, B_Z⟩ := pro3s w #[.int .i64 E, .int .i64 P, .int .i64 m, .int .i64 b] #[.int .i64 kx, .bool nx, .bool ng, .slice a n c, .slice a' n' c'] #[.int .u64 0, .int .u64 0] 66 70 26
  have HE := hid g0
  have HB_M := hid B_M
  have HB_X := hid B_X
  have HB_Z := hid B_Z
  clear g0 B_M B_X B_Z 
  go_enter Tryz.func72, Tryz.ntmps72
  go_upto_region 1 with (fail)
  rw [← hW0]
  clear hW0
  by_cases h1 : kx = 1
  · subst h1
    have HR : Hid (exR E P b m 1 nx q l = (sgb E P nx, 0)) := hid (by unfold exR; simp)
    obtain ⟨r0, r1, er⟩ := Word.shape (sgb E P nx)
    have Er := hid er
    clear er
    obtain ⟨c_1, c_2, c_3, c_4⟩ := HB_M.out.c4
    obtain ⟨c_5, c_6, c_7, c_8, c_9⟩ := HB_X.out.c5
    obtain ⟨c_10, c_11⟩ := HB_Z.out.c2
    go_wp2_with fail
    clear c_1 c_2 c_3 c_4 c_5 c_6 c_7 c_8 c_9 c_10 c_11
    refine (zero_c E P m b nx _ HF.out).mono ?_
    rintro e w1 ⟨rfl, g1⟩
    have hz_w1 := g1.size
    replace HE := hid (HE.out.trans g1)
    replace HB_M := hid (HB_M.out.ext g1)
    replace HB_X := hid (HB_X.out.ext g1)
    replace HB_Z := hid (HB_Z.out.ext g1)
    rw [Er.out]
    obtain ⟨c_12, c_13, c_14, c_15⟩ := HB_M.out.c4
    obtain ⟨c_16, c_17, c_18, c_19, c_20⟩ := HB_X.out.c5
    obtain ⟨c_21, c_22⟩ := HB_Z.out.c2
    obtain ⟨f_23, f_24⟩ := HB_Z.out.f2
    go_wp2_with fail
    clear c_12 c_13 c_14 c_15 c_16 c_17 c_18 c_19 c_20 c_21 c_22 f_23 f_24
    obtain ⟨W2, hW2, g2, q2, B2, hy2, ho2⟩ := sto2 HE.out (by omega) HB_Z.out (by decide) (.int .u64 r0) (.int .u64 r1)
    rw [← hW2]
    clear hW2
    replace HE := hid g2
    replace HB_M := hid (ho2 _ _ _ (by omega) HB_M.out)
    replace HB_X := hid (ho2 _ _ _ (by omega) HB_X.out)
    replace HB_Z := hid B2
    unfold EndPost
    rw [HR.out]
    obtain ⟨c_25, c_26⟩ := HB_Z.out.c2
    refine bodyPost_ret (v := .tuple #[.agg #[.int .u64 r0, .int .u64 r1], .int .i64 0]) (by simp [results, Tryz.results72, go_sem, c_25, c_26]) rfl ⟨by (show _ = Ending.returned (.tuple #[Word (sgb E P nx), .int .i64 0]); rw [Er.out]), HE.out⟩
  · have hb1 : (kx == 1) = false := beq_eq_false_iff_ne.2 h1
    by_cases h3 : kx = 3
    · subst h3
      have HR : Hid (exR E P b m 3 nx q l = (infw E P nx, 0)) := hid (by unfold exR; simp)
      obtain ⟨r0, r1, er⟩ := Word.shape (infw E P nx)
      have Er := hid er
      clear er h1 hb1
      obtain ⟨c_1, c_2, c_3, c_4⟩ := HB_M.out.c4
      obtain ⟨c_5, c_6, c_7, c_8, c_9⟩ := HB_X.out.c5
      obtain ⟨c_10, c_11⟩ := HB_Z.out.c2
      go_wp2_with fail
      clear c_1 c_2 c_3 c_4 c_5 c_6 c_7 c_8 c_9 c_10 c_11
      refine (infinite_c E P m b nx _ HF.out).mono ?_
      rintro e w1 ⟨rfl, g1⟩
      have hz_w1 := g1.size
      replace HE := hid (HE.out.trans g1)
      replace HB_M := hid (HB_M.out.ext g1)
      replace HB_X := hid (HB_X.out.ext g1)
      replace HB_Z := hid (HB_Z.out.ext g1)
      rw [Er.out]
      obtain ⟨c_12, c_13, c_14, c_15⟩ := HB_M.out.c4
      obtain ⟨c_16, c_17, c_18, c_19, c_20⟩ := HB_X.out.c5
      obtain ⟨c_21, c_22⟩ := HB_Z.out.c2
      obtain ⟨f_23, f_24⟩ := HB_Z.out.f2
      go_wp2_with fail
      clear c_12 c_13 c_14 c_15 c_16 c_17 c_18 c_19 c_20 c_21 c_22 f_23 f_24
      obtain ⟨W2, hW2, g2, q2, B2, hy2, ho2⟩ := sto2 HE.out (by omega) HB_Z.out (by decide) (.int .u64 r0) (.int .u64 r1)
      rw [← hW2]
      clear hW2
      replace HE := hid g2
      replace HB_M := hid (ho2 _ _ _ (by omega) HB_M.out)
      replace HB_X := hid (ho2 _ _ _ (by omega) HB_X.out)
      replace HB_Z := hid B2
      unfold EndPost
      rw [HR.out]
      obtain ⟨c_25, c_26⟩ := HB_Z.out.c2
      refine bodyPost_ret (v := .tuple #[.agg #[.int .u64 r0, .int .u64 r1], .int .i64 0]) (by simp [results, Tryz.results72, go_sem, c_25, c_26]) rfl ⟨by (show _ = Ending.returned (.tuple #[Word (infw E P nx), .int .i64 0]); rw [Er.out]), HE.out⟩
    · have hb3 : (kx == 3) = false := beq_eq_false_iff_ne.2 h3
      have HR : Hid (exR E P b m kx nx q l = rnd E P b m q l) := hid (by unfold exR; rw [if_neg h1, if_neg h3])
      obtain ⟨r0, r1, er⟩ := Word.shape (rnd E P b m q l).1
      have Er := hid er
      clear er h1 h3
      have hvx := HX.out.ext HE.out
      obtain ⟨c_1, c_2, c_3, c_4⟩ := HB_M.out.c4
      obtain ⟨c_5, c_6, c_7, c_8, c_9⟩ := HB_X.out.c5
      obtain ⟨c_10, c_11⟩ := HB_Z.out.c2
      go_wp2_with fail
      clear c_1 c_2 c_3 c_4 c_5 c_6 c_7 c_8 c_9 c_10 c_11
      refine (CR.out _ hvx (HT.out.ext HE.out)).mono ?_
      rintro e w1 ⟨rfl, g1⟩
      have hz_w1 := g1.size
      replace HE := hid (HE.out.trans g1)
      replace HB_M := hid (HB_M.out.ext g1)
      replace HB_X := hid (HB_X.out.ext g1)
      replace HB_Z := hid (HB_Z.out.ext g1)
      rw [Er.out]
      obtain ⟨c_12, c_13, c_14, c_15⟩ := HB_M.out.c4
      obtain ⟨c_16, c_17, c_18, c_19, c_20⟩ := HB_X.out.c5
      obtain ⟨c_21, c_22⟩ := HB_Z.out.c2
      obtain ⟨f_23, f_24⟩ := HB_Z.out.f2
      go_wp2_with fail
      clear c_12 c_13 c_14 c_15 c_16 c_17 c_18 c_19 c_20 c_21 c_22 f_23 f_24
      obtain ⟨W2, hW2, g2, q2, B2, hy2, ho2⟩ := sto2 HE.out (by omega) HB_Z.out (by decide) (.int .u64 r0) (.int .u64 r1)
      rw [← hW2]
      clear hW2
      replace HE := hid g2
      replace HB_M := hid (ho2 _ _ _ (by omega) HB_M.out)
      replace HB_X := hid (ho2 _ _ _ (by omega) HB_X.out)
      replace HB_Z := hid B2
      unfold EndPost
      rw [HR.out]
      obtain ⟨c_25, c_26⟩ := HB_Z.out.c2
      refine bodyPost_ret (v := .tuple #[.agg #[.int .u64 r0, .int .u64 r1], .int .i64 ((rnd E P b m q l).2 : Nat)]) (by simp [results, Tryz.results72, go_sem, c_25, c_26]) rfl ⟨by rw [Er.out], HE.out⟩
end Go.Proofs.YtpjpaiaaimmngaaGreatDoor

/- Plain: the nearest whole number of a quotient, and what remains. -/
namespace Go.Proofs.YtpjpaiaaimmngaaGreatDoor
open Go.RowKit Vn

theorem SmQ.mul {K L : Nat} {q r : Rat} (h : SmQ K q) (k : SmQ L r) : SmQ (K + L) (q * r) := by
  have e1 : q.num.natAbs * r.num.natAbs < 2 ^ (K + L) := by
    rw [Nat.pow_add]; exact Nat.mul_lt_mul_of_lt_of_le h.1 (Nat.le_of_lt k.1) (Nat.pow_pos (by decide))
  have e2 : q.den * r.den < 2 ^ (K + L) := by
    rw [Nat.pow_add]; exact Nat.mul_lt_mul_of_lt_of_le h.2 (Nat.le_of_lt k.2) (Nat.pow_pos (by decide))
  rw [Rat.mul_def']
  exact SmQ.mk _ _ (Nat.mul_ne_zero q.den_nz r.den_nz) (by rw [Int.natAbs_mul]; exact e1) e2
theorem SmQ.div {K L : Nat} {q r : Rat} (h : SmQ K q) (k : SmQ L r) (hr : r ≠ 0) : SmQ (K + L) (q / r) := by
  have e1 : q.num.natAbs * r.den < 2 ^ (K + L) := by
    rw [Nat.pow_add]; exact Nat.mul_lt_mul_of_lt_of_le h.1 (Nat.le_of_lt k.2) (Nat.pow_pos (by decide))
  have e2 : q.den * r.num.natAbs < 2 ^ (K + L) := by
    rw [Nat.pow_add]; exact Nat.mul_lt_mul_of_lt_of_le h.2 (Nat.le_of_lt k.1) (Nat.pow_pos (by decide))
  have h1 : r.num.natAbs ≠ 0 := fun e => hr (Rat.num_eq_zero.1 (by omega))
  rw [← quo_value q r hr]
  unfold SmQ Sm
  rw [mkq_natAbs _ _ _ (Nat.mul_ne_zero q.den_nz h1), mkq_den _ _ _ (Nat.mul_ne_zero q.den_nz h1)]
  exact ⟨Nat.lt_of_le_of_lt (Nat.div_le_self _ _) e1, Nat.lt_of_le_of_lt (Nat.div_le_self _ _) e2⟩
theorem SmQ.pos {K : Nat} {q : Rat} (h : SmQ K q) : 0 < K := by
  rcases Nat.eq_zero_or_pos K with e | e
  · subst e
    have h1 : q.den < 2 ^ 0 := h.2
    have := q.den_pos
    omega
  · exact e
theorem SmQ.floor {K : Nat} {q : Rat} (h : SmQ K q) : SmQ K ((q.floor : Int) : Rat) := by
  refine SmQ.int h.pos ?_
  rw [Rat.floor_def]
  exact Nat.lt_of_le_of_lt (Int.natAbs_ediv_le_natAbs _ _) h.1

/-- the whole number nearest to q, of two the even one. -/
def remN (q : Rat) : Int := if upB 0 (decide (q.floor ≠ 0) && decide (q.floor.natAbs % 2 = 1)) (cmpQ ((q - ((q.floor : Int) : Rat)) * (2 : Rat) ^ (1 : Int)) 1) = true then q.floor + 1 else q.floor
theorem remN_sm {K : Nat} {q : Rat} (h : SmQ K q) : SmQ (K + 3) ((remN q : Int) : Rat) := by
  have h1 := h.floor
  unfold remN
  split
  · rw [show ((q.floor + 1 : Int) : Rat) = ((q.floor : Int) : Rat) + 1 from by rw [Rat.intCast_add]; rfl]
    exact (h1.add (SmQ.nat (K := 2) (n := 1) (by decide) (by decide))).mono (by omega)
  · exact h1.mono (by omega)
theorem remN_near (q : Rat) : absQ (q - ((remN q : Int) : Rat)) + absQ (q - ((remN q : Int) : Rat)) ≤ 1 := by
  have h1 : ((q.floor : Int) : Rat) ≤ q := Rat.floor_le q
  have h2 : q < ((q.floor : Int) : Rat) + 1 := by
    have := Rat.lt_floor_add_one q
    rwa [Rat.intCast_add] at this
  have e2 : (2 : Rat) ^ (1 : Int) = 2 := by rfl
  have lo : (q - ((q.floor : Int) : Rat)) * 2 ≤ 1 → absQ (q - ((q.floor : Int) : Rat)) + absQ (q - ((q.floor : Int) : Rat)) ≤ 1 := fun h => by
    rw [absQ_nonneg (by grind)]; grind
  have hi : 1 ≤ (q - ((q.floor : Int) : Rat)) * 2 → absQ (q - ((q.floor + 1 : Int) : Rat)) + absQ (q - ((q.floor + 1 : Int) : Rat)) ≤ 1 := fun h => by
    rw [show ((q.floor + 1 : Int) : Rat) = ((q.floor : Int) : Rat) + 1 from by rw [Rat.intCast_add]; rfl]
    rw [← absQ_neg, absQ_nonneg (by grind)]; grind
  unfold remN
  rw [e2]
  by_cases a : (q - ((q.floor : Int) : Rat)) * 2 < 1
  · have hc : cmpQ ((q - ((q.floor : Int) : Rat)) * 2) 1 = -1 := by unfold cmpQ; rw [if_pos a]
    rw [hc, if_neg (by unfold upB; simp)]
    exact lo (by grind)
  · by_cases b : 1 < (q - ((q.floor : Int) : Rat)) * 2
    · have hc : cmpQ ((q - ((q.floor : Int) : Rat)) * 2) 1 = 1 := by unfold cmpQ; rw [if_neg a, if_pos b]
      rw [hc, if_pos (by unfold upB; simp)]
      exact hi (by grind)
    · have e : (q - ((q.floor : Int) : Rat)) * 2 = 1 := Rat.le_antisymm (Rat.not_lt.1 b) (Rat.not_lt.1 a)
      split
      · exact hi (by rw [e]; exact Rat.le_refl)
      · exact lo (by rw [e]; exact Rat.le_refl)
theorem absQ_mul (a b : Rat) : absQ (a * b) = absQ a * absQ b := by
  rcases Rat.le_total (a := 0) (b := a) with g | g <;> rcases Rat.le_total (a := 0) (b := b) with h | h
  · rw [absQ_nonneg g, absQ_nonneg h, absQ_nonneg (Rat.mul_nonneg g h)]
  · have h' : 0 ≤ -b := by grind
    rw [absQ_nonneg g, ← absQ_neg b, absQ_nonneg h', ← absQ_neg (a * b), show -(a * b) = a * -b from by grind, absQ_nonneg (Rat.mul_nonneg g h')]
  · have g' : 0 ≤ -a := by grind
    rw [absQ_nonneg h, ← absQ_neg a, absQ_nonneg g', ← absQ_neg (a * b), show -(a * b) = -a * b from by grind, absQ_nonneg (Rat.mul_nonneg g' h)]
  · have h' : 0 ≤ -b := by grind
    have g' : 0 ≤ -a := by grind
    rw [← absQ_neg b, absQ_nonneg h', ← absQ_neg a, absQ_nonneg g', show a * b = -a * -b from by grind, absQ_nonneg (Rat.mul_nonneg g' h')]
theorem rem_near (a c : Rat) (hc : c ≠ 0) : absQ (a - c * ((remN (a / c) : Int) : Rat)) + absQ (a - c * ((remN (a / c) : Int) : Rat)) ≤ absQ c := by
  have h1 := remN_near (a / c)
  have e : a - c * ((remN (a / c) : Int) : Rat) = c * (a / c - ((remN (a / c) : Int) : Rat)) := by
    have : c * (a / c) = a := by rw [Rat.mul_comm, Rat.div_mul_cancel hc]
    grind
  have h0 := absQ_zero_le c
  rw [e, absQ_mul]
  have h2 := Rat.mul_le_mul_of_nonneg_left h1 h0
  grind

/-- what is rounded, if anything is. -/
def remV (kx : Int) (qx : Rat) (ky : Int) (qy : Rat) : Rat := if kx = 1 ∨ ky = 3 then qx else qx - qy * ((remN (qx / qy) : Int) : Rat)
/-- the word and the flags of a remainder of operands that are no NaN. -/
def remR (E P b m : Nat) (kx : Int) (nx : Bool) (qx : Rat) (ky : Int) (qy : Rat) (l : Int) : Nat × Nat :=
  if kx = 3 ∨ ky = 1 then (nanw E P, 1) else if kx = 1 ∨ ky = 3 then exR E P b m kx nx qx l
  else if qx - qy * ((remN (qx / qy) : Int) : Rat) = 0 then (sgb E P nx, 0) else rnd E P b m (qx - qy * ((remN (qx / qy) : Int) : Rat)) l

theorem kind_zero {E P b n : Nat} (h : wkind E P n ≤ 2) : wkind E P n = 1 ↔ wvalK E P b n = 0 := by
  have hne := fin_wf h
  constructor
  · intro h1
    unfold wvalK
    rw [if_neg (by omega), if_neg (by omega), if_neg (by omega)]
  · intro h0
    rw [wvalK_fin h] at h0
    have h2 : absQ (wval E P b n) = 0 := by rw [h0]; exact absQ_nonneg Rat.le_refl
    rw [wval_abs] at h2
    have h3 : wfr E P n = 0 := by
      rcases Nat.eq_zero_or_pos (wfr E P n) with e | e
      · exact e
      · exfalso
        have h4 : (0 : Rat) < ((wfr E P n : Nat) : Rat) := by exact_mod_cast e
        have h5 := Rat.mul_pos h4 (p2_pos (2 - (b : Int) - P + ((max (wf E P n) 1 - 1 : Nat) : Int)))
        grind
    have hp : 0 < 2 ^ (P - 1) := Nat.pow_pos (by decide)
    unfold wfr at h3
    unfold wkind
    rw [if_neg hne]
    by_cases hf : wf E P n = 0
    · rw [if_pos hf] at h3
      rw [if_pos ⟨hf, h3⟩]
    · rw [if_neg hf] at h3; omega
theorem nan_ok {E P : Nat} (hP : 2 ≤ P) : nanw E P < 2 ^ (E + P) ∧ valueR E P (nanw E P) = (0, 4) := by
  have hp : 0 < 2 ^ (P - 1) := Nat.pow_pos (by decide)
  have hp2 : 0 < 2 ^ (P - 2) := Nat.pow_pos (by decide)
  have hpp : 2 ^ (P - 1) = 2 * 2 ^ (P - 2) := by rw [← Nat.pow_succ']; congr 1; omega
  have he : 0 < 2 ^ E := Nat.pow_pos (by decide)
  have h0 : 2 ^ (P - 2) + (2 ^ E - 1) * 2 ^ (P - 1) < 2 ^ (E + P - 1) := by
    rw [pow_EP (by omega), Nat.mul_comm (2 ^ (P - 1))]
    have : (2 ^ E - 1) * 2 ^ (P - 1) + 2 ^ (P - 1) = 2 ^ E * 2 ^ (P - 1) := by
      rw [← Nat.succ_mul]; congr 1; omega
    omega
  have ew : nanw E P = wordN E P false (2 ^ (P - 2)) (2 ^ E - 1) := by
    unfold nanw infw wordN sgb
    rw [if_neg (by decide), Nat.zero_or, Nat.zero_or, Nat.add_comm, Nat.mul_comm]
    exact (Nat.two_pow_add_eq_or_of_lt (by omega) _).symm
  have hlt : nanw E P < 2 ^ (E + P) := by rw [ew]; exact wordN_lt (by omega) false h0
  refine ⟨hlt, ?_⟩
  have e1 : wf E P (nanw E P) = 2 ^ E - 1 := by
    rw [ew, wordN_wf (by omega) false h0, Nat.add_mul_div_right _ _ hp, Nat.div_eq_of_lt (by omega), Nat.zero_add]
  have e2 : wr P (nanw E P) = 2 ^ (P - 2) := by rw [ew, wordN_wr (by omega) false h0, Nat.mod_eq_of_lt (by omega)]
  have e3 : 2 < wkind E P (nanw E P) := by unfold wkind; rw [if_pos e1, if_neg (by omega)]; split <;> omega
  unfold valueR
  rw [if_neg (fun k => k hlt), if_pos e3]

theorem rem_bad {E P m i j : Nat} {l : Int} (hP : 2 ≤ P) (kj : wkind E P j ≤ 2) (b0 : wvalK E P (bias E) j = 0) (r : Nat × Nat)
    (hr : r = remR E P (bias E) m (wkind E P i) (wn E P i) (wvalK E P (bias E) i) (wkind E P j) (wvalK E P (bias E) j) l) :
    r.2 = 1 ∧ r.1 < 2 ^ (E + P) ∧ valueR E P r.1 = (0, 4) := by
  have k1 := (kind_zero kj).2 b0
  unfold remR at hr
  rw [if_pos (.inr k1)] at hr
  rw [hr]
  exact ⟨rfl, nan_ok hP⟩
theorem rem_ok {E P m i j : Nat} {l : Int} (hE : 2 ≤ E) (hP : 1 ≤ P) (ki : wkind E P i ≤ 2) (kj : wkind E P j ≤ 2) (b0 : wvalK E P (bias E) j ≠ 0)
    (hl : remV (wkind E P i) (wvalK E P (bias E) i) (wkind E P j) (wvalK E P (bias E) j) ≠ 0 → IsLog (absQ (remV (wkind E P i) (wvalK E P (bias E) i) (wkind E P j) (wvalK E P (bias E) j))) l) (r : Nat × Nat)
    (hr : r = remR E P (bias E) m (wkind E P i) (wn E P i) (wvalK E P (bias E) i) (wkind E P j) (wvalK E P (bias E) j) l) :
    r.2 = 0 ∧ r.1 < 2 ^ (E + P) ∧ ∃ z : Int, valueR E P r.1 = (wvalK E P (bias E) i - wvalK E P (bias E) j * (z : Rat), 0) ∧
      absQ (wvalK E P (bias E) i - wvalK E P (bias E) j * (z : Rat)) + absQ (wvalK E P (bias E) i - wvalK E P (bias E) j * (z : Rat)) ≤ absQ (wvalK E P (bias E) j) := by
  have va : IsVal P (bias E) (wvalK E P (bias E) i) := by rw [wvalK_fin ki]; exact wval_isVal hP
  have vb : IsVal P (bias E) (wvalK E P (bias E) j) := by rw [wvalK_fin kj]; exact wval_isVal hP
  have gb : absQ (wvalK E P (bias E) j) ≤ grQ P (bias E) := by rw [wvalK_fin kj]; exact wval_le hE hP (fin_wf kj)
  have kb : wkind E P j ≠ 1 := fun e => b0 ((kind_zero kj).1 e)
  have ka : wkind E P i = 1 → wvalK E P (bias E) i = 0 := (kind_zero ki).1
  unfold remR at hr
  unfold remV at hl
  rw [if_neg (by omega)] at hr
  generalize wvalK E P (bias E) i = a at *
  generalize wvalK E P (bias E) j = c at *
  by_cases h1 : wkind E P i = 1
  · rw [if_pos (.inl h1)] at hr
    unfold exR at hr
    rw [if_pos h1] at hr
    obtain ⟨k1, k2⟩ := sgb_ok hE hP (wn E P i)
    have e : a - c * ((0 : Int) : Rat) = 0 := by
      rw [ka h1, show ((0 : Int) : Rat) = 0 from rfl]; grind
    rw [hr]
    refine ⟨rfl, k1, 0, ?_, ?_⟩
    · rw [e]; exact k2
    · rw [e, absQ_nonneg Rat.le_refl]
      have := absQ_zero_le c
      grind
  · rw [if_neg (by omega)] at hr hl
    have near := rem_near a c b0
    have vr := rem_val va vb _ near
    have gr : absQ (a - c * ((remN (a / c) : Int) : Rat)) ≤ grQ P (bias E) := by
      have := absQ_zero_le (a - c * ((remN (a / c) : Int) : Rat))
      grind
    by_cases hd : a - c * ((remN (a / c) : Int) : Rat) = 0
    · rw [if_pos hd] at hr
      obtain ⟨k1, k2⟩ := sgb_ok hE hP (wn E P i)
      rw [hr]
      exact ⟨rfl, k1, _, by rw [hd]; exact k2, near⟩
    · rw [if_neg hd] at hr
      unfold rnd at hr
      rw [if_neg hd] at hr
      rw [hr]
      obtain ⟨k1, k2, k3⟩ := round_ok (m := m) hE hP (hl hd) vr gr
      exact ⟨k1, k2, _, k3, near⟩
end Go.Proofs.YtpjpaiaaimmngaaGreatDoor
