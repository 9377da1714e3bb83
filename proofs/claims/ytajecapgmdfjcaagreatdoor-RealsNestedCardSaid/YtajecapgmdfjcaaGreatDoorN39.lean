/- exact: square roots of numbers, rounded down or up, by reckoning. -/
import Derived.Test.YtajecapgmdfjcaaGreatDoorN38
namespace Go.Proofs.YtajecapgmdfjcaaGreatDoor
open Go.RowKit Vn
abbrev pN (n : Nat) : AV := .c (.o 0 n)
section
variable {m n K : Nat} {q : Rat}
theorem exists_root : ∀ n : Nat, ∃ s, IsRoot n s
 | 0 => ⟨0, by unfold IsRoot; decide⟩
 | n + 1 => by
  obtain ⟨s, h1, h2⟩ := exists_root n
  by_cases h : n + 1 < (s + 1) * (s + 1)
  ·exact ⟨s, by omega, h⟩
  ·refine ⟨s + 1, by omega, ?_⟩
   have : (s + 1 + 1) * (s + 1 + 1) = (s + 1) * (s + 1) + 2 * s + 3 := by grind
   omega
noncomputable def isq (n : Nat) : Nat := Classical.choose (exists_root n)
theorem isq_is (n : Nat) : IsRoot n (isq n) := Classical.choose_spec (exists_root n)
theorem isq_eq {n s : Nat} (h : IsRoot n s) : isq n = s := (isq_is n).unique h
theorem isq_pos {n : Nat} (h : 0 < n) : 0 < isq n := by
 have h1 := isq_is n
 rcases Nat.eq_zero_or_pos (isq n) with h0 | h0
 ·rw [h0] at h1; have := h1.2; omega
 ·exact h0
theorem isq_le (n : Nat) : isq n ≤ n := by
 have h1 := (isq_is n).1
 rcases Nat.eq_zero_or_pos (isq n) with h0 | h0
 ·omega
 ·exact Nat.le_trans (Nat.le_mul_of_pos_left _ h0) h1
theorem isq_sm (h : Sm K n) : Sm K (isq n) := Nat.lt_of_le_of_lt (isq_le n) h
theorem cal_n1 {P : Program} {k : FuncId} {n r : Nat} (hb : bodyB P k = true) (h : ∀ x w, NatV w x n → Calls P k #[x] w fun e w' => ∃ v, e = .returned v ∧ NatV w' v r ∧ Ext w w') : Cal P OQ k [pN n] (pN r) :=
 cal_of hb rfl fun _ w vs _ hv => match vs, hv with
  | [x], hv => (h x w hv.1).mono fun _ _ ⟨v, h1, h2, h3⟩ => ⟨v, h1, h3, fun _ => h2⟩
theorem cal_n2 {P : Program} {k : FuncId} {m n r : Nat} (hb : bodyB P k = true) (h : ∀ x y w, NatV w x m → NatV w y n → Calls P k #[x, y] w fun e w' => ∃ v, e = .returned v ∧ NatV w' v r ∧ Ext w w') : Cal P OQ k [pN m, pN n] (pN r) :=
 cal_of hb rfl fun _ w vs _ hv => match vs, hv with
  | [x, y], hv => (h x y w hv.1 hv.2.1).mono fun _ _ ⟨v, h1, h2, h3⟩ => ⟨v, h1, h3, fun _ => h2⟩
theorem cNatRoot (sx : Sm K n) (hK : K ≤ 40000000) (h0 : 0 < n) : Cal Tryz.prog OQ 175 [pN n] (pN (isq n)) :=
 cal_n1 (by kernel_rfl) fun x w hx => (root_c x n K w hx sx hK h0).mono fun _ _ ⟨_, _, _, s, h1, h2, h3, h4⟩ => ⟨_, h1, by rw [isq_eq h3]; exact h2, h4⟩
theorem cNatMul (sx : Sm K m) (sy : Sm K n) (hK : K ≤ 100000000) : Cal Tryz.prog OQ 74 [pN m, pN n] (pN (m * n)) :=
 cal_n2 (by kernel_rfl) fun x y w hx hy => (mul_c x y m n K w hx hy sx sy hK).mono fun _ _ ⟨_, _, _, h1, h2, h3⟩ => ⟨_, h1, h2, h3⟩
theorem cNatAdd (sx : Sm K m) (sy : Sm K n) (hK : K ≤ 100000000) : Cal Tryz.prog OQ 76 [pN m, pN n] (pN (m + n)) :=
 cal_n2 (by kernel_rfl) fun x y w hx hy => (add_c x y m n K w hx hy sx sy hK).mono fun _ _ ⟨_, _, _, h1, h2, h3⟩ => ⟨_, h1, h2, h3⟩
theorem cNatCmp (sx : Sm K m) (sy : Sm K n) (hK : K ≤ 100000000) : Cal Tryz.prog OQ 77 [pN m, pN n] (iA (cmpN m n)) :=
 cal_of (by kernel_rfl) rfl fun _ w vs _ hv => match vs, hv with
  | [x, y], hv => (cmp_c x y m n K w hv.1 hv.2.1 sx sy hK).mono fun _ _ ⟨h1, h3⟩ => ⟨_, h1, h3, fun _ => ⟨rfl, rfl⟩⟩
theorem cOf {n : Nat} (hn : n < 18446744073709551616) : Cal Tryz.prog OQ 26 [.c (.v (.int .u64 (n : Nat)))] (pN n) :=
 cal_of (by kernel_rfl) rfl fun _ w vs _ hv => match vs, hv with
  | [x], hv => by
   have e := sc_of hv.1
   subst e
   exact (of_c n w (by omega) (by omega)).mono fun _ _ ⟨_, _, _, h1, h2, h3⟩ => ⟨_, h1, h3, fun _ => h2⟩
theorem cMade {neg : Bool} {P Q : Nat} (sx : Sm K P) (sy : Sm K Q) (hK : K ≤ 50000000) (hQ : 0 < Q) : Cal Tryz.prog OQ 25 [bA neg, pN P, pN Q] (nA (mkq neg P Q)) :=
 cal_of (by kernel_rfl) rfl fun _ w vs _ hv => match vs, hv with
  | [x, y, z], hv => by
   have e := sc_of hv.1
   subst e
   exact (made_c neg y z P Q K w hv.2.1 hv.2.2.1 sx sy hK hQ).mono fun _ _ ⟨v, h1, h2, h3⟩ => ⟨v, h1, h3, rep_num h2⟩
theorem cNlog (sx : SmQ K q) (hK : K ≤ 10000000) (h : q ≠ 0) : Cal Tryz.prog OQ 84 [nA q] (iA (lgQ q)) :=
 cal1 (R := fun _ v => v = .int .i64 (lgQ q)) (by kernel_rfl) rfl (rep_sc rfl) fun x w _ hx => (logA_c x q K w hx sx hK (fun e => h (Rat.num_eq_zero.1 e))).mono fun _ _ ⟨k, h1, h2, h3⟩ => ⟨_, h1, by rw [(lg_is h).unique h2], h3⟩
theorem cShifted {k : Int} (sx : SmQ K q) (h0 : -1000000 ≤ k) (h1 : k ≤ 1000000) (hK : K ≤ 20000000) : Cal Tryz.prog OQ 115 [nA q, iA k] (nA (q * (2 : Rat) ^ k)) :=
 cal1i (by kernel_rfl) rfl rep_num fun x w _ hx => (shifted_c x q K k w hx sx h0 h1 hK).mono fun _ _ ⟨v, h1, h2, h3⟩ => ⟨v, h1, h2, h3⟩
theorem cWholeD (sx : SmQ K q) (hK : K ≤ 20000000) : Cal Tryz.prog OQ 114 [nA q, bA false] (nA (mkq (decide (q.num < 0)) (q.num.natAbs / q.den) 1)) :=
 cal1i (by kernel_rfl) rfl rep_num fun x w _ hx => (whole_down x q K w hx sx hK).mono fun _ _ ⟨v, h1, h2, h3⟩ => ⟨v, h1, h2, h3⟩
end
def inR (b : Int) : Int := if (if 1 > b then 1 else b) > 4000 then 4000 else (if 1 > b then 1 else b)
theorem inR_eq (b : Int) : 1 ≤ inR b ∧ inR b ≤ 4000 := by unfold inR; split <;> split <;> omega
theorem cInRange {b : Int} : Cal Tryz.prog OQ 174 [iA b] (iA (inR b)) := by
 refine fn_call TK MX Tryz.func174 rfl (by kernel_rfl) (by kernel_rfl) (by kernel_rfl) rfl rfl ?_
 conv => whnf
 rfl
end Go.Proofs.YtajecapgmdfjcaaGreatDoor

/- exact: Down, Up, RootDown, RootUp, Max. -/
namespace Go.Proofs.YtajecapgmdfjcaaGreatDoor
open Go.RowKit Vn
section
variable {K : Nat} {q r : Rat} {bits : Int}
def whQ (away : Bool) (q : Rat) : Rat := mkq (decide (q.num < 0)) (if (away && decide (q.num.natAbs % q.den ≠ 0)) = true then q.num.natAbs / q.den + 1 else q.num.natAbs / q.den) 1
theorem cWhole {away : Bool} (sx : SmQ K q) (hK : K ≤ 20000000) : Cal Tryz.prog OQ 114 [nA q, bA away] (nA (whQ away q)) := by
 cases away with
 | false => exact cWholeD sx hK
 | true =>
  by_cases h : q.num.natAbs % q.den = 0
  ·have e : whQ true q = mkq (decide (q.num < 0)) (q.num.natAbs / q.den) 1 := by simp [whQ, h]
   rw [e]
   exact cal1i (by kernel_rfl) rfl rep_num fun x w _ hx => (whole_int x q K w hx sx hK h).mono fun _ _ ⟨v, h1, h2, h3⟩ => ⟨v, h1, h2, h3⟩
  ·have e : whQ true q = mkq (decide (q.num < 0)) (q.num.natAbs / q.den + 1) 1 := by simp [whQ, h]
   rw [e]
   exact cal1i (by kernel_rfl) rfl rep_num fun x w _ hx => (whole_up x q K w hx sx hK h).mono fun _ _ ⟨v, h1, h2, h3⟩ => ⟨v, h1, h2, h3⟩
theorem whQ_sm {away : Bool} (sx : SmQ K q) : SmQ (K + 1) (whQ away q) := by
 have h1 := sx.1
 have hk := sx.pos
 unfold whQ
 refine ⟨?_, ?_⟩
 ·rw [mkq_natAbs _ _ _ (by decide)]
  have h2 : q.num.natAbs / q.den ≤ q.num.natAbs := Nat.div_le_self _ _
  have h3 : q.num.natAbs < 2 ^ K := h1
  have h4 : 2 ^ (K + 1) = 2 ^ K + 2 ^ K := by rw [Nat.pow_succ]; omega
  simp only [Nat.gcd_one_right, Nat.div_one]
  show _ < 2 ^ (K + 1)
  split <;> omega
 ·rw [mkq_den _ _ _ (by decide)]
  simp only [Nat.gcd_one_right, Nat.div_one]
  exact Nat.one_lt_two_pow (by omega)
def gridK (bits : Int) (q : Rat) : Int := lgQ q - inR bits + 1
def gridQ (bits : Int) (away : Bool) (q : Rat) : Rat := if q = 0 then q else whQ away (q * (2 : Rat) ^ (-gridK bits q)) * (2 : Rat) ^ (gridK bits q)
theorem gridK_bound (sx : SmQ K q) (h : q ≠ 0) : -(K : Int) - 4001 ≤ gridK bits q ∧ gridK bits q ≤ K := by
 have h1 := (lg_is h).bound sx.absQ
 have := inR_eq bits
 unfold gridK; omega
set_option maxHeartbeats 1000000 in
theorem cGrid {away : Bool} (sx : SmQ K q) (hK : K ≤ 100000) : Cal Tryz.prog OQ 144 [nA q, iA bits, bA away] (nA (gridQ bits away q)) := by
 refine fn_call TK MX Tryz.func144 rfl (by kernel_rfl) (by kernel_rfl) (by kernel_rfl) rfl rfl ?_
 conv => whnf
 refine ⟨_, cSign, ?_⟩
 conv => whnf
 by_cases h0 : q = 0
 ·subst h0
  conv => whnf
  rfl
 ·have hs : (q.num.sign == 0) = false := by
   have : q.num.sign ≠ 0 := fun e => h0 (Rat.num_eq_zero.1 (Int.sign_eq_zero_iff_zero.1 e))
   simpa using this
  have hk := gridK_bound (bits := bits) sx h0
  have hl := (lg_is h0).bound sx.absQ
  have hr := inR_eq bits
  have e : gridQ bits away q = whQ away (q * (2 : Rat) ^ (-gridK bits q)) * (2 : Rat) ^ (gridK bits q) := if_neg h0
  rw [hs, e]
  conv => whnf
  refine ⟨_, cNlog sx (by omega) h0, ?_⟩
  conv => whnf
  refine ⟨_, cInRange, ?_⟩
  conv => whnf
  rw [IntWalk.i64_in (lgQ q - inR bits) (by omega), IntWalk.i64_in (lgQ q - inR bits + 1) (by omega)]
  rw [show lgQ q - inR bits + 1 = gridK bits q from rfl]
  generalize hkk : gridK bits q = k at *
  rw [IntWalk.i64_in (0 - k) (by omega), Int.zero_sub]
  refine ⟨_, cShifted sx (by omega) (by omega) (by omega), ?_⟩
  conv => whnf
  have st : SmQ (K + 250000) (q * (2 : Rat) ^ (-k)) := sx.mul_p2 (-k) 250000 (by omega)
  refine ⟨_, cWhole st (by omega), ?_⟩
  conv => whnf
  refine ⟨_, cShifted (whQ_sm st) (by omega) (by omega) (by omega), ?_⟩
  conv => whnf
  rfl
def dnQ (bits : Int) (q : Rat) : Rat := gridQ bits (decide (q.num < 0)) q
def upQ (bits : Int) (q : Rat) : Rat := gridQ bits (!decide (q.num < 0)) q
theorem cDown (sx : SmQ K q) (hK : K ≤ 100000) : Cal Tryz.prog OQ 103 [nA q, iA bits] (nA (dnQ bits q)) := by
 refine fn_call TK MX Tryz.func103 rfl (by kernel_rfl) (by kernel_rfl) (by kernel_rfl) rfl rfl ?_
 conv => whnf
 refine ⟨_, cGrid sx hK, ?_⟩
 conv => whnf
 rfl
theorem cUp (sx : SmQ K q) (hK : K ≤ 100000) : Cal Tryz.prog OQ 104 [nA q, iA bits] (nA (upQ bits q)) := by
 refine fn_call TK MX Tryz.func104 rfl (by kernel_rfl) (by kernel_rfl) (by kernel_rfl) rfl rfl ?_
 conv => whnf
 refine ⟨_, cGrid sx hK, ?_⟩
 conv => whnf
 rfl
theorem cMaxQ (sx : SmQ K q) (sy : SmQ K r) (hK : K ≤ 20000000) : Cal Tryz.prog OQ 106 [nA q, nA r] (nA (if cmpQ q r < 0 then r else q)) := by
 refine fn_call TK MX Tryz.func106 rfl (by kernel_rfl) (by kernel_rfl) (by kernel_rfl) rfl rfl ?_
 conv => whnf
 refine ⟨_, cCmp sx sy hK, ?_⟩
 conv => whnf
 cases h : decide (cmpQ q r < 0)
 ·have := of_decide_eq_false h
  rw [if_neg this]
  conv => whnf
  rfl
 ·have := of_decide_eq_true h
  rw [if_pos this]
  conv => whnf
  rfl
end
end Go.Proofs.YtajecapgmdfjcaaGreatDoor

/- exact: RootDown, RootUp. -/
namespace Go.Proofs.YtajecapgmdfjcaaGreatDoor
open Go.RowKit Vn
def isqGo (n : Nat) : Nat → Nat → Nat
 | 0, s => s
 | b + 1, s => isqGo n b (if (s + 2 ^ b) * (s + 2 ^ b) ≤ n then s + 2 ^ b else s)
def isqC (n : Nat) : Nat := isqGo n (bl n / 2 + 1) 0
theorem isqGo_is (n : Nat) : ∀ (b s : Nat), s * s ≤ n → n < (s + 2 ^ b) * (s + 2 ^ b) → IsRoot n (isqGo n b s)
 | 0, s, h1, h2 => ⟨h1, by simpa [isqGo] using h2⟩
 | b + 1, s, h1, h2 => by
  simp only [isqGo]
  have e : 2 ^ (b + 1) = 2 ^ b + 2 ^ b := by rw [Nat.pow_succ]; omega
  rw [e, ← Nat.add_assoc] at h2
  by_cases h : (s + 2 ^ b) * (s + 2 ^ b) ≤ n
  ·rw [if_pos h]; exact isqGo_is n b _ h h2
  ·rw [if_neg h]; exact isqGo_is n b s h1 (by omega)
theorem isqC_eq (n : Nat) : isq n = isqC n := by
 refine isq_eq (isqGo_is n _ 0 (by simp) ?_)
 have h1 := bl_lt n
 have h2 : 2 ^ bl n ≤ 2 ^ (bl n / 2 + 1) * 2 ^ (bl n / 2 + 1) := by
  rw [← Nat.pow_add]
  exact Nat.pow_le_pow_right (by decide) (by omega)
 rw [Nat.zero_add]; omega
section
variable {K : Nat} {q : Rat} {bits : Int}
theorem shr1 (L : Int) : L.fdiv (2 ^ min (1 : Int).toNat IntKind.i64.bits) = L / 2 := by
 show L.fdiv 2 = L / 2
 exact Int.fdiv_eq_ediv_of_nonneg _ (by decide)
theorem num_posN (h : 0 < q) : 0 < q.num := by
 have h0 : 0 ≤ q.num := Rat.num_nonneg.2 (Rat.le_of_lt h)
 have h1 : q.num ≠ 0 := fun e => by rw [Rat.num_eq_zero] at e; subst e; exact Rat.lt_irrefl h
 omega
theorem sgn_pos (h : 0 < q) : q.num.sign = 1 := Int.sign_eq_one_of_pos (num_posN h)
def rtK (bits : Int) (q : Rat) : Int := lgQ q / 2 - inR bits + 1
theorem rtK_bound (sx : SmQ K q) (h : 0 < q) : -(K : Int) - 4001 ≤ rtK bits q ∧ rtK bits q ≤ K := by
 have h1 := (lg_is (q := q) (by grind)).bound sx.absQ
 have := inR_eq bits
 unfold rtK; omega
def rtT (bits : Int) (q : Rat) : Rat := q * (2 : Rat) ^ (-2 * rtK bits q)
def rtN (bits : Int) (q : Rat) : Nat := (rtT bits q).num.natAbs / (rtT bits q).den
def rtM (up : Bool) (bits : Int) (q : Rat) : Nat := if (up && (!decide ((rtT bits q).den = 1) || decide (cmpN (isqC (rtN bits q) * isqC (rtN bits q)) (rtN bits q) < 0))) = true then isqC (rtN bits q) + 1 else isqC (rtN bits q)
def rtQ (up : Bool) (bits : Int) (q : Rat) : Rat := if q = 0 then 0 else ((rtM up bits q : Nat) : Rat) * (2 : Rat) ^ (rtK bits q)
theorem rtT_pos (h : 0 < q) : 0 < rtT bits q := Rat.mul_pos h (p2_pos _)
theorem rtN_pos (h : 0 < q) : 0 < rtN bits q := by
 have h0 : q ≠ 0 := by grind
 have hl := lg_is h0
 have hb := inR_eq bits
 have h1 : (2 : Rat) ^ (lgQ q) ≤ q := by
  have := hl.1
  rw [absQ_eq, if_neg (by have := num_posN h; omega)] at this
  exact this
 have h3 : (1 : Rat) ≤ rtT bits q := by
  have h2 := Rat.mul_le_mul_of_nonneg_right h1 (Rat.le_of_lt (p2_pos (-2 * rtK bits q)))
  rw [← p2_add] at h2
  have h4 : (2 : Rat) ^ (0 : Int) ≤ (2 : Rat) ^ (lgQ q + -2 * rtK bits q) := p2_mono (by unfold rtK; omega)
  have e : (2 : Rat) ^ (0 : Int) = 1 := Rat.zpow_zero _
  rw [e] at h4; exact Rat.le_trans h4 h2
 have h4 : (1 : Int) ≤ (rtT bits q).floor := by rw [Rat.le_floor_iff]; exact h3
 rw [Rat.floor_def] at h4
 have h0 := num_posN (rtT_pos (bits := bits) h)
 unfold rtN
 generalize rtT bits q = t at *
 have e : t.num = ((t.num.natAbs : Nat) : Int) := by omega
 rw [e] at h4
 have : ((t.num.natAbs : Nat) : Int) / (t.den : Int) = ((t.num.natAbs / t.den : Nat) : Int) := rfl
 rw [this] at h4
 omega
set_option maxRecDepth 100000 in
set_option maxHeartbeats 4000000 in
theorem cRooted {up : Bool} (sx : SmQ K q) (h : 0 ≤ q) (hK : K ≤ 100000) : Cal Tryz.prog OQ 145 [nA q, iA bits, bA up] (.t [nA (rtQ up bits q), iA 0]) := by
 refine fn_call TK MX Tryz.func145 rfl (by kernel_rfl) (by kernel_rfl) (by kernel_rfl) rfl rfl ?_
 by_cases h0 : q = 0
 ·subst h0
  rw [show rtQ up bits 0 = 0 from if_pos rfl]
  conv => whnf
  refine ⟨_, cSign, ?_⟩
  conv => whnf
  rfl
 ·have hp : 0 < q := by grind
  have hk := rtK_bound (bits := bits) sx hp
  have hl := (lg_is h0).bound sx.absQ
  have hr := inR_eq bits
  have st : SmQ (K + 250000) (rtT bits q) := (sx.mul_p2 (-2 * rtK bits q) 250000 (by omega))
  have hn := rtN_pos (bits := bits) hp
  have sS : Sm (K + 250000) (rtN bits q) := st.1.of_le (Nat.div_le_self _ _)
  have hres : rtQ up bits q = ((rtM up bits q : Nat) : Rat) * (2 : Rat) ^ (rtK bits q) := if_neg h0
  have sR : Sm (K + 250000) (isqC (rtN bits q)) := by rw [← isqC_eq]; exact isq_sm sS
  have hng : decide ((rtT bits q).num < 0) = false := dF (by have := num_posN (rtT_pos (bits := bits) hp); omega)
  rw [hres]
  conv => whnf
  refine ⟨_, cSign, ?_⟩
  rw [sgn_pos hp]
  conv => whnf
  refine ⟨_, cNlog sx (by omega) h0, ?_⟩
  conv => whnf
  refine ⟨_, cInRange, ?_⟩
  conv => whnf
  rw [shr1, IntWalk.i64_in (lgQ q / 2 - inR bits) (by omega), IntWalk.i64_in (lgQ q / 2 - inR bits + 1) (by omega)]
  rw [show lgQ q / 2 - inR bits + 1 = rtK bits q from rfl]
  rw [IntWalk.i64_in (-2 * rtK bits q) (by omega)]
  refine ⟨_, cShifted sx (by omega) (by omega) (by omega), ?_⟩
  rw [show q * (2 : Rat) ^ (-2 * rtK bits q) = rtT bits q from rfl]
  conv => whnf
  refine ⟨_, cWholeD st (by omega), ?_⟩
  rw [hng, show (rtT bits q).num.natAbs / (rtT bits q).den = rtN bits q from rfl, mkq_nat]
  conv => whnf
  refine ⟨_, cNatRoot (n := rtN bits q) sS (by omega) hn, ?_⟩
  rw [isqC_eq]
  conv => whnf
  have sR1 : Sm (K + 250001) (isqC (rtN bits q)) := sR.mono (by omega)
  have sR2 : Sm (K + 250001) (isqC (rtN bits q) + 1) := by
   have h1 : isqC (rtN bits q) < 2 ^ (K + 250000) := sR
   show _ < 2 ^ (K + 250001)
   rw [show K + 250001 = (K + 250000) + 1 by omega, Nat.pow_succ]
   have : 0 < 2 ^ (K + 250000) := Nat.pow_pos (by decide)
   omega
  cases up with
  | false =>
   have e : rtM false bits q = isqC (rtN bits q) := by simp [rtM]
   rw [e] at *
   conv => whnf
   refine ⟨_, cOf (n := 1) (by decide), ?_⟩
   conv => whnf
   refine ⟨_, cMade (K := K + 250001) sR1 (Nat.one_lt_two_pow (by omega)) (by omega) (by decide), ?_⟩
   rw [mkq_nat]
   conv => whnf
   refine ⟨_, cShifted (SmQ.nat (by omega) sR1) (by omega) (by omega) (by omega), ?_⟩
   conv => whnf
   rfl
  | true =>
   conv => whnf
   have cI : Cal Tryz.prog OQ 123 [.g [.v (.bool false), .o 0 (rtT bits q).num.natAbs, .o 1 (rtT bits q).den]] (bA (decide ((rtT bits q).den = 1))) := by
    have := cIsInt (q := rtT bits q)
    rw [show nA (rtT bits q) = .g [.v (.bool (decide ((rtT bits q).num < 0))), .o 0 (rtT bits q).num.natAbs, .o 1 (rtT bits q).den] from rfl, hng] at this
    exact this
   refine ⟨_, cI, ?_⟩
   cases hd : decide ((rtT bits q).den = 1)
   ·have e : rtM true bits q = isqC (rtN bits q) + 1 := by simp [rtM, hd]
    rw [e] at *
    conv => whnf
    refine ⟨_, cOf (n := 1) (by decide), ?_⟩
    conv => whnf
    refine ⟨_, cNatAdd (n := 1) sR1 (Nat.one_lt_two_pow (by omega)) (by omega), ?_⟩
    conv => whnf
    refine ⟨_, cOf (n := 1) (by decide), ?_⟩
    conv => whnf
    refine ⟨_, cMade (K := K + 250001) sR2 (Nat.one_lt_two_pow (by omega)) (by omega) (by decide), ?_⟩
    rw [mkq_nat]
    conv => whnf
    refine ⟨_, cShifted (SmQ.nat (by omega) sR2) (by omega) (by omega) (by omega), ?_⟩
    conv => whnf
    rfl
   ·conv => whnf
    refine ⟨_, cNatMul sR1 sR1 (by omega), ?_⟩
    conv => whnf
    have sM : Sm (2 * (K + 250001)) (isqC (rtN bits q) * isqC (rtN bits q)) := by
     have h1 : isqC (rtN bits q) < 2 ^ (K + 250001) := sR1
     show _ < 2 ^ (2 * (K + 250001))
     rw [Nat.two_mul, Nat.pow_add]
     exact Nat.mul_lt_mul'' h1 h1
    refine ⟨_, cNatCmp sM (sS.mono (by omega)) (by omega), ?_⟩
    cases hc : decide (cmpN (isqC (rtN bits q) * isqC (rtN bits q)) (rtN bits q) < 0)
    ·have e : rtM true bits q = isqC (rtN bits q) := by simp [rtM, hd, hc]
     rw [e] at *
     conv => whnf
     rw [show ((rtN bits q : Nat) : Rat).num.natAbs = rtN bits q from rfl, hc]
     conv => whnf
     refine ⟨_, cOf (n := 1) (by decide), ?_⟩
     conv => whnf
     refine ⟨_, cMade (K := K + 250001) sR1 (Nat.one_lt_two_pow (by omega)) (by omega) (by decide), ?_⟩
     rw [mkq_nat]
     conv => whnf
     refine ⟨_, cShifted (SmQ.nat (by omega) sR1) (by omega) (by omega) (by omega), ?_⟩
     conv => whnf
     rfl
    ·have e : rtM true bits q = isqC (rtN bits q) + 1 := by simp [rtM, hd, hc]
     rw [e] at *
     conv => whnf
     rw [show ((rtN bits q : Nat) : Rat).num.natAbs = rtN bits q from rfl, hc]
     conv => whnf
     refine ⟨_, cOf (n := 1) (by decide), ?_⟩
     conv => whnf
     refine ⟨_, cNatAdd (n := 1) sR1 (Nat.one_lt_two_pow (by omega)) (by omega), ?_⟩
     conv => whnf
     refine ⟨_, cOf (n := 1) (by decide), ?_⟩
     conv => whnf
     refine ⟨_, cMade (K := K + 250001) sR2 (Nat.one_lt_two_pow (by omega)) (by omega) (by decide), ?_⟩
     rw [mkq_nat]
     conv => whnf
     refine ⟨_, cShifted (SmQ.nat (by omega) sR2) (by omega) (by omega) (by omega), ?_⟩
     conv => whnf
     rfl
theorem cRootDn (sx : SmQ K q) (h : 0 ≤ q) (hK : K ≤ 100000) : Cal Tryz.prog OQ 107 [nA q, iA bits] (.t [nA (rtQ false bits q), iA 0]) := by
 refine fn_call TK MX Tryz.func107 rfl (by kernel_rfl) (by kernel_rfl) (by kernel_rfl) rfl rfl ?_
 conv => whnf
 refine ⟨_, cRooted sx h hK, ?_⟩
 conv => whnf
 rfl
theorem cRootUp (sx : SmQ K q) (h : 0 ≤ q) (hK : K ≤ 100000) : Cal Tryz.prog OQ 108 [nA q, iA bits] (.t [nA (rtQ true bits q), iA 0]) := by
 refine fn_call TK MX Tryz.func108 rfl (by kernel_rfl) (by kernel_rfl) (by kernel_rfl) rfl rfl ?_
 conv => whnf
 refine ⟨_, cRooted sx h hK, ?_⟩
 conv => whnf
 rfl
end
end Go.Proofs.YtajecapgmdfjcaaGreatDoor

/- an enclosure of an element, where enclosures of the roots are known. -/
namespace Go.Proofs.YtajecapgmdfjcaaGreatDoor
open Go.RowKit Vn
abbrev Sp := Rat × Rat
def rowsS (rs : List Sp) : List (List AC) := rs.map fun r => numA r.1 ++ numA r.2
abbrev spA (s : Sp) : AV := .g (numA s.1 ++ numA s.2)
def spanL (bits set : Int) : Nat → List Sp → Sp → Sp
 | _, [], s => s
 | i, r :: rs, s => spanL bits set (i + 1) rs (if bitK set (i : Nat) then (dnQ bits (s.1 * r.1), upQ bits (s.2 * r.2)) else s)
def spanP (bits : Int) (rs : List Sp) (p : Int × Rat) : Sp :=
 if p.2.num.sign < 0 then (-(spanL bits p.1 0 rs (absQ p.2, absQ p.2)).2, -(spanL bits p.1 0 rs (absQ p.2, absQ p.2)).1) else spanL bits p.1 0 rs (absQ p.2, absQ p.2)
def encE (bits : Int) (rs : List Sp) : El → Sp
 | [] => (0, 0)
 | p :: x => ((spanP bits rs p).1 + (encE bits rs x).1, (spanP bits rs p).2 + (encE bits rs x).2)
def spanLB (K : Nat) (bits set : Int) : Nat → List Sp → Sp → Bool
 | _, [], s => smqB K s.1 && smqB K s.2
 | i, r :: rs, s => cond (bitK set (i : Nat)) (smqB K s.1 && (smqB K s.2 && (smqB K r.1 && (smqB K r.2 && spanLB K bits set (i + 1) rs (dnQ bits (s.1 * r.1), upQ bits (s.2 * r.2)))))) (spanLB K bits set (i + 1) rs s)
def encB (K : Nat) (bits : Int) (rs : List Sp) (x : El) : Bool := decide (0 < K ∧ x.length * (K + 1) + 2 * K + 2 ≤ 100000) && (smB K x && x.all fun p => spanLB K bits p.1 0 rs (absQ p.2, absQ p.2))
theorem encE_erase (bits : Int) (rs : List Sp) : ∀ {L : El} {i : Nat} {p : Int × Rat}, L[i]? = some p → (encE bits rs L).1 = (spanP bits rs p).1 + (encE bits rs (L.eraseIdx i)).1 ∧ (encE bits rs L).2 = (spanP bits rs p).2 + (encE bits rs (L.eraseIdx i)).2
 | [], _, _, h => by simp at h
 | x :: L, 0, p, h => by simp at h; subst h; exact ⟨rfl, rfl⟩
 | x :: L, i + 1, p, h => by
  have h : L[i]? = some p := by simpa using h
  obtain ⟨h1, h2⟩ := encE_erase bits rs h
  simp only [List.eraseIdx_cons_succ, encE]
  constructor
  ·rw [h1, ← Rat.add_assoc, ← Rat.add_assoc, Rat.add_comm (spanP bits rs x).1]
  ·rw [h2, ← Rat.add_assoc, ← Rat.add_assoc, Rat.add_comm (spanP bits rs x).2]
theorem spanL_sm {K : Nat} {bits set : Int} : ∀ (rs : List Sp) (i : Nat) (s : Sp), spanLB K bits set i rs s = true → SmQ K (spanL bits set i rs s).1 ∧ SmQ K (spanL bits set i rs s).2
 | [], _, s, h => by
  simp only [spanLB, Bool.and_eq_true] at h
  exact ⟨smqB_ok h.1, smqB_ok h.2⟩
 | r :: rs, i, s, h => by
  simp only [spanLB] at h
  simp only [spanL]
  cases hb : bitK set (i : Nat) with
  | true =>
   rw [hb] at h
   simp only [cond_true, Bool.and_eq_true] at h
   rw [if_pos rfl]
   exact spanL_sm rs (i + 1) _ h.2.2.2.2
  | false =>
   rw [hb] at h
   rw [if_neg (by simp)]
   exact spanL_sm rs (i + 1) s h
theorem rowsS_get {rs : List Sp} {j : Nat} {r : Sp} (h : rs[j]? = some r) : (rowsS rs).getD j [] = numA r.1 ++ numA r.2 := by
 simp [rowsS, List.getD_eq_getElem?_getD, List.getElem?_map, h]
theorem rowsS_len (rs : List Sp) : (rowsS rs).length = rs.length := by simp [rowsS]
structure ES (K : Nat) (bits : Int) (rs : List Sp) (x : El) where
 left : El
 s : Sp
 cur : Option (Int × List AC)
 lo : s.1 + (encE bits rs left).1 = (encE bits rs x).1
 hi : s.2 + (encE bits rs left).2 = (encE bits rs x).2
 mem : ∀ p ∈ left, p ∈ x
 len : left.length ≤ x.length
 sm : SmQ ((x.length - left.length) * (K + 1) + 1) s.1 ∧ SmQ ((x.length - left.length) * (K + 1) + 1) s.2
structure EI (K : Nat) (bits set : Int) (rs : List Sp) (target : Sp) where
 j : Nat
 s : Sp
 le : j ≤ rs.length
 res : spanL bits set j (rs.drop j) s = target
 ok : spanLB K bits set j (rs.drop j) s = true
set_option maxHeartbeats 4000000 in
theorem cEnc {K : Nat} {bits : Int} {rs : List Sp} {x : El} (hr : rs.length ≤ 60) (h : encB K bits rs x = true) :
  Cal Tryz.prog OQ 100 [eA x, .c (.e [.sl 6 (rowsS rs)]), .c (.e [.v (.int .i64 bits)])] (spA (encE bits rs x)) := by
 simp only [encB, Bool.and_eq_true, decide_eq_true_eq, List.all_eq_true] at h
 obtain ⟨⟨hK0, hK⟩, b1, b2⟩ := h
 have sx := smB_ok b1
 refine fn_callB [(5, [(0, 7), (1, 2000000), (2, 7), (3, 2000000), (6, 8), (7, 9)]), (10, [(0, 8), (2, 11), (3, 2000000), (4, 2000000), (5, 2000000), (6, 9), (8, 11), (9, 2000000), (10, 2000000), (11, 2000000), (12, 8), (13, 9)]), (13, [(0, 9), (1, 2000000), (2, 8), (3, 2000000), (4, 8), (5, 9)]), (14, [(1, 5), (2, 8), (3, 2000000), (5, 5), (6, 9), (7, 2000000), (9, 5), (11, 5)])]
  TK MX Tryz.func100 rfl (by kernel_rfl) (by kernel_rfl) (by kernel_rfl) rfl rfl ?_
 conv => whnf
 refine ⟨0, ES K bits rs x, fun _ => [(1, .c (.e [.sl 6 (rowsS rs)])), (2, .c (.e [.v (.int .i64 bits)])), (4, .c (.p 4 0)), (5, .c (.p 5 0)), (13, .c (.p 13 0))],
  fun s => [(4, .b 118 (numA 0 ++ numA 0)), (5, .b 118 (numA s.s.1 ++ numA s.s.2)), (13, .it true (keysE s.left) (valsE s.left) s.cur)], fun s => s.left.length, [],
  ⟨x, (0, 0), none, Rat.zero_add _, Rat.zero_add _, fun _ h => h, Nat.le_refl _, by simp; exact SmQ.zero _ (by omega)⟩, ⟨?_, ?_, rfl, rfl⟩, fun s => ?_⟩
 ·exact ⟨rfl, rfl, rfl, rfl, rfl, trivial⟩
 ·exact ⟨rfl, rfl, rfl, trivial⟩
 conv => whnf
 refine ⟨fun h => ?_, fun i k v hk hv => ?_⟩
 ·conv => whnf
  have e1 := s.lo; have e2 := s.hi
  rw [keys_nil h] at e1 e2
  simp only [encE, Rat.add_zero] at e1 e2
  rw [e1, e2]
  rfl
 ·obtain ⟨q, hq, rfl⟩ := key_at hk hv
  have hmem := s.mem _ (List.mem_of_getElem? hq)
  have hlen := s.len
  have b3 := b2 _ hmem
  have sq := sx _ hmem
  conv => whnf
  refine ⟨_, cAbs, ?_⟩
  conv => whnf
  refine ⟨_, cAbs, ?_⟩
  conv => whnf
  have hw : ∀ j : Nat, j ≤ 60 → IntKind.i64.wrap (((j : Nat) : Int) + 1) = ((j + 1 : Nat) : Int) := fun j hj => by
   rw [IntWalk.i64_in _ (by omega)]; omega
  have hx1 : (x.length - s.left.length) * (K + 1) + (K + 1) ≤ x.length * (K + 1) := by
   have h1 := (List.getElem?_eq_some_iff.1 hq).1
   have : (x.length - s.left.length + 1) * (K + 1) ≤ x.length * (K + 1) := Nat.mul_le_mul_right _ (by omega)
   rw [Nat.add_mul, Nat.one_mul] at this; exact this
  refine ⟨0, EI K bits k rs (spanL bits k 0 rs (absQ q, absQ q)), fun z => [(1, .c (.e [.sl 6 (rowsS rs)])), (2, .c (.e [.v (.int .i64 bits)])), (4, .c (.p 4 0)), (5, .c (.p 5 0)), (13, .c (.p 13 0)), (6, iA k), (7, .c (.p 7 0)), (8, .c (.p 8 0)), (9, .c (.p 9 0)), (23, .c (.sl 6 (rowsS rs))), (24, iA ((rowsS rs).length : Nat)), (25, iA (z.j : Nat))],
   fun z => [(4, .b 118 (numA 0 ++ numA 0)), (5, .b 118 (numA s.s.1 ++ numA s.s.2)), (13, .it true ((keysE s.left).eraseIdx i) ((valsE s.left).eraseIdx i) (some (k, numA q))), (7, .b 33 (numA q)), (8, .b 33 (numA z.s.1)), (9, .b 33 (numA z.s.2))], fun z => rs.length - z.j, [],
   ⟨0, (absQ q, absQ q), Nat.zero_le _, rfl, b3⟩, ⟨?_, ?_, rfl, rfl⟩, fun z => ?_⟩
  ·exact ⟨rfl, rfl, rfl, rfl, rfl, rfl, rfl, rfl, rfl, rfl, rfl, rfl, trivial⟩
  ·exact ⟨rfl, rfl, rfl, rfl, rfl, rfl, trivial⟩
  have hz := z.le
  conv => whnf
  cases hlt : decide (((z.j : Nat) : Int) < (((rowsS rs).length : Nat) : Int))
  ·have hj : z.j = rs.length := by
    rw [rowsS_len] at hlt
    have := of_decide_eq_false hlt
    omega
   have he : z.s = spanL bits k 0 rs (absQ q, absQ q) := by
    have := z.res
    rw [hj, List.drop_length] at this; exact this
   obtain ⟨m1, m2⟩ := spanL_sm rs 0 _ b3
   rw [← he] at m1 m2
   have fin : ∀ (l h : Rat), (l, h) = spanP bits rs (k, q) → SmQ K l → SmQ K h → ∀ V : View, V.tv 1 = .c (.e [.sl 6 (rowsS rs)]) → V.tv 2 = .c (.e [.v (.int .i64 bits)]) → V.tv 4 = .c (.p 4 0) → V.tv 5 = .c (.p 5 0) → V.tv 13 = .c (.p 13 0) →
     V.bv 4 = some (.b 118 (numA 0 ++ numA 0)) → V.bv 5 = some (.b 118 (numA (s.s.1 + l) ++ numA (s.s.2 + h))) → V.bv 13 = some (.it true ((keysE s.left).eraseIdx i) ((valsE s.left).eraseIdx i) (some (k, numA q))) → V.bv 1000 = none →
     ∃ (fz : List Nat) (s' : ES K bits rs x), s'.left.length < s.left.length ∧ Agree [(1, .c (.e [.sl 6 (rowsS rs)])), (2, .c (.e [.v (.int .i64 bits)])), (4, .c (.p 4 0)), (5, .c (.p 5 0)), (13, .c (.p 13 0))]
      [(4, .b 118 (numA 0 ++ numA 0)), (5, .b 118 (numA s'.s.1 ++ numA s'.s.2)), (13, .it true (keysE s'.left) (valsE s'.left) s'.cur)] (V.fzs fz) := by
    intro l h hp sl sh V v1 v2 v4 v5 v13 w4 w5 w13 w1
    obtain ⟨e1, e2⟩ := encE_erase bits rs hq
    rw [← hp] at e1 e2
    have hsm := s.sm
    refine ⟨[], ⟨s.left.eraseIdx i, (s.s.1 + l, s.s.2 + h), some (k, numA q), ?_, ?_, fun p hp => s.mem p (List.mem_of_mem_eraseIdx hp), Nat.le_trans (List.length_eraseIdx_le _ _) s.len, ?_⟩, ?_, ⟨⟨v1, v2, v4, v5, v13, trivial⟩, ⟨w4, w5, ?_, trivial⟩, rfl, ?_⟩⟩
    ·rw [← s.lo, e1, Rat.add_assoc]
    ·rw [← s.hi, e2, Rat.add_assoc]
    ·have h1 := (List.getElem?_eq_some_iff.1 hq).1
     rw [List.length_eraseIdx_of_lt h1, show x.length - (s.left.length - 1) = (x.length - s.left.length) + 1 by omega, Nat.add_mul, Nat.one_mul]
     exact ⟨(SmQ.add hsm.1 sl).mono (by omega), (SmQ.add hsm.2 sh).mono (by omega)⟩
    ·show (s.left.eraseIdx i).length < s.left.length
     have := (List.getElem?_eq_some_iff.1 hq).1
     rw [List.length_eraseIdx_of_lt this]; omega
    ·show V.bv 13 = _
     rw [w13, keys_erase, vals_erase]
    ·show ((V.bv 1000).isSome && _) = false
     rw [w1]; rfl
   have ha1 := s.sm.1
   have ha2 := s.sm.2
   conv => whnf
   refine ⟨_, cSign, ?_⟩
   conv => whnf
   cases hs : decide (q.num.sign < 0)
   ·have hsp : (z.s.1, z.s.2) = spanP bits rs (k, q) := by
     unfold spanP
     rw [if_neg (of_decide_eq_false hs)]
     exact he
    conv => whnf
    refine ⟨_, cAdd (K := 100000) (ha1.mono (by omega)) (m1.mono (by omega)) (by omega), ?_⟩
    conv => whnf
    refine ⟨_, cAdd (K := 100000) (ha2.mono (by omega)) (m2.mono (by omega)) (by omega), ?_⟩
    conv => whnf
    exact fin _ _ hsp m1 m2 _ rfl rfl rfl rfl rfl rfl rfl rfl rfl
   ·have hsp : (-z.s.2, -z.s.1) = spanP bits rs (k, q) := by
     unfold spanP
     rw [if_pos (of_decide_eq_true hs)]
     exact congrArg (fun s : Sp => (-s.2, -s.1)) he
    conv => whnf
    refine ⟨_, cNeg, ?_⟩
    conv => whnf
    refine ⟨_, cNeg, ?_⟩
    conv => whnf
    refine ⟨_, cAdd (K := 100000) (ha1.mono (by omega)) (m2.neg.mono (by omega)) (by omega), ?_⟩
    conv => whnf
    refine ⟨_, cAdd (K := 100000) (ha2.mono (by omega)) (m1.neg.mono (by omega)) (by omega), ?_⟩
    conv => whnf
    exact fin _ _ hsp m2.neg m1.neg _ rfl rfl rfl rfl rfl rfl rfl rfl rfl
  ·have hj : z.j < rs.length := by
    rw [rowsS_len] at hlt
    have := of_decide_eq_true hlt
    omega
   obtain ⟨r, hc⟩ : ∃ r, rs[z.j]? = some r := ⟨_, List.getElem?_eq_getElem hj⟩
   have d1 : decide ((0 : Int) ≤ ((z.j : Nat) : Int)) = true := by simp
   have d2 : decide ((((z.j : Nat) : Int)).toNat < (rowsS rs).length) = true := by rw [rowsS_len]; simp [hj]
   have d3 : (rowsS rs).getD (((z.j : Nat) : Int)).toNat [] = numA r.1 ++ numA r.2 := by simpa using rowsS_get hc
   have hdr : rs.drop z.j = r :: rs.drop (z.j + 1) := by
    rw [List.drop_eq_getElem_cons hj]
    congr 1
    have := List.getElem?_eq_getElem hj
    rw [hc] at this
    exact (Option.some.inj this).symm
   have zr := z.res
   have zo := z.ok
   rw [hdr] at zr zo
   simp only [spanL] at zr
   simp only [spanLB] at zo
   have fin : ∀ (s2 : Sp), spanL bits k (z.j + 1) (rs.drop (z.j + 1)) s2 = spanL bits k 0 rs (absQ q, absQ q) → spanLB K bits k (z.j + 1) (rs.drop (z.j + 1)) s2 = true →
     ∀ V : View, V.tv 1 = .c (.e [.sl 6 (rowsS rs)]) → V.tv 2 = .c (.e [.v (.int .i64 bits)]) → V.tv 4 = .c (.p 4 0) → V.tv 5 = .c (.p 5 0) → V.tv 13 = .c (.p 13 0) → V.tv 6 = iA k → V.tv 7 = .c (.p 7 0) → V.tv 8 = .c (.p 8 0) → V.tv 9 = .c (.p 9 0) → V.tv 23 = .c (.sl 6 (rowsS rs)) → V.tv 24 = iA ((rowsS rs).length : Nat) → V.tv 25 = iA (IntKind.i64.wrap (((z.j : Nat) : Int) + 1)) →
     V.bv 4 = some (.b 118 (numA 0 ++ numA 0)) → V.bv 5 = some (.b 118 (numA s.s.1 ++ numA s.s.2)) → V.bv 13 = some (.it true ((keysE s.left).eraseIdx i) ((valsE s.left).eraseIdx i) (some (k, numA q))) → V.bv 7 = some (.b 33 (numA q)) → V.bv 8 = some (.b 33 (numA s2.1)) → V.bv 9 = some (.b 33 (numA s2.2)) → V.bv 1000 = none →
     ∃ (fz : List Nat) (z' : EI K bits k rs (spanL bits k 0 rs (absQ q, absQ q))), rs.length - z'.j < rs.length - z.j ∧
      Agree [(1, .c (.e [.sl 6 (rowsS rs)])), (2, .c (.e [.v (.int .i64 bits)])), (4, .c (.p 4 0)), (5, .c (.p 5 0)), (13, .c (.p 13 0)), (6, iA k), (7, .c (.p 7 0)), (8, .c (.p 8 0)), (9, .c (.p 9 0)), (23, .c (.sl 6 (rowsS rs))), (24, iA ((rowsS rs).length : Nat)), (25, iA (z'.j : Nat))]
       [(4, .b 118 (numA 0 ++ numA 0)), (5, .b 118 (numA s.s.1 ++ numA s.s.2)), (13, .it true ((keysE s.left).eraseIdx i) ((valsE s.left).eraseIdx i) (some (k, numA q))), (7, .b 33 (numA q)), (8, .b 33 (numA z'.s.1)), (9, .b 33 (numA z'.s.2))] (V.fzs fz) := by
    intro s2 h1 h2 V v1 v2 v4 v5 v13 v6 v7 v8 v9 v23 v24 v25 w4 w5 w13 w7 w8 w9 w1
    refine ⟨[], ⟨z.j + 1, s2, by omega, h1, h2⟩, by show rs.length - (z.j + 1) < _; omega, ⟨⟨v1, v2, v4, v5, v13, v6, v7, v8, v9, v23, v24, by rw [← hw _ (by omega)]; exact v25, trivial⟩, ⟨w4, w5, w13, w7, w8, w9, trivial⟩, rfl, ?_⟩⟩
    show ((V.bv 1000).isSome && _) = false
    rw [w1]; rfl
   conv => whnf
   rw [d1]
   conv => whnf
   rw [d2]
   conv => whnf
   rw [d3]
   conv => whnf
   cases hb : (IntKind.i64.wrap (BitVec.ofInt IntKind.i64.bits (k.fdiv (2 ^ min (((z.j : Nat) : Int)).toNat IntKind.i64.bits)) &&& BitVec.ofInt IntKind.i64.bits 1).toNat == 1)
   ·have hb' : bitK k (z.j : Nat) = false := hb
    rw [hb'] at zr zo
    conv => whnf
    exact fin z.s (by simpa using zr) zo _ rfl rfl rfl rfl rfl rfl rfl rfl rfl rfl rfl rfl rfl rfl rfl rfl rfl rfl rfl
   ·have hb' : bitK k (z.j : Nat) = true := hb
    rw [hb'] at zr zo
    simp only [cond_true, Bool.and_eq_true] at zo
    have q1 := smqB_ok zo.1
    have q2 := smqB_ok zo.2.1
    have q3 := smqB_ok zo.2.2.1
    have q4 := smqB_ok zo.2.2.2.1
    conv => whnf
    refine ⟨_, cMul (K := K) q1 q3 (by omega), ?_⟩
    conv => whnf
    refine ⟨_, cDown (K := 2 * K) ((q1.mul q3).mono (by omega)) (by omega), ?_⟩
    conv => whnf
    refine ⟨_, cMul (K := K) q2 q4 (by omega), ?_⟩
    conv => whnf
    refine ⟨_, cUp (K := 2 * K) ((q2.mul q4).mono (by omega)) (by omega), ?_⟩
    conv => whnf
    exact fin (dnQ bits (z.s.1 * r.1), upQ bits (z.s.2 * r.2)) (by simpa using zr) zo.2.2.2.2 _ rfl rfl rfl rfl rfl rfl rfl rfl rfl rfl rfl rfl rfl rfl rfl rfl rfl rfl rfl
end Go.Proofs.YtajecapgmdfjcaaGreatDoor

/- spans: enclosures of the roots of a tower. PRINTED by gen/spans.py. -/
namespace Go.Proofs.YtajecapgmdfjcaaGreatDoor
open Go.RowKit Vn
def maxQ (q r : Rat) : Rat := if cmpQ q r < 0 then r else q
theorem maxQ_pos (q : Rat) : 0 ≤ maxQ q ((0 : Int) : Rat) := by
 unfold maxQ
 split
 ·exact Rat.le_refl
 ·rename_i h
  have e : ((0 : Int) : Rat) = 0 := rfl
  rw [e] at h
  unfold cmpQ at h
  split at h
  ·exact absurd (by decide) h
  ·rename_i h1
   exact Rat.not_lt.1 h1
def rootsC : List Sp → AC
 | [] => .v (.slice none 0 0)
 | r :: rs => .sl 6 (rowsS (r :: rs))
def rootE (bits : Int) (rs : List Sp) (c : El) : Sp := (rtQ false bits (maxQ (encE bits rs c).1 ((0 : Int) : Rat)), rtQ true bits (maxQ (encE bits rs c).2 ((0 : Int) : Rat)))
def rootsE (bits : Int) : List El → List Sp → List Sp
 | [], rs => rs
 | c :: cs, rs => rootsE bits cs (rs ++ [rootE bits rs c])
def rootsB (K : Nat) (bits : Int) : List El → List Sp → Bool
 | [], _ => true
 | c :: cs, rs => encB K bits rs c && (smqB K (encE bits rs c).1 && (smqB K (encE bits rs c).2 && rootsB K bits cs (rs ++ [rootE bits rs c])))
theorem cal_weak {P : Program} {k : FuncId} {xs ys : List AV} {r : AV} (h : Cal P OQ k ys r) (hw : ∀ S w vs, All2 (RepW OQ (fun _ => none) S w) vs xs → All2 (RepW OQ (fun _ => none) S w) vs ys) : Cal P OQ k xs r :=
 ⟨h.body, h.nop, fun S w vs hS hI hv => h.run S w vs hS hI (hw S w vs hv)⟩
theorem flat_sp (s : Sp) : FlatR (spA s) := by
 intro c hc
 rcases List.mem_append.1 hc with h | h
 ·exact flat_num _ c h
 ·exact flat_num _ c h
theorem cEncC {K : Nat} {bits : Int} {rs : List Sp} {x : El} (hr : rs.length ≤ 60) (h : encB K bits rs x = true) :
  Cal Tryz.prog OQ 100 [eA x, .c (.e [rootsC rs]), .c (.e [.v (.int .i64 bits)])] (spA (encE bits rs x)) := by
 cases rs with
 | cons r rs => exact cEnc hr h
 | nil =>
  refine cal_weak (cEnc hr h) fun S w vs hv => ?_
  match vs, hv with
  | [v1, v2, v3], hv =>
   obtain ⟨h1, h2, h3⟩ := hv
   refine ⟨h1, ?_, h3⟩
   have h2 : Rep0 OQ S w (.e [.v (.slice none 0 0)]) v2 := h2
   show Rep0 OQ S w (.e [.sl 6 []]) v2
   simp only [Rep0, RepRow] at h2 ⊢
   obtain ⟨b, off, hb, e, ⟨x, hx, hx2, _⟩, _⟩ := h2
   refine ⟨b, off, hb, e, ⟨x, hx, none, 0, 0, 0, ?_, fun h => absurd h (by simp), by simp only [RepRows]⟩, trivial⟩
   rw [hx2]; rfl
set_option maxRecDepth 20000 in
set_option maxHeartbeats 4000000 in
theorem cSpans {t : List El} {K : Nat} {bits : Int} (rest : List AC) (hl : t.length ≤ 3) (hK0 : 0 < K) (hK : K ≤ 100000) (h : rootsB K bits t [] = true) :
  Cal Tryz.prog OQ 61 [tA t rest, iA bits] (.c (.cl 100 [.e [rootsC (rootsE bits t [])], .e [.v (.int .i64 bits)]])) := by
 have s0 : SmQ K ((0 : Int) : Rat) := SmQ.zero K hK0
 have mx : ∀ {q : Rat}, SmQ K q → SmQ K (maxQ q ((0 : Int) : Rat)) := fun hq => by
  unfold maxQ; split
  ·exact s0
  ·exact hq
 match t, hl, h with
 | [], _, h =>
  refine fn_callB [(2, [(1000000, 3)]), (7, [(1, 9), (2, 2000000), (3, 2000000), (4, 2000000), (5, 2000000), (10, 10)]), (8, [(1, 9), (2, 2000000), (3, 2000000), (4, 2000000), (5, 2000000), (10, 12)])] TK MX Tryz.func61 rfl (by kernel_rfl) (by kernel_rfl) (by kernel_rfl) rfl rfl ?_
  conv => whnf
  refine ⟨1, ?_⟩
  conv => whnf
  rfl
 | [a], _, h =>
  simp only [rootsB, Bool.and_eq_true, and_true] at h
  obtain ⟨p1, q1, q2⟩ := h
  refine fn_callB [(2, [(1000000, 3)]), (7, [(1, 9), (2, 2000000), (3, 2000000), (4, 2000000), (5, 2000000), (10, 10)]), (8, [(1, 9), (2, 2000000), (3, 2000000), (4, 2000000), (5, 2000000), (10, 12)])] TK MX Tryz.func61 rfl (by kernel_rfl) (by kernel_rfl) (by kernel_rfl) rfl rfl ?_
  conv => whnf
  refine ⟨2, ?_⟩
  conv => whnf
  refine ⟨_, cEncC (rs := []) (by simp) p1, flat_sp _, ?_⟩
  conv => whnf
  refine ⟨_, cInt (n := 0) (by omega) (by omega), ?_⟩
  conv => whnf
  refine ⟨_, cMaxQ (smqB_ok q1) s0 (by omega), ?_⟩
  conv => whnf
  refine ⟨_, cRootDn (q := maxQ _ _) (mx (smqB_ok q1)) (maxQ_pos _) hK, ?_⟩
  conv => whnf
  refine ⟨_, cInt (n := 0) (by omega) (by omega), ?_⟩
  conv => whnf
  refine ⟨_, cMaxQ (smqB_ok q2) s0 (by omega), ?_⟩
  conv => whnf
  refine ⟨_, cRootUp (q := maxQ _ _) (mx (smqB_ok q2)) (maxQ_pos _) hK, ?_⟩
  conv => whnf
  rfl
 | [a, b], _, h =>
  simp only [rootsB, Bool.and_eq_true, and_true] at h
  obtain ⟨p1, q1, q2, p2, q3, q4⟩ := h
  refine fn_callB [(2, [(1000000, 3)]), (7, [(1, 9), (2, 2000000), (3, 2000000), (4, 2000000), (5, 2000000), (10, 10)]), (8, [(1, 9), (2, 2000000), (3, 2000000), (4, 2000000), (5, 2000000), (10, 12)])] TK MX Tryz.func61 rfl (by kernel_rfl) (by kernel_rfl) (by kernel_rfl) rfl rfl ?_
  conv => whnf
  refine ⟨3, ?_⟩
  conv => whnf
  refine ⟨_, cEncC (rs := []) (by simp) p1, flat_sp _, ?_⟩
  conv => whnf
  refine ⟨_, cInt (n := 0) (by omega) (by omega), ?_⟩
  conv => whnf
  refine ⟨_, cMaxQ (smqB_ok q1) s0 (by omega), ?_⟩
  conv => whnf
  refine ⟨_, cRootDn (q := maxQ _ _) (mx (smqB_ok q1)) (maxQ_pos _) hK, ?_⟩
  conv => whnf
  refine ⟨_, cInt (n := 0) (by omega) (by omega), ?_⟩
  conv => whnf
  refine ⟨_, cMaxQ (smqB_ok q2) s0 (by omega), ?_⟩
  conv => whnf
  refine ⟨_, cRootUp (q := maxQ _ _) (mx (smqB_ok q2)) (maxQ_pos _) hK, ?_⟩
  conv => whnf
  refine ⟨_, cEncC (rs := [rootE bits [] a]) (by simp) p2, flat_sp _, ?_⟩
  conv => whnf
  refine ⟨_, cInt (n := 0) (by omega) (by omega), ?_⟩
  conv => whnf
  refine ⟨_, cMaxQ (smqB_ok q3) s0 (by omega), ?_⟩
  conv => whnf
  refine ⟨_, cRootDn (q := maxQ _ _) (mx (smqB_ok q3)) (maxQ_pos _) hK, ?_⟩
  conv => whnf
  refine ⟨_, cInt (n := 0) (by omega) (by omega), ?_⟩
  conv => whnf
  refine ⟨_, cMaxQ (smqB_ok q4) s0 (by omega), ?_⟩
  conv => whnf
  refine ⟨_, cRootUp (q := maxQ _ _) (mx (smqB_ok q4)) (maxQ_pos _) hK, ?_⟩
  conv => whnf
  rfl
 | [a, b, c], _, h =>
  simp only [rootsB, Bool.and_eq_true, and_true] at h
  obtain ⟨p1, q1, q2, p2, q3, q4, p3, q5, q6⟩ := h
  refine fn_callB [(2, [(1000000, 3)]), (7, [(1, 9), (2, 2000000), (3, 2000000), (4, 2000000), (5, 2000000), (10, 10)]), (8, [(1, 9), (2, 2000000), (3, 2000000), (4, 2000000), (5, 2000000), (10, 12)])] TK MX Tryz.func61 rfl (by kernel_rfl) (by kernel_rfl) (by kernel_rfl) rfl rfl ?_
  conv => whnf
  refine ⟨4, ?_⟩
  conv => whnf
  refine ⟨_, cEncC (rs := []) (by simp) p1, flat_sp _, ?_⟩
  conv => whnf
  refine ⟨_, cInt (n := 0) (by omega) (by omega), ?_⟩
  conv => whnf
  refine ⟨_, cMaxQ (smqB_ok q1) s0 (by omega), ?_⟩
  conv => whnf
  refine ⟨_, cRootDn (q := maxQ _ _) (mx (smqB_ok q1)) (maxQ_pos _) hK, ?_⟩
  conv => whnf
  refine ⟨_, cInt (n := 0) (by omega) (by omega), ?_⟩
  conv => whnf
  refine ⟨_, cMaxQ (smqB_ok q2) s0 (by omega), ?_⟩
  conv => whnf
  refine ⟨_, cRootUp (q := maxQ _ _) (mx (smqB_ok q2)) (maxQ_pos _) hK, ?_⟩
  conv => whnf
  refine ⟨_, cEncC (rs := [rootE bits [] a]) (by simp) p2, flat_sp _, ?_⟩
  conv => whnf
  refine ⟨_, cInt (n := 0) (by omega) (by omega), ?_⟩
  conv => whnf
  refine ⟨_, cMaxQ (smqB_ok q3) s0 (by omega), ?_⟩
  conv => whnf
  refine ⟨_, cRootDn (q := maxQ _ _) (mx (smqB_ok q3)) (maxQ_pos _) hK, ?_⟩
  conv => whnf
  refine ⟨_, cInt (n := 0) (by omega) (by omega), ?_⟩
  conv => whnf
  refine ⟨_, cMaxQ (smqB_ok q4) s0 (by omega), ?_⟩
  conv => whnf
  refine ⟨_, cRootUp (q := maxQ _ _) (mx (smqB_ok q4)) (maxQ_pos _) hK, ?_⟩
  conv => whnf
  refine ⟨_, cEncC (rs := [rootE bits [] a, rootE bits [rootE bits [] a] b]) (by simp) p3, flat_sp _, ?_⟩
  conv => whnf
  refine ⟨_, cInt (n := 0) (by omega) (by omega), ?_⟩
  conv => whnf
  refine ⟨_, cMaxQ (smqB_ok q5) s0 (by omega), ?_⟩
  conv => whnf
  refine ⟨_, cRootDn (q := maxQ _ _) (mx (smqB_ok q5)) (maxQ_pos _) hK, ?_⟩
  conv => whnf
  refine ⟨_, cInt (n := 0) (by omega) (by omega), ?_⟩
  conv => whnf
  refine ⟨_, cMaxQ (smqB_ok q6) s0 (by omega), ?_⟩
  conv => whnf
  refine ⟨_, cRootUp (q := maxQ _ _) (mx (smqB_ok q6)) (maxQ_pos _) hK, ?_⟩
  conv => whnf
  rfl
end Go.Proofs.YtajecapgmdfjcaaGreatDoor

/- sign. -/
namespace Go.Proofs.YtajecapgmdfjcaaGreatDoor
open Go.RowKit Vn
def orK (x y : Int) : Int := IntKind.i64.wrap (BitVec.ofInt IntKind.i64.bits x ||| BitVec.ofInt IntKind.i64.bits y).toNat
def mulI (x y : Int) : Int := IntKind.i64.wrap (x * y)
def signE (t : List El) (m : Nat) : Nat → El → Int
 | 0, _ => 0
 | f + 1, x => cond (decide (topL x < 0)) (getE x 0).num.sign
   (cond (decide ((encE 64 (rootsE 64 t []) x).1.num.sign > 0) || decide ((encE 64 (rootsE 64 t []) x).2.num.sign < 0)) (orK (encE 64 (rootsE 64 t []) x).1.num.sign (encE 64 (rootsE 64 t []) x).2.num.sign)
    (cond (mulI (signE t m f (partB x (topL x))) (signE t m f (t.getD (topL x).toNat [])) == 0 || signE t m f (partA x (topL x)) == mulI (signE t m f (partB x (topL x))) (signE t m f (t.getD (topL x).toNat []))) (signE t m f (partA x (topL x)))
     (cond (signE t m f (partA x (topL x)) == 0) (mulI (signE t m f (partB x (topL x))) (signE t m f (t.getD (topL x).toNat [])))
      (mulI (signE t m f (partA x (topL x))) (signE t m f (normE t m (partA x (topL x)) (partB x (topL x)) (t.getD (topL x).toNat [])))))))
def nodupB : List Int → Bool
 | [] => true
 | k :: l => !l.contains k && nodupB l
theorem nodupB_ok : ∀ {l : List Int}, nodupB l = true → l.Nodup
 | [], _ => List.nodup_nil
 | k :: l, h => by
  simp only [nodupB, Bool.and_eq_true, Bool.not_eq_true', List.contains_eq_mem, decide_eq_false_iff_not] at h
  exact List.nodup_cons.2 ⟨h.1, nodupB_ok h.2⟩
def canB : El → Bool
 | [] => true
 | p :: L => decide (p.2 ≠ 0) && (L.all fun q => decide (p.1 < q.1)) && canB L
def signB (K : Nat) (t : List El) (m : Nat) : Nat → El → Bool
 | 0, _ => false
 | f + 1, x => (x.all fun p => decide (0 ≤ p.1 ∧ p.1 < 1048576)) && cond (decide (topL x < 0)) true
   (encB K 64 (rootsE 64 t []) x && cond (decide ((encE 64 (rootsE 64 t []) x).1.num.sign > 0) || decide ((encE 64 (rootsE 64 t []) x).2.num.sign < 0)) true
    (smB K x && nodupB (x.map fun p => (prA (topL x) p).1) && nodupB (x.map fun p => (prB (topL x) p).1) && Nat.blt (topL x).toNat t.length && signB K t m f (partA x (topL x)) && signB K t m f (partB x (topL x)) && signB K t m f (t.getD (topL x).toNat []) &&
     cond (mulI (signE t m f (partB x (topL x))) (signE t m f (t.getD (topL x).toNat [])) == 0 || signE t m f (partA x (topL x)) == mulI (signE t m f (partB x (topL x))) (signE t m f (t.getD (topL x).toNat []))) true
     (cond (signE t m f (partA x (topL x)) == 0) true
      (normB K t m (partA x (topL x)) (partB x (topL x)) (t.getD (topL x).toNat []) && signB K t m f (normE t m (partA x (topL x)) (partB x (topL x)) (t.getD (topL x).toNat []))))))
theorem partA_can (x : El) (i : Int) : CanE (partA x i) := (CanE.fold _ _ CanE.nil).1
theorem partB_can (x : El) (i : Int) : CanE (partB x i) := (CanE.fold _ _ CanE.nil).1
theorem norm_can (t : List El) (f : Nat) (a b c : El) : CanE (normE t f a b c) := (add_get (mulE_can _ _ _ _) ((CanE.fold _ _ CanE.nil).1)).1
theorem rootsE_len (bits : Int) : ∀ (t : List El) (rs : List Sp), (rootsE bits t rs).length = rs.length + t.length
 | [], _ => rfl
 | c :: cs, rs => by rw [rootsE, rootsE_len bits cs]; simp; omega
set_option maxHeartbeats 4000000 in
theorem cSignT {t : List El} {K m : Nat} (hK0 : 0 < K) (hK : K ≤ 100000) (ht : ∀ c ∈ t, CanE c) (hl : t.length ≤ 3) (hr : rootsB K 64 t [] = true) : ∀ (f : Nat) (x : El) (rest : List AC), CanE x → signB K t m f x = true →
  Cal Tryz.prog OQ 29 [tA t rest, eA x] (iA (signE t m f x))
 | 0, _, _, _, h => by cases h
 | f + 1, x, rest, hx, h => by
  simp only [signB, Bool.and_eq_true, List.all_eq_true, decide_eq_true_eq] at h
  obtain ⟨b1, h⟩ := h
  obtain ⟨R, hR⟩ : ∃ R, signE t m (f + 1) x = R := ⟨_, rfl⟩
  rw [hR]
  refine fn_call TK MX Tryz.func29 rfl (by kernel_rfl) (by kernel_rfl) (by kernel_rfl) rfl rfl ?_
  conv => whnf
  refine ⟨_, cTop b1, ?_⟩
  conv => whnf
  cases e1 : decide (topL x < 0)
  ·have h0 : 0 ≤ topL x := by have := of_decide_eq_false e1; omega
   simp only [signE, e1, cond_false] at hR
   simp only [e1, cond_false, Bool.and_eq_true] at h
   obtain ⟨b2, h⟩ := h
   conv => whnf
   refine ⟨_, cSpans (bits := 64) rest hl hK0 hK hr, ?_⟩
   conv => whnf
   refine ⟨_, cEncC (rs := rootsE 64 t []) (by rw [rootsE_len]; simp; omega) b2, flat_sp _, ?_⟩
   conv => whnf
   refine ⟨_, cSign, ?_⟩
   conv => whnf
   have hge : ∀ {y : El} {j : Nat}, t[j]? = some y → CanE y := fun h => ht _ (List.mem_of_getElem? h)
   cases e2 : decide ((encE 64 (rootsE 64 t []) x).1.num.sign > 0)
   ·rw [e2, Bool.false_or] at hR h
    conv => whnf
    refine ⟨_, cSign, ?_⟩
    conv => whnf
    cases e3 : decide ((encE 64 (rootsE 64 t []) x).2.num.sign < 0)
    ·rw [e3] at hR h
     simp only [cond_false, Bool.and_eq_true, Nat.blt_eq] at hR h
     obtain ⟨⟨⟨⟨⟨⟨⟨c1, c2⟩, c3⟩, c4⟩, c5⟩, c6⟩, c7⟩, c8⟩ := h
     obtain ⟨y, hy⟩ : ∃ y, t[(topL x).toNat]? = some y := ⟨_, List.getElem?_eq_getElem c4⟩
     have hyD : t.getD (topL x).toNat [] = y := by simp [List.getD_eq_getElem?_getD, hy]
     rw [hyD] at hR c7 c8
     have d1 : decide (0 ≤ topL x) = true := by simp [h0]
     have d2 : decide ((topL x).toNat < (rowsE t).length) = true := by rw [rows_len]; simp [c4]
     have d3 : (rowsE t).getD (topL x).toNat [] = [eC y] := rows_get hy
     have hy' := hge hy
     have ha : CanE (partA x (topL x)) := partA_can _ _
     have hb : CanE (partB x (topL x)) := partB_can _ _
     have it : iA ((topL x).toNat : Nat) = iA (topL x) := by rw [Int.toNat_of_nonneg h0]
     obtain ⟨s1, hs1⟩ : ∃ s, signE t m f (partA x (topL x)) = s := ⟨_, rfl⟩
     obtain ⟨s2, hs2⟩ : ∃ s, signE t m f (partB x (topL x)) = s := ⟨_, rfl⟩
     obtain ⟨s3, hs3⟩ : ∃ s, signE t m f y = s := ⟨_, rfl⟩
     have k1 := cSignT hK0 hK ht hl hr f _ rest ha c5
     have k2 := cSignT hK0 hK ht hl hr f _ rest hb c6
     have k3 := cSignT hK0 hK ht hl hr f _ rest hy' c7
     rw [hs1] at k1 hR c8
     rw [hs2] at k2 hR c8
     rw [hs3] at k3 hR c8
     unfold mulI at hR c8
     conv => whnf
     refine ⟨_, cParts (K := K) (smB_ok c1) hK0 (by omega) h0 (nodupB_ok c2) (nodupB_ok c3), ?_⟩
     conv => whnf
     refine ⟨_, k1, ?_⟩
     conv => whnf
     refine ⟨_, k2, ?_⟩
     conv => whnf
     rw [d1]
     conv => whnf
     rw [d2]
     conv => whnf
     rw [d3]
     conv => whnf
     refine ⟨_, k3, ?_⟩
     conv => whnf
     cases e4 : (IntKind.i64.wrap (s2 * s3) == 0)
     ·rw [e4, Bool.false_or] at hR c8
      conv => whnf
      cases e5 : (s1 == IntKind.i64.wrap (s2 * s3))
      ·rw [e5] at hR c8
       simp only [cond_false] at hR c8
       conv => whnf
       cases e6 : (s1 == 0)
       ·rw [e6] at hR c8
        simp only [cond_false, Bool.and_eq_true] at hR c8
        obtain ⟨n1, n2⟩ := c8
        conv => whnf
        have kn := cNorm hK0 ht (by omega) rest ha hb hy n1
        rw [it] at kn
        refine ⟨_, kn, ?_⟩
        conv => whnf
        obtain ⟨s4, hs4⟩ : ∃ s, signE t m f (normE t m (partA x (topL x)) (partB x (topL x)) y) = s := ⟨_, rfl⟩
        have k4 := cSignT hK0 hK ht hl hr f _ rest (norm_can _ _ _ _ _) n2
        rw [hs4] at k4 hR
        refine ⟨_, k4, ?_⟩
        conv => whnf
        rw [← hR]
        rfl
       ·rw [e6] at hR
        simp only [cond_true] at hR
        conv => whnf
        rw [← hR]
        rfl
      ·rw [e5] at hR
       simp only [cond_true] at hR
       conv => whnf
       rw [← hR]
       rfl
     ·rw [e4, Bool.true_or] at hR
      simp only [cond_true] at hR
      conv => whnf
      rw [← hR]
      rfl
    ·rw [e3] at hR
     simp only [cond_true] at hR
     conv => whnf
     refine ⟨_, cSign, ?_⟩
     conv => whnf
     refine ⟨_, cSign, ?_⟩
     conv => whnf
     rw [← hR]
     rfl
   ·rw [e2, Bool.true_or] at hR
    simp only [cond_true] at hR
    conv => whnf
    refine ⟨_, cSign, ?_⟩
    conv => whnf
    refine ⟨_, cSign, ?_⟩
    conv => whnf
    rw [← hR]
    rfl
  ·simp only [signE, e1, cond_true] at hR
   conv => whnf
   refine ⟨_, cRational, ?_⟩
   conv => whnf
   refine ⟨_, cSign, ?_⟩
   conv => whnf
   rw [← hR]
   rfl
end Go.Proofs.YtajecapgmdfjcaaGreatDoor

/- shift, less, floor, log of the reals. -/
namespace Go.Proofs.YtajecapgmdfjcaaGreatDoor
open Go.RowKit Vn
section
variable {K : Nat} {q : Rat} {k : Int}
theorem cShiftR (sx : SmQ K q) (h0 : -20000 ≤ k) (h1 : k ≤ 20000) (hK : K ≤ 20000000) : Cal Tryz.prog OQ 39 [nA q, iA k] (nA (q * (2 : Rat) ^ k)) := by
 refine fn_call TK MX Tryz.func39 rfl (by kernel_rfl) (by kernel_rfl) (by kernel_rfl) rfl rfl ?_
 by_cases hk : k = 0
 ·subst hk
  rw [show q * (2 : Rat) ^ (0 : Int) = q by rw [Rat.zpow_zero, Rat.mul_one]]
  conv => whnf
  refine ⟨1, ?_⟩
  conv => whnf
  rfl
 ·have e : (k != 0) = true := by simpa using hk
  conv => whnf
  refine ⟨2, ?_⟩
  conv => whnf
  rw [e]
  conv => whnf
  rw [if_neg (show ¬ (-20000 : Int) > k by omega), if_neg (show ¬ (20000 : Int) < k by omega)]
  refine ⟨_, cShift sx h0 h1 hK, ?_⟩
  conv => whnf
  rw [Int.sub_self]
  conv => whnf
  rfl
def shiftE (x : El) (k : Int) : El := scaleE x ((2 : Rat) ^ k)
set_option maxHeartbeats 1000000 in
theorem nShift {x : El} (hc : CanE x) (hx : SmB K x) (h0 : -19000 ≤ k) (h1 : k ≤ 19000) (hK : K + 20000 ≤ 20000000) :
  CalN Tryz.prog OQ 34 [eA x, iA k] (eA (shiftE x k)) := by
 refine fn_callN [] TK MX Tryz.func34 rfl (by kernel_rfl) (by kernel_rfl) (by kernel_rfl) (flat_E _) rfl ?_
 have hM : ∀ i, SmQ (K + 20000) (getE [] i) ∧ SmQ (K + 20000) (getE [] i + totE (fun p => (p.1, p.2 * (2 : Rat) ^ k)) x i) := fun i => by
  refine ⟨SmQ.zero _ (by omega), ?_⟩
  rw [tot_scale, tot_id hc]
  show SmQ _ (0 + _)
  rw [Rat.zero_add]
  cases x with
  | nil => simp only [getE, Rat.zero_mul]; exact SmQ.zero _ (by omega)
  | cons p x => exact (hx.get (hx p (by simp)).pos i).mul_p2 k 20000 (by omega)
 conv => whnf
 refine ⟨0, LS (fun p => (p.1, p.2 * (2 : Rat) ^ k)) [] x, fun _ => [(1, iA k), (5, .c (.pm 8)), (10, .c (.p 10 0))], fun s => [(8, eX s.acc), (10, .it true (keysE s.left) (valsE s.left) s.cur)], fun s => s.left.length, [], LS.start CanE.nil (can_nodup hc), ⟨?_, ?_, rfl, rfl⟩, fun s => ?_⟩
 ·exact ⟨rfl, rfl, rfl, trivial⟩
 ·exact ⟨rfl, rfl, trivial⟩
 conv => whnf
 refine ⟨fun h => ?_, fun i k' v hk hv => ?_⟩
 ·conv => whnf
  rw [s.done CanE.nil (keys_nil h)]
  rfl
 ·obtain ⟨q, hq, rfl⟩ := key_at hk hv
  conv => whnf
  have hmem := s.mem _ (List.mem_of_getElem? hq)
  have hsm : SmQ (K + 20000) (q * (2 : Rat) ^ k) := (hx _ hmem).mul_p2 k 20000 (by omega)
  refine ⟨_, cShiftR (K := K) (hx _ hmem) (by omega) (by omega) (by omega), ?_⟩
  conv => whnf
  refine ⟨_, _, cWith (K := K + 20000) (s.sm hM k') hsm (by omega), ?_⟩
  conv => whnf
  refine ⟨[], s.step hq (some (k', numA q)), ?_, ⟨?_, ?_, rfl, rfl⟩⟩
  ·show (s.left.eraseIdx i).length < s.left.length
   have := (List.getElem?_eq_some_iff.1 hq).1
   rw [List.length_eraseIdx_of_lt this]; omega
  ·exact ⟨rfl, rfl, rfl, trivial⟩
  ·refine ⟨rfl, ?_, trivial⟩
   show some (Bx.it true ((keysE s.left).eraseIdx i) ((valsE s.left).eraseIdx i) (some (k', numA q))) = _
   rw [keys_erase, vals_erase]; rfl
end
/-! ### of a tower -/
section
variable {t : List El} {K m f : Nat} {x : El} {n : Rat} (hK0 : 0 < K) (hK : K ≤ 100000) (ht : ∀ c ∈ t, CanE c) (hl : t.length ≤ 3) (hr : rootsB K 64 t [] = true)
include hK0 hK ht hl hr
omit ht in
set_option maxHeartbeats 2000000 in
theorem cFloorR (rest : List AC) (h : encB K 64 (rootsE 64 t []) x = true) (s1 : smqB K (encE 64 (rootsE 64 t []) x).1 = true) (s2 : smqB K (encE 64 (rootsE 64 t []) x).2 = true) (hf : (encE 64 (rootsE 64 t []) x).1.floor = (encE 64 (rootsE 64 t []) x).2.floor) :
  Cal Tryz.prog OQ 33 [tA t rest, eA x] (nA (((encE 64 (rootsE 64 t []) x).1.floor : Int) : Rat)) := by
 refine fn_callB [(6, [(1, 9), (2, 2000000), (4, 9), (5, 2000000), (6, 5), (7, 6)]), (12, [(0, 10), (1, 2000000), (2, 2000000), (3, 6)])] TK MX Tryz.func33 rfl (by kernel_rfl) (by kernel_rfl) (by kernel_rfl) rfl rfl ?_
 have q1 := smqB_ok s1
 have q2 := smqB_ok s2
 obtain ⟨F, hF⟩ : ∃ F : Int, (encE 64 (rootsE 64 t []) x).1.floor = F := ⟨_, rfl⟩
 have cA := cFloor q1 (by omega)
 have cB := cFloor q2 (by omega)
 rw [← hf] at cB
 rw [hF] at cA cB ⊢
 have sF : SmQ K (F : Rat) := by rw [← hF]; exact q1.floor
 conv => whnf
 refine ⟨1, ?_⟩
 conv => whnf
 refine ⟨_, cSpans (bits := 64) rest hl hK0 hK hr, ?_⟩
 conv => whnf
 refine ⟨_, cEncC (rs := rootsE 64 t []) (by rw [rootsE_len]; simp; omega) h, flat_sp _, ?_⟩
 conv => whnf
 refine ⟨_, cA, ?_⟩
 conv => whnf
 refine ⟨_, cB, ?_⟩
 conv => whnf
 refine ⟨_, cSub sF sF (by omega), ?_⟩
 conv => whnf
 refine ⟨_, cInt (n := 1) (by omega) (by omega), ?_⟩
 conv => whnf
 rw [show (F : Rat) - (F : Rat) = 0 by grind]
 refine ⟨_, cCmp (K := 1) (SmQ.zero 1 (by omega)) (SmQ.int (by omega) (by decide)) (by omega), ?_⟩
 conv => whnf
 refine ⟨1, ?_⟩
 conv => whnf
 refine ⟨_, cCmp sF sF (by omega), ?_⟩
 rw [cmpQ_self]
 conv => whnf
 rfl
end
end Go.Proofs.YtajecapgmdfjcaaGreatDoor

/- exact: Root. -/
namespace Go.Proofs.YtajecapgmdfjcaaGreatDoor
open Go.RowKit Vn
section
variable {K : Nat} {q : Rat}
theorem cBottomN : Cal Tryz.prog OQ 75 [nA q] (pN q.den) :=
 cal1 (R := fun w v => NatV w v q.den) (by kernel_rfl) rfl (fun h _ => h) fun x w _ hx => (bottom_c x q w hx).mono fun _ _ ⟨_, _, _, h1, h2, h3⟩ => ⟨_, h1, h2, h3⟩
def sqB (n : Nat) : Bool := !(cmpN (isqC n * isqC n) n != 0)
def rootR (q : Rat) : Rat := mkq false (isqC q.num.natAbs) (isqC q.den)
theorem isqC_sm {n : Nat} (h : Sm K n) : Sm K (isqC n) := by rw [← isqC_eq]; exact isq_sm h
theorem sm_sq {n : Nat} (h : Sm K n) : Sm (2 * K) (n * n) := by
 have h : n < 2 ^ K := h
 show _ < 2 ^ (2 * K)
 rw [Nat.two_mul, Nat.pow_add]
 exact Nat.mul_lt_mul'' h h
theorem cRoot0 : Cal Tryz.prog OQ 157 [nA 0] (.t [nA 0, bA true]) := by
 refine fn_call TK MX Tryz.func157 rfl (by kernel_rfl) (by kernel_rfl) (by kernel_rfl) rfl rfl ?_
 conv => whnf
 refine ⟨_, cSign, ?_⟩
 conv => whnf
 refine ⟨_, cSign, ?_⟩
 conv => whnf
 rfl
set_option maxHeartbeats 1000000 in
theorem cRootF (sx : SmQ K q) (h : 0 < q) (hK : K ≤ 100000) (b : Bool) (hb : (sqB q.num.natAbs && sqB q.den) = b) : Cal Tryz.prog OQ 157 [nA q] (.t [nA (cond b (rootR q) 0), bA b]) := by
 refine fn_call TK MX Tryz.func157 rfl (by kernel_rfl) (by kernel_rfl) (by kernel_rfl) rfl rfl ?_
 have hn := num_posN h
 have s1 : Sm K q.num.natAbs := sx.1
 have s2 : Sm K q.den := sx.2
 have r1 := isqC_sm s1
 have r2 := isqC_sm s2
 have d1 : decide (q.num < 0) = false := dF (by omega)
 conv => whnf
 refine ⟨_, cSign, ?_⟩
 rw [sgn_pos h]
 conv => whnf
 refine ⟨_, cNatRoot s1 (by omega) (by omega), ?_⟩
 rw [isqC_eq]
 conv => whnf
 refine ⟨_, cBottomN, ?_⟩
 conv => whnf
 refine ⟨_, cNatRoot s2 (by omega) q.den_pos, ?_⟩
 rw [isqC_eq]
 conv => whnf
 refine ⟨_, cNatMul r1 r1 (by omega), ?_⟩
 conv => whnf
 refine ⟨_, cNatCmp (K := 2 * K) (sm_sq r1) (s1.mono (by omega)) (by omega), ?_⟩
 conv => whnf
 cases e1 : (cmpN (isqC q.num.natAbs * isqC q.num.natAbs) q.num.natAbs != 0)
 ·conv => whnf
  refine ⟨_, cNatMul r2 r2 (by omega), ?_⟩
  conv => whnf
  refine ⟨_, cBottomN, ?_⟩
  conv => whnf
  refine ⟨_, cNatCmp (K := 2 * K) (sm_sq r2) (s2.mono (by omega)) (by omega), ?_⟩
  conv => whnf
  cases e2 : (cmpN (isqC q.den * isqC q.den) q.den != 0)
  ·have : b = true := by rw [← hb]; simp [sqB, e1, e2]
   subst this
   conv => whnf
   refine ⟨_, cMade r1 r2 (by omega) (by rw [← isqC_eq]; exact isq_pos q.den_pos), ?_⟩
   conv => whnf
   rfl
  ·have : b = false := by rw [← hb]; simp [sqB, e2]
   subst this
   conv => whnf
   rfl
 ·have : b = false := by rw [← hb]; simp [sqB, e1]
  subst this
  conv => whnf
  rfl
end
end Go.Proofs.YtajecapgmdfjcaaGreatDoor
