/- floats: look. -/
import Derived.Test.YtopmjkkjlagfcaaGreatDoorW33
namespace Go.Proofs.YtopmjkkjlagfcaaGreatDoor
open Go.RowKit Vn
def OpV (w : World) (v : Value) (kind : Int) (neg : Bool) (q : Rat) : Prop :=
 ∃ (ng : Bool) (a : Option Addr) (n c : Nat) (a' : Option Addr) (n' c' : Nat), v = .agg #[.int .i64 kind, .bool neg, .bool ng, .slice a n c, .slice a' n' c'] ∧ NumV w (.agg #[.bool ng, .slice a n c, .slice a' n' c']) q
theorem OpV.ext {w w' : World} {v : Value} {kind : Int} {neg : Bool} {q : Rat} (h : OpV w v kind neg q) (k : Ext w w') : OpV w' v kind neg q := by
 obtain ⟨ng, a, n, c, a', n', c', h1, h2⟩ := h; exact ⟨ng, a, n, c, a', n', c', h1, h2.ext k⟩
def wf (E P n : Nat) : Nat := n / 2 ^ (P - 1) % 2 ^ E
def wr (P n : Nat) : Nat := n % 2 ^ (P - 1)
def wn (E P n : Nat) : Bool := decide (n / 2 ^ (E + P - 1) ≠ 0)
def wfr (E P n : Nat) : Nat := if wf E P n = 0 then wr P n else wr P n + 2 ^ (P - 1)
def wval (E P b n : Nat) : Rat := (if wn E P n = true then -1 else 1) * (((wfr E P n : Nat) : Rat) * (2 : Rat) ^ (2 - (b : Int) - P + ((max (wf E P n) 1 - 1 : Nat) : Int)))
def wkind (E P n : Nat) : Int := if wf E P n = 2 ^ E - 1 then (if wr P n = 0 then 3 else if bl (wr P n) = P - 1 then 4 else 5) else if wf E P n = 0 ∧ wr P n = 0 then 1 else 2
def wvalK (E P b n : Nat) : Rat := if wkind E P n = 2 then wval E P b n else if wkind E P n = 4 then ((wr P n % 2 ^ (P - 2) : Nat) : Rat) else if wkind E P n = 5 then ((wr P n : Nat) : Rat) else 0
theorem rcase {r p q : Nat} (h1 : p = r / 18446744073709551616) (h2 : q = r % 18446744073709551616) : (r = 0 ∧ p = 0 ∧ q = 0) ∨ (r ≠ 0 ∧ ((p : Int) == 0) = false) ∨ (r ≠ 0 ∧ p = 0 ∧ ((q : Int) == 0) = false) := by
 by_cases h3 : p = 0
 ·subst h3
  by_cases h4 : q = 0
  ·left; subst h4; exact ⟨by omega, rfl, rfl⟩
  ·right; right; exact ⟨by omega, rfl, beq_eq_false_iff_ne.2 (by omega)⟩
 ·right; left; exact ⟨fun h => h3 (by rw [h1, h]), beq_eq_false_iff_ne.2 (by omega)⟩
def LookPost (kind : Int) (neg : Bool) (q : Rat) (w : World) (e : Ending) (w' : World) : Prop := ∃ v, e = .returned v ∧ OpV w' v kind neg q ∧ Ext w w'
theorem word_lo {n : Nat} (h : n < 18446744073709551616) : Word n = .agg #[.int .u64 0, .int .u64 (n : Nat)] := by
 unfold Word; rw [Nat.div_eq_of_lt h, Nat.mod_eq_of_lt h]; rfl
set_option maxRecDepth 100000 in
set_option maxHeartbeats 8000000 in
theorem look_c (E P m b n : Nat) (w : World) (hF : Fmt E P) (hb : b ≤ 1023) (hn : W128 n) :
  Calls Tryz.prog 69 #[.agg #[.int .i64 E, .int .i64 P, .int .i64 m, .int .i64 b], Word n] w fun e w' => LookPost (wkind E P n) (wn E P n) (wvalK E P b n) w e w' := by
 have hE : 2 ≤ E ∧ E ≤ 11 := by unfold Fmt at hF; omega
 have hP : 2 ≤ P ∧ P ≤ 113 := by unfold Fmt at hF; omega
 have hw1 : IntKind.i64.wrap ((P : Int) - 1) = (P : Int) - 1 := IntWalk.i64_in _ (by omega)
 have hw2 : IntKind.i64.wrap ((E : Int) + P) = (E : Int) + P := IntWalk.i64_in _ (by omega)
 have hw3 : IntKind.i64.wrap ((E : Int) + P - 1) = (E : Int) + P - 1 := IntWalk.i64_in _ (by omega)
 have hEP : E + P - 1 ≤ 128 := by omega
 have hE128 : E ≤ 128 := by omega
 have hP128 : P - 1 ≤ 128 := by omega
 have hpE : 2 ^ E ≤ 2048 := Nat.pow_le_pow_right (n := 2) (by decide) hE.2
 have hpE1 : 2 ^ 2 ≤ 2 ^ E := Nat.pow_le_pow_right (by decide) hE.1
 obtain ⟨f, hf⟩ : ∃ f, f = wf E P n := ⟨_, rfl⟩
 obtain ⟨r, hr⟩ : ∃ r, r = wr P n := ⟨_, rfl⟩
 have hfl : f < 2 ^ E := by rw [hf]; exact Nat.mod_lt _ (Nat.pow_pos (by decide))
 have hf2 : f ≤ 2047 := by omega
 have c1 : ∀ w, _ := fun w => shr_w n (P - 1) w hn hP128
 have c2 : ∀ w, _ := fun w => low_w (n / 2 ^ (P - 1)) E w (Nat.lt_of_le_of_lt (Nat.div_le_self _ _) hn) hE128
 have c3 : ∀ w, _ := fun w => low_w n (P - 1) w hn hP128
 have c4 : ∀ w, _ := fun w => shr_w n (E + P - 1) w hn hEP
 rw [show n / 2 ^ (P - 1) % 2 ^ E = f from hf.symm, word_lo (n := f) (by omega)] at c2
 rw [show n % 2 ^ (P - 1) = r from hr.symm] at c3
 obtain ⟨n0, n1, en⟩ := Word.shape n
 obtain ⟨s0, s1, es⟩ := Word.shape (n / 2 ^ (P - 1))
 obtain ⟨r0, hr0⟩ : ∃ r0 : Nat, r0 = r / 18446744073709551616 := ⟨_, rfl⟩
 obtain ⟨r1, hr1⟩ : ∃ r1 : Nat, r1 = r % 18446744073709551616 := ⟨_, rfl⟩
 have er : Word r = .agg #[.int .u64 r0, .int .u64 r1] := by unfold Word; rw [← hr0, ← hr1]
 have hrc := rcase hr0 hr1
 have hrl : r < 2 ^ (P - 1) := by rw [hr]; exact Nat.mod_lt _ (Nat.pow_pos (by decide))
 have hrw : W128 r := by
  have : 2 ^ (P - 1) ≤ 2 ^ 128 := Nat.pow_le_pow_right (by decide) hP128
  show r < 2 ^ 128; omega
 have q0 : ((2 ^ E : Nat) : Int) = (2 : Int) ^ E := by rw [Int.natCast_pow]; rfl
 have q1 : IntKind.i64.wrap ((2 : Int) ^ E) = (2 : Int) ^ E := IntWalk.i64_in _ (by omega)
 have q2 : IntKind.i64.wrap ((2 : Int) ^ E - 1) = (2 : Int) ^ E - 1 := IntWalk.i64_in _ (by omega)
 have q3 : f = 2 ^ E - 1 → ((f : Nat) : Int) = (2 : Int) ^ E - 1 := fun h => by rw [← q0]; omega
 have q4 : f ≠ 2 ^ E - 1 → ((f : Int) == (2 : Int) ^ E - 1) = false := fun h => by rw [beq_eq_false_iff_ne, ← q0]; omega
 have HQ1 := hid q1; have HQ2 := hid q2; have HQ3 := hid q3; have HQ4 := hid q4; have HRC := hid hrc; have HRL := hid hrl; have HRW := hid hrw; have HR0 := hid hr0; have HR1 := hid hr1
 have HS1 : Hid (∀ w, Calls Tryz.prog 137 #[.agg #[.int .u64 r0, .int .u64 r1]] w fun e w' => e = .returned (.int .i64 (bl r)) ∧ Ext w w') := hid fun w => by rw [← er]; exact size_c r w hrw
 clear q0 q1 q2 q3 q4 hrc hrl hrw hr0 hr1
 rw [en, es, show ((P - 1 : Nat) : Int) = (P : Int) - 1 by omega] at c1
 rw [es] at c2
 rw [en, er, show ((P - 1 : Nat) : Int) = (P : Int) - 1 by omega] at c3
 rw [en, show ((E + P - 1 : Nat) : Int) = (E : Int) + P - 1 by omega] at c4
 unfold Word at c4
 obtain ⟨gh, hg0⟩ : ∃ gh : Nat, gh = n / 2 ^ (E + P - 1) / 18446744073709551616 := ⟨_, rfl⟩
 obtain ⟨gl, hg1⟩ : ∃ gl : Nat, gl = n / 2 ^ (E + P - 1) % 18446744073709551616 := ⟨_, rfl⟩
 rw [← hg0, ← hg1] at c4
 obtain ⟨s, hs⟩ : ∃ s, s = wn E P n := ⟨_, rfl⟩
 have hgs : (s = false ∧ gh = 0 ∧ gl = 0) ∨ (s = true ∧ ((gh : Int) == 0) = false) ∨ (s = true ∧ gh = 0 ∧ ((gl : Int) == 0) = false) := by
  have h := wcase hg0 hg1
  rw [hs]; unfold wn
  rcases h with ⟨h1, h2, h3⟩ | ⟨h1, h2⟩ | ⟨h1, h2, h3⟩
  ·left; refine ⟨?_, h1, h2⟩; rw [Nat.div_eq_of_lt h3]; rfl
  ·right; left; refine ⟨?_, h1⟩
   have := Nat.div_pos (show 2 ^ (E + P - 1) ≤ n by omega) (Nat.pow_pos (by decide)); exact decide_eq_true (by omega)
  ·right; right; refine ⟨?_, h1, h2⟩
   have := Nat.div_pos (show 2 ^ (E + P - 1) ≤ n by omega) (Nat.pow_pos (by decide)); exact decide_eq_true (by omega)
 rw [← hs, en]
 have hwf : IntKind.i64.wrap (f : Int) = (f : Int) := IntWalk.i64_in _ (by omega)
 have hfd : ∀ w : World, (Instr.field 29 (.agg #[.int .u64 0, .int .u64 (f : Nat)]) 1).run Tryz.prog w = .ok (.int .u64 (f : Nat)) w := fun _ => by kernel_rfl
 have C1 := hid c1; have C2 := hid c2; have C3 := hid c3; have C4 := hid c4
 have HF' := hid hf; have HR := hid hr; have HS := hid hs; have HGS := hid hgs; have HFl := hid hfl; have HE0 := hid hE; have HP := hid hP; have HB := hid hb; have HPE := hid hpE; have HPE1 := hid hpE1; have Er := hid er; have HFm := hid hF
 clear c1 c2 c3 c4 hf hr hs hgs hfl hb hpE hpE1 en es er hg0 hg1 hn hF hEP hE128 hP128
 obtain ⟨W0, hW0, g0, hz0, B_M, B_W, B_Z⟩ := pro3s w #[.int .i64 E, .int .i64 P, .int .i64 m, .int .i64 b] #[.int .u64 n0, .int .u64 n1] #[.int .i64 0, .bool false, .bool false, .slice none 0 0, .slice none 0 0] 81 29 112
 have HE := hid g0
 have HB_M := hid B_M
 have HB_W := hid B_W
 have HB_Z := hid B_Z
 clear g0 B_M B_W B_Z hP
 go_enter Tryz.func69, Tryz.ntmps69
 go_wp2_with fail
 rw [← hW0]
 clear hW0
 have HS : Hid (∀ w', Ext W0 w' → w'.cell? ⟨w.heap.size, 0, none⟩ = some (.int .i64 E) ∧ w'.cell? ⟨w.heap.size, 1, none⟩ = some (.int .i64 P) ∧ w'.cell? ⟨w.heap.size, 2, none⟩ = some (.int .i64 m) ∧ w'.cell? ⟨w.heap.size, 3, none⟩ = some (.int .i64 b) ∧ w'.cell? ⟨w.heap.size + 1, 0, none⟩ = some (.int .u64 n0) ∧ w'.cell? ⟨w.heap.size + 1, 1, none⟩ = some (.int .u64 n1)) := hid fun w' h => ⟨(HB_M.out.ext h).cell 0, (HB_M.out.ext h).cell 1, (HB_M.out.ext h).cell 2, (HB_M.out.ext h).cell 3, (HB_W.out.ext h).cell 0, (HB_W.out.ext h).cell 1⟩
 have hb0 : Ext W0 W0.drew := Below.drew (Below.refl _ W0)
 go_region_held3 (fun w' => w'.cell? ⟨w.heap.size, 0, none⟩ = some (.int .i64 E) ∧ w'.cell? ⟨w.heap.size, 1, none⟩ = some (.int .i64 P) ∧ w'.cell? ⟨w.heap.size, 2, none⟩ = some (.int .i64 m) ∧ w'.cell? ⟨w.heap.size, 3, none⟩ = some (.int .i64 b) ∧ w'.cell? ⟨w.heap.size + 1, 0, none⟩ = some (.int .u64 n0) ∧ w'.cell? ⟨w.heap.size + 1, 1, none⟩ = some (.int .u64 n1))
   (first | exact HS.out _ (by assumption))
  (first
   | (go_at_call 102; (with_reducible refine (C1.out _).mono ?_); rintro e x1_1 ⟨rfl, g1⟩; have hb1 : Ext W0 x1_1 := hb0.trans g1)
   | (go_at_call 136; (with_reducible refine (C2.out _).mono ?_); rintro e x1_2 ⟨rfl, g2⟩; have hb2 : Ext W0 x1_2 := hb1.trans g2))
 clear HS
 have hz_x1_2 := hb2.size
 replace HE := hid (HE.out.trans hb2)
 replace HB_M := hid (HB_M.out.ext hb2)
 replace HB_W := hid (HB_W.out.ext hb2)
 replace HB_Z := hid (HB_Z.out.ext hb2)
 obtain ⟨c_2, c_3, c_4, c_5⟩ := HB_M.out.c4
 obtain ⟨c_6, c_7⟩ := HB_W.out.c2
 obtain ⟨c_8, c_9, c_10, c_11, c_12⟩ := HB_Z.out.c5
 go_wp2_with fail
 clear c_2 c_3 c_4 c_5 c_6 c_7 c_8 c_9 c_10 c_11 c_12
 refine (C3.out _).mono ?_
 rintro e w1 ⟨rfl, g1⟩
 have hz_w1 := g1.size
 replace HE := hid (HE.out.trans g1)
 replace HB_M := hid (HB_M.out.ext g1)
 replace HB_W := hid (HB_W.out.ext g1)
 replace HB_Z := hid (HB_Z.out.ext g1)
 have gA := Ext.alloc w1 (.cells #[.int .u64 r0, .int .u64 r1] 29)
 obtain ⟨c_13, c_14, c_15, c_16⟩ := (HB_M.out.ext gA).c4
 obtain ⟨c_17, c_18⟩ := (HB_W.out.ext gA).c2
 obtain ⟨c_19, c_20, c_21, c_22, c_23⟩ := (HB_Z.out.ext gA).c5
 go_upto_region 3 with (fail)
 clear gA c_13 c_14 c_15 c_16 c_17 c_18 c_19 c_20 c_21 c_22 c_23
 obtain ⟨W2, hW2, g2, hy2, B_F⟩ := pro1 w1 #[.int .u64 r0, .int .u64 r1] 29
 rw [← hW2]
 clear hW2
 have hz_W2 := g2.size
 replace HE := hid (HE.out.trans g2)
 replace HB_M := hid (HB_M.out.ext g2)
 replace HB_W := hid (HB_W.out.ext g2)
 replace HB_Z := hid (HB_Z.out.ext g2)
 have HB_F := hid B_F
 clear B_F
 go_cut [7] (fun v wx => ∃ g : Nat, v = .pointer (some ⟨g, 0, none⟩) ∧ Hid (Ext W2 wx) ∧ W2.heap.size ≤ g ∧ Box wx g #[.int .i64 2, .bool s, .bool false, .slice none 0 0, .slice none 0 0] 112)
 case first =>
  obtain ⟨c_24, c_25, c_26, c_27⟩ := HB_M.out.c4
  obtain ⟨c_28, c_29⟩ := HB_W.out.c2
  obtain ⟨c_30, c_31, c_32, c_33, c_34⟩ := HB_Z.out.c5
  obtain ⟨c_35, c_36⟩ := HB_F.out.c2
  go_wp2_with fail
  clear c_24 c_25 c_26 c_27 c_28 c_29 c_30 c_31 c_32 c_33 c_34 c_35 c_36
  refine (C4.out _).mono ?_
  rintro e w3 ⟨rfl, g3⟩
  have hz_w3 := g3.size
  replace HE := hid (HE.out.trans g3)
  replace HB_M := hid (HB_M.out.ext g3)
  replace HB_W := hid (HB_W.out.ext g3)
  replace HB_Z := hid (HB_Z.out.ext g3)
  replace HB_F := hid (HB_F.out.ext g3)
  rcases HGS.out with ⟨rfl, rfl, rfl⟩ | ⟨rfl, hg⟩ | ⟨rfl, rfl, hg⟩
  obtain ⟨c_37, c_38, c_39, c_40⟩ := HB_M.out.c4
  obtain ⟨c_41, c_42⟩ := HB_W.out.c2
  obtain ⟨c_43, c_44, c_45, c_46, c_47⟩ := HB_Z.out.c5
  obtain ⟨c_48, c_49⟩ := HB_F.out.c2
  all_goals
   go_wp2_with fail
   go_meet
   exact ⟨_, rfl, hid (g3.trans (Ext.alloc _ _)), g3.size, Box.new _ _ _⟩
 case rest =>
  obtain ⟨gX, rfl, gx, hgX, B_X⟩ := hcut
  have hz_wc := gx.out.size
  replace HE := hid (HE.out.trans gx.out)
  replace HB_M := hid (HB_M.out.ext gx.out)
  replace HB_W := hid (HB_W.out.ext gx.out)
  replace HB_Z := hid (HB_Z.out.ext gx.out)
  replace HB_F := hid (HB_F.out.ext gx.out)
  have HB_X := hid B_X
  clear B_X
  clear hw2 hw3 hfd hwf
  have hw4 : IntKind.i64.wrap ((P : Int) - 2) = (P : Int) - 2 := IntWalk.i64_in _ (by have := HP.out; omega)
  by_cases hfe : f = 2 ^ E - 1
  ·rw [HQ3.out hfe]
   have Hfe : Hid (wf E P n = 2 ^ E - 1) := hid (by rw [← HF'.out]; exact hfe)
   clear hfe
   have hq1 := HQ1.out
   have hq2 := HQ2.out
   rcases HRC.out with ⟨hr, rfl, rfl⟩ | ⟨hr, hne⟩ | ⟨hr, rfl, hne⟩
   ·have HK : Hid (wkind E P n = 3) := hid (by unfold wkind; rw [if_pos Hfe.out, if_pos (by rw [← HR.out]; exact hr)])
    have HV : Hid (wvalK E P b n = 0) := hid (by unfold wvalK; rw [HK.out]; simp)
    clear hr
    have HB_F2 : Hid (Box wc w1.heap.size #[.int .u64 0, .int .u64 0] 29) := hid HB_F.out
    replace HB_F := HB_F2
    clear HB_F2
    obtain ⟨c_24, c_25, c_26, c_27⟩ := HB_M.out.c4
    obtain ⟨c_28, c_29⟩ := HB_W.out.c2
    obtain ⟨c_30, c_31, c_32, c_33, c_34⟩ := HB_Z.out.c5
    obtain ⟨c_35, c_36⟩ := HB_F.out.c2
    obtain ⟨c_37, c_38, c_39, c_40, c_41⟩ := HB_X.out.c5
    obtain ⟨f_42, f_43, f_44, f_45, f_46⟩ := HB_X.out.f5
    obtain ⟨f_47, f_48, f_49, f_50, f_51⟩ := HB_Z.out.f5
    go_wp2_with fail
    clear c_24 c_25 c_26 c_27 c_28 c_29 c_30 c_31 c_32 c_33 c_34 c_35 c_36 c_37 c_38 c_39 c_40 c_41 f_42 f_43 f_44 f_45 f_46 f_47 f_48 f_49 f_50 f_51
    obtain ⟨W3, hW3, g3, q3, B3, hy3, ho3⟩ := sto1 HE.out (by omega) HB_X.out (by decide) 0 (.int .i64 3)
    rw [← hW3]
    clear hW3
    replace HE := hid g3
    replace B3 : Box W3 gX #[.int .i64 3, .bool s, .bool false, .slice none 0 0, .slice none 0 0] 112 := B3
    replace HB_M := hid (ho3 _ _ _ (by omega) HB_M.out)
    replace HB_W := hid (ho3 _ _ _ (by omega) HB_W.out)
    replace HB_Z := hid (ho3 _ _ _ (by omega) HB_Z.out)
    replace HB_F := hid (ho3 _ _ _ (by omega) HB_F.out)
    replace HB_X := hid B3
    obtain ⟨W4, hW4, g4, q4, B4, hy4, ho4⟩ := sto5 HE.out (by omega) HB_Z.out (by decide) (.int .i64 3) (.bool s) (.bool false) (.slice none 0 0) (.slice none 0 0)
    rw [← hW4]
    clear hW4
    replace HE := hid g4
    replace HB_M := hid (ho4 _ _ _ (by omega) HB_M.out)
    replace HB_W := hid (ho4 _ _ _ (by omega) HB_W.out)
    replace HB_F := hid (ho4 _ _ _ (by omega) HB_F.out)
    replace HB_X := hid (ho4 _ _ _ (by omega) HB_X.out)
    replace HB_Z := hid B4
    unfold LookPost
    rw [HK.out, HV.out]
    obtain ⟨c_52, c_53, c_54, c_55, c_56⟩ := HB_Z.out.c5
    refine bodyPost_ret (v := .agg #[.int .i64 3, .bool s, .bool false, .slice none 0 0, .slice none 0 0]) (by simp [results, Tryz.results69, go_sem, c_52, c_53, c_54, c_55, c_56]) rfl ⟨_, rfl, ⟨_, _, _, _, _, _, _, rfl, NumV.zero _⟩, HE.out⟩
   ·have Hr : Hid (¬ wr P n = 0) := hid (by rw [← HR.out]; exact hr)
    clear hr
    by_cases hbl : bl r = P - 1
    ·have HK : Hid (wkind E P n = 4) := hid (by unfold wkind; rw [if_pos Hfe.out, if_neg Hr.out, if_pos (by rw [← HR.out]; exact hbl)])
     have HV : Hid (wvalK E P b n = ((r % 2 ^ (P - 2) : Nat) : Rat)) := hid (by unfold wvalK; rw [HK.out, ← HR.out]; simp)
     have hb1 : (((bl r : Nat) : Int) == (P : Int) - 1) = true := by rw [beq_iff_eq, hbl]; have := HP.out; omega
     clear hbl
     have Er2 : Hid (Word r = .agg #[.int .u64 r0, .int .u64 r1]) := hid Er.out
     obtain ⟨l0, l1, el⟩ := Word.shape (r % 2 ^ (P - 2))
     have El := hid el
     have CL : Hid (∀ w, Calls Tryz.prog 136 #[.agg #[.int .u64 r0, .int .u64 r1], .int .i64 ((P : Int) - 2)] w fun e w' => e = .returned (.agg #[.int .u64 l0, .int .u64 l1]) ∧ Ext w w') := hid fun w => by
      have h := low_w r (P - 2) w HRW.out (by have := HP.out; omega)
      rw [Er2.out, el, show ((P - 2 : Nat) : Int) = (P : Int) - 2 by have := HP.out; omega] at h; exact h
     have CW : Hid (∀ w, Calls Tryz.prog 138 #[.agg #[.int .u64 l0, .int .u64 l1]] w fun e w' => ∃ v, e = .returned v ∧ NumV w' v ((r % 2 ^ (P - 2) : Nat) : Rat) ∧ Ext w w') := hid fun w => by
      rw [← el]; exact fwhole_c _ w (Nat.lt_of_le_of_lt (Nat.mod_le _ _) HRW.out)
     clear el
     obtain ⟨c_24, c_25, c_26, c_27⟩ := HB_M.out.c4
     obtain ⟨c_28, c_29⟩ := HB_W.out.c2
     obtain ⟨c_30, c_31, c_32, c_33, c_34⟩ := HB_Z.out.c5
     obtain ⟨c_35, c_36⟩ := HB_F.out.c2
     obtain ⟨c_37, c_38, c_39, c_40, c_41⟩ := HB_X.out.c5
     go_wp2_with fail
     clear c_24 c_25 c_26 c_27 c_28 c_29 c_30 c_31 c_32 c_33 c_34 c_35 c_36 c_37 c_38 c_39 c_40 c_41
     have HS : Hid (∀ w', Ext wc w' → w'.cell? ⟨w.heap.size, 0, none⟩ = some (.int .i64 E) ∧ w'.cell? ⟨w.heap.size, 1, none⟩ = some (.int .i64 P) ∧ w'.cell? ⟨w.heap.size, 2, none⟩ = some (.int .i64 m) ∧ w'.cell? ⟨w.heap.size, 3, none⟩ = some (.int .i64 b) ∧ w'.cell? ⟨w1.heap.size, 0, none⟩ = some (.int .u64 r0) ∧ w'.cell? ⟨w1.heap.size, 1, none⟩ = some (.int .u64 r1)) := hid fun w' h => ⟨(HB_M.out.ext h).cell 0, (HB_M.out.ext h).cell 1, (HB_M.out.ext h).cell 2, (HB_M.out.ext h).cell 3, (HB_F.out.ext h).cell 0, (HB_F.out.ext h).cell 1⟩
     have hb0 : Ext wc wc.drew := Below.drew (Below.refl _ wc)
     go_region_held3 (fun w' => w'.cell? ⟨w.heap.size, 0, none⟩ = some (.int .i64 E) ∧ w'.cell? ⟨w.heap.size, 1, none⟩ = some (.int .i64 P) ∧ w'.cell? ⟨w.heap.size, 2, none⟩ = some (.int .i64 m) ∧ w'.cell? ⟨w.heap.size, 3, none⟩ = some (.int .i64 b) ∧ w'.cell? ⟨w1.heap.size, 0, none⟩ = some (.int .u64 r0) ∧ w'.cell? ⟨w1.heap.size, 1, none⟩ = some (.int .u64 r1))
       (first | exact HS.out _ (by assumption))
      (first
      | (go_at_call 137; (with_reducible refine (HS1.out _).mono ?_); rintro e x42_1 ⟨rfl, g1⟩; have hb1 : Ext wc x42_1 := hb0.trans g1))
     clear HS
     have hz_x42_1 := hb1.size
     replace HE := hid (HE.out.trans hb1)
     replace HB_M := hid (HB_M.out.ext hb1)
     replace HB_W := hid (HB_W.out.ext hb1)
     replace HB_Z := hid (HB_Z.out.ext hb1)
     replace HB_F := hid (HB_F.out.ext hb1)
     replace HB_X := hid (HB_X.out.ext hb1)
     obtain ⟨c_43, c_44, c_45, c_46⟩ := HB_M.out.c4
     obtain ⟨c_47, c_48⟩ := HB_W.out.c2
     obtain ⟨c_49, c_50, c_51, c_52, c_53⟩ := HB_Z.out.c5
     obtain ⟨c_54, c_55⟩ := HB_F.out.c2
     obtain ⟨c_56, c_57, c_58, c_59, c_60⟩ := HB_X.out.c5
     go_wp2_with fail
     clear c_43 c_44 c_45 c_46 c_47 c_48 c_49 c_50 c_51 c_52 c_53 c_54 c_55 c_56 c_57 c_58 c_59 c_60
     refine (CL.out _).mono ?_
     rintro e w3 ⟨rfl, g3⟩
     have hz_w3 := g3.size
     replace HE := hid (HE.out.trans g3)
     replace HB_M := hid (HB_M.out.ext g3)
     replace HB_W := hid (HB_W.out.ext g3)
     replace HB_Z := hid (HB_Z.out.ext g3)
     replace HB_F := hid (HB_F.out.ext g3)
     replace HB_X := hid (HB_X.out.ext g3)
     obtain ⟨c_61, c_62, c_63, c_64⟩ := HB_M.out.c4
     obtain ⟨c_65, c_66⟩ := HB_W.out.c2
     obtain ⟨c_67, c_68, c_69, c_70, c_71⟩ := HB_Z.out.c5
     obtain ⟨c_72, c_73⟩ := HB_F.out.c2
     obtain ⟨c_74, c_75, c_76, c_77, c_78⟩ := HB_X.out.c5
     go_wp2_with fail
     clear c_61 c_62 c_63 c_64 c_65 c_66 c_67 c_68 c_69 c_70 c_71 c_72 c_73 c_74 c_75 c_76 c_77 c_78
     refine (CW.out _).mono ?_
     rintro e w4 ⟨v1, rfl, k1, g4⟩
     have hz_w4 := g4.size
     replace HE := hid (HE.out.trans g4)
     replace HB_M := hid (HB_M.out.ext g4)
     replace HB_W := hid (HB_W.out.ext g4)
     replace HB_Z := hid (HB_Z.out.ext g4)
     replace HB_F := hid (HB_F.out.ext g4)
     replace HB_X := hid (HB_X.out.ext g4)
     obtain ⟨ng1, a1, n1', c1, a1', n1'', c1', rfl⟩ := k1.shape
     obtain ⟨c_79, c_80, c_81, c_82⟩ := HB_M.out.c4
     obtain ⟨c_83, c_84⟩ := HB_W.out.c2
     obtain ⟨c_85, c_86, c_87, c_88, c_89⟩ := HB_Z.out.c5
     obtain ⟨c_90, c_91⟩ := HB_F.out.c2
     obtain ⟨c_92, c_93, c_94, c_95, c_96⟩ := HB_X.out.c5
     obtain ⟨f_97, f_98, f_99, f_100, f_101⟩ := HB_X.out.f5
     obtain ⟨f_102, f_103, f_104, f_105, f_106⟩ := HB_Z.out.f5
     go_wp2_with fail
     clear c_79 c_80 c_81 c_82 c_83 c_84 c_85 c_86 c_87 c_88 c_89 c_90 c_91 c_92 c_93 c_94 c_95 c_96 f_97 f_98 f_99 f_100 f_101 f_102 f_103 f_104 f_105 f_106
     obtain ⟨W5, hW5, g5, q5, B5, hy5, ho5⟩ := sto1 HE.out (by omega) HB_X.out (by decide) 0 (.int .i64 4)
     rw [← hW5]
     clear hW5
     replace HE := hid g5
     replace B5 : Box W5 gX #[.int .i64 4, .bool s, .bool false, .slice none 0 0, .slice none 0 0] 112 := B5
     replace HB_M := hid (ho5 _ _ _ (by omega) HB_M.out)
     replace HB_W := hid (ho5 _ _ _ (by omega) HB_W.out)
     replace HB_Z := hid (ho5 _ _ _ (by omega) HB_Z.out)
     replace HB_F := hid (ho5 _ _ _ (by omega) HB_F.out)
     replace HB_X := hid B5
     replace k1 := k1.keep q5
     obtain ⟨W6, hW6, g6, q6, B6, hy6, ho6⟩ := sto3at2 HE.out (by omega) HB_X.out (by decide) (.bool ng1) (.slice a1 n1' c1) (.slice a1' n1'' c1')
     rw [← hW6]
     clear hW6
     replace HE := hid g6
     replace HB_M := hid (ho6 _ _ _ (by omega) HB_M.out)
     replace HB_W := hid (ho6 _ _ _ (by omega) HB_W.out)
     replace HB_Z := hid (ho6 _ _ _ (by omega) HB_Z.out)
     replace HB_F := hid (ho6 _ _ _ (by omega) HB_F.out)
     replace HB_X := hid B6
     replace k1 := k1.keep q6
     obtain ⟨W7, hW7, g7, q7, B7, hy7, ho7⟩ := sto5 HE.out (by omega) HB_Z.out (by decide) (.int .i64 4) (.bool s) (.bool ng1) (.slice a1 n1' c1) (.slice a1' n1'' c1')
     rw [← hW7]
     clear hW7
     replace HE := hid g7
     replace HB_M := hid (ho7 _ _ _ (by omega) HB_M.out)
     replace HB_W := hid (ho7 _ _ _ (by omega) HB_W.out)
     replace HB_F := hid (ho7 _ _ _ (by omega) HB_F.out)
     replace HB_X := hid (ho7 _ _ _ (by omega) HB_X.out)
     replace HB_Z := hid B7
     replace k1 := k1.keep q7
     unfold LookPost
     rw [HK.out, HV.out]
     obtain ⟨c_107, c_108, c_109, c_110, c_111⟩ := HB_Z.out.c5
     refine bodyPost_ret (v := .agg #[.int .i64 4, .bool s, .bool ng1, .slice a1 n1' c1, .slice a1' n1'' c1']) (by simp [results, Tryz.results69, go_sem, c_107, c_108, c_109, c_110, c_111]) rfl ⟨_, rfl, ⟨_, _, _, _, _, _, _, rfl, k1⟩, HE.out⟩
    ·have HK : Hid (wkind E P n = 5) := hid (by unfold wkind; rw [if_pos Hfe.out, if_neg Hr.out, if_neg (by rw [← HR.out]; exact hbl)])
     have HV : Hid (wvalK E P b n = ((r : Nat) : Rat)) := hid (by unfold wvalK; rw [HK.out, ← HR.out]; simp)
     have hb1 : (((bl r : Nat) : Int) == (P : Int) - 1) = false := by rw [beq_eq_false_iff_ne]; have := HP.out; omega
     clear hbl
     have CW : Hid (∀ w, Calls Tryz.prog 138 #[.agg #[.int .u64 r0, .int .u64 r1]] w fun e w' => ∃ v, e = .returned v ∧ NumV w' v ((r : Nat) : Rat) ∧ Ext w w') := hid fun w => by
      have h := fwhole_c r w HRW.out
      rw [Er.out] at h; exact h
     obtain ⟨c_24, c_25, c_26, c_27⟩ := HB_M.out.c4
     obtain ⟨c_28, c_29⟩ := HB_W.out.c2
     obtain ⟨c_30, c_31, c_32, c_33, c_34⟩ := HB_Z.out.c5
     obtain ⟨c_35, c_36⟩ := HB_F.out.c2
     obtain ⟨c_37, c_38, c_39, c_40, c_41⟩ := HB_X.out.c5
     go_wp2_with fail
     clear c_24 c_25 c_26 c_27 c_28 c_29 c_30 c_31 c_32 c_33 c_34 c_35 c_36 c_37 c_38 c_39 c_40 c_41
     have HS : Hid (∀ w', Ext wc w' → w'.cell? ⟨w.heap.size, 0, none⟩ = some (.int .i64 E) ∧ w'.cell? ⟨w.heap.size, 1, none⟩ = some (.int .i64 P) ∧ w'.cell? ⟨w.heap.size, 2, none⟩ = some (.int .i64 m) ∧ w'.cell? ⟨w.heap.size, 3, none⟩ = some (.int .i64 b) ∧ w'.cell? ⟨w1.heap.size, 0, none⟩ = some (.int .u64 r0) ∧ w'.cell? ⟨w1.heap.size, 1, none⟩ = some (.int .u64 r1)) := hid fun w' h => ⟨(HB_M.out.ext h).cell 0, (HB_M.out.ext h).cell 1, (HB_M.out.ext h).cell 2, (HB_M.out.ext h).cell 3, (HB_F.out.ext h).cell 0, (HB_F.out.ext h).cell 1⟩
     have hb0 : Ext wc wc.drew := Below.drew (Below.refl _ wc)
     go_region_held3 (fun w' => w'.cell? ⟨w.heap.size, 0, none⟩ = some (.int .i64 E) ∧ w'.cell? ⟨w.heap.size, 1, none⟩ = some (.int .i64 P) ∧ w'.cell? ⟨w.heap.size, 2, none⟩ = some (.int .i64 m) ∧ w'.cell? ⟨w.heap.size, 3, none⟩ = some (.int .i64 b) ∧ w'.cell? ⟨w1.heap.size, 0, none⟩ = some (.int .u64 r0) ∧ w'.cell? ⟨w1.heap.size, 1, none⟩ = some (.int .u64 r1))
       (first | exact HS.out _ (by assumption))
      (first
      | (go_at_call 137; (with_reducible refine (HS1.out _).mono ?_); rintro e x42_1 ⟨rfl, g1⟩; have hb1 : Ext wc x42_1 := hb0.trans g1))
     clear HS
     have hz_x42_1 := hb1.size
     replace HE := hid (HE.out.trans hb1)
     replace HB_M := hid (HB_M.out.ext hb1)
     replace HB_W := hid (HB_W.out.ext hb1)
     replace HB_Z := hid (HB_Z.out.ext hb1)
     replace HB_F := hid (HB_F.out.ext hb1)
     replace HB_X := hid (HB_X.out.ext hb1)
     obtain ⟨c_43, c_44, c_45, c_46⟩ := HB_M.out.c4
     obtain ⟨c_47, c_48⟩ := HB_W.out.c2
     obtain ⟨c_49, c_50, c_51, c_52, c_53⟩ := HB_Z.out.c5
     obtain ⟨c_54, c_55⟩ := HB_F.out.c2
     obtain ⟨c_56, c_57, c_58, c_59, c_60⟩ := HB_X.out.c5
     go_wp2_with fail
     clear c_43 c_44 c_45 c_46 c_47 c_48 c_49 c_50 c_51 c_52 c_53 c_54 c_55 c_56 c_57 c_58 c_59 c_60
     refine (CW.out _).mono ?_
     rintro e w3 ⟨v1, rfl, k1, g3⟩
     have hz_w3 := g3.size
     replace HE := hid (HE.out.trans g3)
     replace HB_M := hid (HB_M.out.ext g3)
     replace HB_W := hid (HB_W.out.ext g3)
     replace HB_Z := hid (HB_Z.out.ext g3)
     replace HB_F := hid (HB_F.out.ext g3)
     replace HB_X := hid (HB_X.out.ext g3)
     obtain ⟨ng1, a1, n1', c1, a1', n1'', c1', rfl⟩ := k1.shape
     obtain ⟨c_61, c_62, c_63, c_64⟩ := HB_M.out.c4
     obtain ⟨c_65, c_66⟩ := HB_W.out.c2
     obtain ⟨c_67, c_68, c_69, c_70, c_71⟩ := HB_Z.out.c5
     obtain ⟨c_72, c_73⟩ := HB_F.out.c2
     obtain ⟨c_74, c_75, c_76, c_77, c_78⟩ := HB_X.out.c5
     obtain ⟨f_79, f_80, f_81, f_82, f_83⟩ := HB_X.out.f5
     obtain ⟨f_84, f_85, f_86, f_87, f_88⟩ := HB_Z.out.f5
     go_wp2_with fail
     clear c_61 c_62 c_63 c_64 c_65 c_66 c_67 c_68 c_69 c_70 c_71 c_72 c_73 c_74 c_75 c_76 c_77 c_78 f_79 f_80 f_81 f_82 f_83 f_84 f_85 f_86 f_87 f_88
     obtain ⟨W4, hW4, g4, q4, B4, hy4, ho4⟩ := sto1 HE.out (by omega) HB_X.out (by decide) 0 (.int .i64 5)
     rw [← hW4]
     clear hW4
     replace HE := hid g4
     replace B4 : Box W4 gX #[.int .i64 5, .bool s, .bool false, .slice none 0 0, .slice none 0 0] 112 := B4
     replace HB_M := hid (ho4 _ _ _ (by omega) HB_M.out)
     replace HB_W := hid (ho4 _ _ _ (by omega) HB_W.out)
     replace HB_Z := hid (ho4 _ _ _ (by omega) HB_Z.out)
     replace HB_F := hid (ho4 _ _ _ (by omega) HB_F.out)
     replace HB_X := hid B4
     replace k1 := k1.keep q4
     obtain ⟨W5, hW5, g5, q5, B5, hy5, ho5⟩ := sto3at2 HE.out (by omega) HB_X.out (by decide) (.bool ng1) (.slice a1 n1' c1) (.slice a1' n1'' c1')
     rw [← hW5]
     clear hW5
     replace HE := hid g5
     replace HB_M := hid (ho5 _ _ _ (by omega) HB_M.out)
     replace HB_W := hid (ho5 _ _ _ (by omega) HB_W.out)
     replace HB_Z := hid (ho5 _ _ _ (by omega) HB_Z.out)
     replace HB_F := hid (ho5 _ _ _ (by omega) HB_F.out)
     replace HB_X := hid B5
     replace k1 := k1.keep q5
     obtain ⟨W6, hW6, g6, q6, B6, hy6, ho6⟩ := sto5 HE.out (by omega) HB_Z.out (by decide) (.int .i64 5) (.bool s) (.bool ng1) (.slice a1 n1' c1) (.slice a1' n1'' c1')
     rw [← hW6]
     clear hW6
     replace HE := hid g6
     replace HB_M := hid (ho6 _ _ _ (by omega) HB_M.out)
     replace HB_W := hid (ho6 _ _ _ (by omega) HB_W.out)
     replace HB_F := hid (ho6 _ _ _ (by omega) HB_F.out)
     replace HB_X := hid (ho6 _ _ _ (by omega) HB_X.out)
     replace HB_Z := hid B6
     replace k1 := k1.keep q6
     unfold LookPost
     rw [HK.out, HV.out]
     obtain ⟨c_89, c_90, c_91, c_92, c_93⟩ := HB_Z.out.c5
     refine bodyPost_ret (v := .agg #[.int .i64 5, .bool s, .bool ng1, .slice a1 n1' c1, .slice a1' n1'' c1']) (by simp [results, Tryz.results69, go_sem, c_89, c_90, c_91, c_92, c_93]) rfl ⟨_, rfl, ⟨_, _, _, _, _, _, _, rfl, k1⟩, HE.out⟩
   ·have HB_F2 : Hid (Box wc w1.heap.size #[.int .u64 0, .int .u64 r1] 29) := hid HB_F.out
    replace HB_F := HB_F2
    clear HB_F2
    have Er2 : Hid (Word r = .agg #[.int .u64 0, .int .u64 r1]) := hid Er.out
    replace Er := Er2
    clear Er2
    have HS2 : Hid (∀ w, Calls Tryz.prog 137 #[.agg #[.int .u64 0, .int .u64 r1]] w fun e w' => e = .returned (.int .i64 (bl r)) ∧ Ext w w') := hid HS1.out
    replace HS1 := HS2
    clear HS2
    have Hr : Hid (¬ wr P n = 0) := hid (by rw [← HR.out]; exact hr)
    clear hr
    by_cases hbl : bl r = P - 1
    ·have HK : Hid (wkind E P n = 4) := hid (by unfold wkind; rw [if_pos Hfe.out, if_neg Hr.out, if_pos (by rw [← HR.out]; exact hbl)])
     have HV : Hid (wvalK E P b n = ((r % 2 ^ (P - 2) : Nat) : Rat)) := hid (by unfold wvalK; rw [HK.out, ← HR.out]; simp)
     have hb1 : (((bl r : Nat) : Int) == (P : Int) - 1) = true := by rw [beq_iff_eq, hbl]; have := HP.out; omega
     clear hbl
     have Er2 : Hid (Word r = .agg #[.int .u64 0, .int .u64 r1]) := hid Er.out
     obtain ⟨l0, l1, el⟩ := Word.shape (r % 2 ^ (P - 2))
     have El := hid el
     have CL : Hid (∀ w, Calls Tryz.prog 136 #[.agg #[.int .u64 0, .int .u64 r1], .int .i64 ((P : Int) - 2)] w fun e w' => e = .returned (.agg #[.int .u64 l0, .int .u64 l1]) ∧ Ext w w') := hid fun w => by
      have h := low_w r (P - 2) w HRW.out (by have := HP.out; omega)
      rw [Er2.out, el, show ((P - 2 : Nat) : Int) = (P : Int) - 2 by have := HP.out; omega] at h; exact h
     have CW : Hid (∀ w, Calls Tryz.prog 138 #[.agg #[.int .u64 l0, .int .u64 l1]] w fun e w' => ∃ v, e = .returned v ∧ NumV w' v ((r % 2 ^ (P - 2) : Nat) : Rat) ∧ Ext w w') := hid fun w => by
      rw [← el]; exact fwhole_c _ w (Nat.lt_of_le_of_lt (Nat.mod_le _ _) HRW.out)
     clear el
     obtain ⟨c_24, c_25, c_26, c_27⟩ := HB_M.out.c4
     obtain ⟨c_28, c_29⟩ := HB_W.out.c2
     obtain ⟨c_30, c_31, c_32, c_33, c_34⟩ := HB_Z.out.c5
     obtain ⟨c_35, c_36⟩ := HB_F.out.c2
     obtain ⟨c_37, c_38, c_39, c_40, c_41⟩ := HB_X.out.c5
     go_wp2_with fail
     clear c_24 c_25 c_26 c_27 c_28 c_29 c_30 c_31 c_32 c_33 c_34 c_35 c_36 c_37 c_38 c_39 c_40 c_41
     have HS : Hid (∀ w', Ext wc w' → w'.cell? ⟨w.heap.size, 0, none⟩ = some (.int .i64 E) ∧ w'.cell? ⟨w.heap.size, 1, none⟩ = some (.int .i64 P) ∧ w'.cell? ⟨w.heap.size, 2, none⟩ = some (.int .i64 m) ∧ w'.cell? ⟨w.heap.size, 3, none⟩ = some (.int .i64 b) ∧ w'.cell? ⟨w1.heap.size, 0, none⟩ = some (.int .u64 0) ∧ w'.cell? ⟨w1.heap.size, 1, none⟩ = some (.int .u64 r1)) := hid fun w' h => ⟨(HB_M.out.ext h).cell 0, (HB_M.out.ext h).cell 1, (HB_M.out.ext h).cell 2, (HB_M.out.ext h).cell 3, (HB_F.out.ext h).cell 0, (HB_F.out.ext h).cell 1⟩
     have hb0 : Ext wc wc.drew := Below.drew (Below.refl _ wc)
     go_region_held3 (fun w' => w'.cell? ⟨w.heap.size, 0, none⟩ = some (.int .i64 E) ∧ w'.cell? ⟨w.heap.size, 1, none⟩ = some (.int .i64 P) ∧ w'.cell? ⟨w.heap.size, 2, none⟩ = some (.int .i64 m) ∧ w'.cell? ⟨w.heap.size, 3, none⟩ = some (.int .i64 b) ∧ w'.cell? ⟨w1.heap.size, 0, none⟩ = some (.int .u64 0) ∧ w'.cell? ⟨w1.heap.size, 1, none⟩ = some (.int .u64 r1))
       (first | exact HS.out _ (by assumption))
      (first
      | (go_at_call 137; (with_reducible refine (HS1.out _).mono ?_); rintro e x42_1 ⟨rfl, g1⟩; have hb1 : Ext wc x42_1 := hb0.trans g1))
     clear HS
     have hz_x42_1 := hb1.size
     replace HE := hid (HE.out.trans hb1)
     replace HB_M := hid (HB_M.out.ext hb1)
     replace HB_W := hid (HB_W.out.ext hb1)
     replace HB_Z := hid (HB_Z.out.ext hb1)
     replace HB_F := hid (HB_F.out.ext hb1)
     replace HB_X := hid (HB_X.out.ext hb1)
     obtain ⟨c_43, c_44, c_45, c_46⟩ := HB_M.out.c4
     obtain ⟨c_47, c_48⟩ := HB_W.out.c2
     obtain ⟨c_49, c_50, c_51, c_52, c_53⟩ := HB_Z.out.c5
     obtain ⟨c_54, c_55⟩ := HB_F.out.c2
     obtain ⟨c_56, c_57, c_58, c_59, c_60⟩ := HB_X.out.c5
     go_wp2_with fail
     clear c_43 c_44 c_45 c_46 c_47 c_48 c_49 c_50 c_51 c_52 c_53 c_54 c_55 c_56 c_57 c_58 c_59 c_60
     refine (CL.out _).mono ?_
     rintro e w3 ⟨rfl, g3⟩
     have hz_w3 := g3.size
     replace HE := hid (HE.out.trans g3)
     replace HB_M := hid (HB_M.out.ext g3)
     replace HB_W := hid (HB_W.out.ext g3)
     replace HB_Z := hid (HB_Z.out.ext g3)
     replace HB_F := hid (HB_F.out.ext g3)
     replace HB_X := hid (HB_X.out.ext g3)
     obtain ⟨c_61, c_62, c_63, c_64⟩ := HB_M.out.c4
     obtain ⟨c_65, c_66⟩ := HB_W.out.c2
     obtain ⟨c_67, c_68, c_69, c_70, c_71⟩ := HB_Z.out.c5
     obtain ⟨c_72, c_73⟩ := HB_F.out.c2
     obtain ⟨c_74, c_75, c_76, c_77, c_78⟩ := HB_X.out.c5
     go_wp2_with fail
     clear c_61 c_62 c_63 c_64 c_65 c_66 c_67 c_68 c_69 c_70 c_71 c_72 c_73 c_74 c_75 c_76 c_77 c_78
     refine (CW.out _).mono ?_
     rintro e w4 ⟨v1, rfl, k1, g4⟩
     have hz_w4 := g4.size
     replace HE := hid (HE.out.trans g4)
     replace HB_M := hid (HB_M.out.ext g4)
     replace HB_W := hid (HB_W.out.ext g4)
     replace HB_Z := hid (HB_Z.out.ext g4)
     replace HB_F := hid (HB_F.out.ext g4)
     replace HB_X := hid (HB_X.out.ext g4)
     obtain ⟨ng1, a1, n1', c1, a1', n1'', c1', rfl⟩ := k1.shape
     obtain ⟨c_79, c_80, c_81, c_82⟩ := HB_M.out.c4
     obtain ⟨c_83, c_84⟩ := HB_W.out.c2
     obtain ⟨c_85, c_86, c_87, c_88, c_89⟩ := HB_Z.out.c5
     obtain ⟨c_90, c_91⟩ := HB_F.out.c2
     obtain ⟨c_92, c_93, c_94, c_95, c_96⟩ := HB_X.out.c5
     obtain ⟨f_97, f_98, f_99, f_100, f_101⟩ := HB_X.out.f5
     obtain ⟨f_102, f_103, f_104, f_105, f_106⟩ := HB_Z.out.f5
     go_wp2_with fail
     clear c_79 c_80 c_81 c_82 c_83 c_84 c_85 c_86 c_87 c_88 c_89 c_90 c_91 c_92 c_93 c_94 c_95 c_96 f_97 f_98 f_99 f_100 f_101 f_102 f_103 f_104 f_105 f_106
     obtain ⟨W5, hW5, g5, q5, B5, hy5, ho5⟩ := sto1 HE.out (by omega) HB_X.out (by decide) 0 (.int .i64 4)
     rw [← hW5]
     clear hW5
     replace HE := hid g5
     replace B5 : Box W5 gX #[.int .i64 4, .bool s, .bool false, .slice none 0 0, .slice none 0 0] 112 := B5
     replace HB_M := hid (ho5 _ _ _ (by omega) HB_M.out)
     replace HB_W := hid (ho5 _ _ _ (by omega) HB_W.out)
     replace HB_Z := hid (ho5 _ _ _ (by omega) HB_Z.out)
     replace HB_F := hid (ho5 _ _ _ (by omega) HB_F.out)
     replace HB_X := hid B5
     replace k1 := k1.keep q5
     obtain ⟨W6, hW6, g6, q6, B6, hy6, ho6⟩ := sto3at2 HE.out (by omega) HB_X.out (by decide) (.bool ng1) (.slice a1 n1' c1) (.slice a1' n1'' c1')
     rw [← hW6]
     clear hW6
     replace HE := hid g6
     replace HB_M := hid (ho6 _ _ _ (by omega) HB_M.out)
     replace HB_W := hid (ho6 _ _ _ (by omega) HB_W.out)
     replace HB_Z := hid (ho6 _ _ _ (by omega) HB_Z.out)
     replace HB_F := hid (ho6 _ _ _ (by omega) HB_F.out)
     replace HB_X := hid B6
     replace k1 := k1.keep q6
     obtain ⟨W7, hW7, g7, q7, B7, hy7, ho7⟩ := sto5 HE.out (by omega) HB_Z.out (by decide) (.int .i64 4) (.bool s) (.bool ng1) (.slice a1 n1' c1) (.slice a1' n1'' c1')
     rw [← hW7]
     clear hW7
     replace HE := hid g7
     replace HB_M := hid (ho7 _ _ _ (by omega) HB_M.out)
     replace HB_W := hid (ho7 _ _ _ (by omega) HB_W.out)
     replace HB_F := hid (ho7 _ _ _ (by omega) HB_F.out)
     replace HB_X := hid (ho7 _ _ _ (by omega) HB_X.out)
     replace HB_Z := hid B7
     replace k1 := k1.keep q7
     unfold LookPost
     rw [HK.out, HV.out]
     obtain ⟨c_107, c_108, c_109, c_110, c_111⟩ := HB_Z.out.c5
     refine bodyPost_ret (v := .agg #[.int .i64 4, .bool s, .bool ng1, .slice a1 n1' c1, .slice a1' n1'' c1']) (by simp [results, Tryz.results69, go_sem, c_107, c_108, c_109, c_110, c_111]) rfl ⟨_, rfl, ⟨_, _, _, _, _, _, _, rfl, k1⟩, HE.out⟩
    ·have HK : Hid (wkind E P n = 5) := hid (by unfold wkind; rw [if_pos Hfe.out, if_neg Hr.out, if_neg (by rw [← HR.out]; exact hbl)])
     have HV : Hid (wvalK E P b n = ((r : Nat) : Rat)) := hid (by unfold wvalK; rw [HK.out, ← HR.out]; simp)
     have hb1 : (((bl r : Nat) : Int) == (P : Int) - 1) = false := by rw [beq_eq_false_iff_ne]; have := HP.out; omega
     clear hbl
     have CW : Hid (∀ w, Calls Tryz.prog 138 #[.agg #[.int .u64 0, .int .u64 r1]] w fun e w' => ∃ v, e = .returned v ∧ NumV w' v ((r : Nat) : Rat) ∧ Ext w w') := hid fun w => by
      have h := fwhole_c r w HRW.out
      rw [Er.out] at h; exact h
     obtain ⟨c_24, c_25, c_26, c_27⟩ := HB_M.out.c4
     obtain ⟨c_28, c_29⟩ := HB_W.out.c2
     obtain ⟨c_30, c_31, c_32, c_33, c_34⟩ := HB_Z.out.c5
     obtain ⟨c_35, c_36⟩ := HB_F.out.c2
     obtain ⟨c_37, c_38, c_39, c_40, c_41⟩ := HB_X.out.c5
     go_wp2_with fail
     clear c_24 c_25 c_26 c_27 c_28 c_29 c_30 c_31 c_32 c_33 c_34 c_35 c_36 c_37 c_38 c_39 c_40 c_41
     have HS : Hid (∀ w', Ext wc w' → w'.cell? ⟨w.heap.size, 0, none⟩ = some (.int .i64 E) ∧ w'.cell? ⟨w.heap.size, 1, none⟩ = some (.int .i64 P) ∧ w'.cell? ⟨w.heap.size, 2, none⟩ = some (.int .i64 m) ∧ w'.cell? ⟨w.heap.size, 3, none⟩ = some (.int .i64 b) ∧ w'.cell? ⟨w1.heap.size, 0, none⟩ = some (.int .u64 0) ∧ w'.cell? ⟨w1.heap.size, 1, none⟩ = some (.int .u64 r1)) := hid fun w' h => ⟨(HB_M.out.ext h).cell 0, (HB_M.out.ext h).cell 1, (HB_M.out.ext h).cell 2, (HB_M.out.ext h).cell 3, (HB_F.out.ext h).cell 0, (HB_F.out.ext h).cell 1⟩
     have hb0 : Ext wc wc.drew := Below.drew (Below.refl _ wc)
     go_region_held3 (fun w' => w'.cell? ⟨w.heap.size, 0, none⟩ = some (.int .i64 E) ∧ w'.cell? ⟨w.heap.size, 1, none⟩ = some (.int .i64 P) ∧ w'.cell? ⟨w.heap.size, 2, none⟩ = some (.int .i64 m) ∧ w'.cell? ⟨w.heap.size, 3, none⟩ = some (.int .i64 b) ∧ w'.cell? ⟨w1.heap.size, 0, none⟩ = some (.int .u64 0) ∧ w'.cell? ⟨w1.heap.size, 1, none⟩ = some (.int .u64 r1))
       (first | exact HS.out _ (by assumption))
      (first
      | (go_at_call 137; (with_reducible refine (HS1.out _).mono ?_); rintro e x42_1 ⟨rfl, g1⟩; have hb1 : Ext wc x42_1 := hb0.trans g1))
     clear HS
     have hz_x42_1 := hb1.size
     replace HE := hid (HE.out.trans hb1)
     replace HB_M := hid (HB_M.out.ext hb1)
     replace HB_W := hid (HB_W.out.ext hb1)
     replace HB_Z := hid (HB_Z.out.ext hb1)
     replace HB_F := hid (HB_F.out.ext hb1)
     replace HB_X := hid (HB_X.out.ext hb1)
     obtain ⟨c_43, c_44, c_45, c_46⟩ := HB_M.out.c4
     obtain ⟨c_47, c_48⟩ := HB_W.out.c2
     obtain ⟨c_49, c_50, c_51, c_52, c_53⟩ := HB_Z.out.c5
     obtain ⟨c_54, c_55⟩ := HB_F.out.c2
     obtain ⟨c_56, c_57, c_58, c_59, c_60⟩ := HB_X.out.c5
     go_wp2_with fail
     clear c_43 c_44 c_45 c_46 c_47 c_48 c_49 c_50 c_51 c_52 c_53 c_54 c_55 c_56 c_57 c_58 c_59 c_60
     refine (CW.out _).mono ?_
     rintro e w3 ⟨v1, rfl, k1, g3⟩
     have hz_w3 := g3.size
     replace HE := hid (HE.out.trans g3)
     replace HB_M := hid (HB_M.out.ext g3)
     replace HB_W := hid (HB_W.out.ext g3)
     replace HB_Z := hid (HB_Z.out.ext g3)
     replace HB_F := hid (HB_F.out.ext g3)
     replace HB_X := hid (HB_X.out.ext g3)
     obtain ⟨ng1, a1, n1', c1, a1', n1'', c1', rfl⟩ := k1.shape
     obtain ⟨c_61, c_62, c_63, c_64⟩ := HB_M.out.c4
     obtain ⟨c_65, c_66⟩ := HB_W.out.c2
     obtain ⟨c_67, c_68, c_69, c_70, c_71⟩ := HB_Z.out.c5
     obtain ⟨c_72, c_73⟩ := HB_F.out.c2
     obtain ⟨c_74, c_75, c_76, c_77, c_78⟩ := HB_X.out.c5
     obtain ⟨f_79, f_80, f_81, f_82, f_83⟩ := HB_X.out.f5
     obtain ⟨f_84, f_85, f_86, f_87, f_88⟩ := HB_Z.out.f5
     go_wp2_with fail
     clear c_61 c_62 c_63 c_64 c_65 c_66 c_67 c_68 c_69 c_70 c_71 c_72 c_73 c_74 c_75 c_76 c_77 c_78 f_79 f_80 f_81 f_82 f_83 f_84 f_85 f_86 f_87 f_88
     obtain ⟨W4, hW4, g4, q4, B4, hy4, ho4⟩ := sto1 HE.out (by omega) HB_X.out (by decide) 0 (.int .i64 5)
     rw [← hW4]
     clear hW4
     replace HE := hid g4
     replace B4 : Box W4 gX #[.int .i64 5, .bool s, .bool false, .slice none 0 0, .slice none 0 0] 112 := B4
     replace HB_M := hid (ho4 _ _ _ (by omega) HB_M.out)
     replace HB_W := hid (ho4 _ _ _ (by omega) HB_W.out)
     replace HB_Z := hid (ho4 _ _ _ (by omega) HB_Z.out)
     replace HB_F := hid (ho4 _ _ _ (by omega) HB_F.out)
     replace HB_X := hid B4
     replace k1 := k1.keep q4
     obtain ⟨W5, hW5, g5, q5, B5, hy5, ho5⟩ := sto3at2 HE.out (by omega) HB_X.out (by decide) (.bool ng1) (.slice a1 n1' c1) (.slice a1' n1'' c1')
     rw [← hW5]
     clear hW5
     replace HE := hid g5
     replace HB_M := hid (ho5 _ _ _ (by omega) HB_M.out)
     replace HB_W := hid (ho5 _ _ _ (by omega) HB_W.out)
     replace HB_Z := hid (ho5 _ _ _ (by omega) HB_Z.out)
     replace HB_F := hid (ho5 _ _ _ (by omega) HB_F.out)
     replace HB_X := hid B5
     replace k1 := k1.keep q5
     obtain ⟨W6, hW6, g6, q6, B6, hy6, ho6⟩ := sto5 HE.out (by omega) HB_Z.out (by decide) (.int .i64 5) (.bool s) (.bool ng1) (.slice a1 n1' c1) (.slice a1' n1'' c1')
     rw [← hW6]
     clear hW6
     replace HE := hid g6
     replace HB_M := hid (ho6 _ _ _ (by omega) HB_M.out)
     replace HB_W := hid (ho6 _ _ _ (by omega) HB_W.out)
     replace HB_F := hid (ho6 _ _ _ (by omega) HB_F.out)
     replace HB_X := hid (ho6 _ _ _ (by omega) HB_X.out)
     replace HB_Z := hid B6
     replace k1 := k1.keep q6
     unfold LookPost
     rw [HK.out, HV.out]
     obtain ⟨c_89, c_90, c_91, c_92, c_93⟩ := HB_Z.out.c5
     refine bodyPost_ret (v := .agg #[.int .i64 5, .bool s, .bool ng1, .slice a1 n1' c1, .slice a1' n1'' c1']) (by simp [results, Tryz.results69, go_sem, c_89, c_90, c_91, c_92, c_93]) rfl ⟨_, rfl, ⟨_, _, _, _, _, _, _, rfl, k1⟩, HE.out⟩
  ·have hq3 := HQ4.out hfe
   have Hfe : Hid (¬ wf E P n = 2 ^ E - 1) := hid (by rw [← HF'.out]; exact hfe)
   clear hfe
   have hq1 := HQ1.out
   have hq2 := HQ2.out
   by_cases hz : f = 0 ∧ r = 0
   ·obtain ⟨rfl, hr⟩ := hz
    have hq3' : ((0 : Int) == (2 : Int) ^ E - 1) = false := hq3
    clear hq3
    have HK : Hid (wkind E P n = 1) := hid (by unfold wkind; rw [if_neg Hfe.out, if_pos ⟨HF'.out.symm, by rw [← HR.out]; exact hr⟩])
    have HV : Hid (wvalK E P b n = 0) := hid (by unfold wvalK; rw [HK.out]; simp)
    have h00 : r0 = 0 ∧ r1 = 0 := ⟨by rw [HR0.out, hr], by rw [HR1.out, hr]⟩
    obtain ⟨rfl, rfl⟩ := h00
    clear hr
    have HB_F2 : Hid (Box wc w1.heap.size #[.int .u64 0, .int .u64 0] 29) := hid HB_F.out
    replace HB_F := HB_F2
    clear HB_F2
    obtain ⟨c_24, c_25, c_26, c_27⟩ := HB_M.out.c4
    obtain ⟨c_28, c_29⟩ := HB_W.out.c2
    obtain ⟨c_30, c_31, c_32, c_33, c_34⟩ := HB_Z.out.c5
    obtain ⟨c_35, c_36⟩ := HB_F.out.c2
    obtain ⟨c_37, c_38, c_39, c_40, c_41⟩ := HB_X.out.c5
    go_wp2_with fail
    clear c_24 c_25 c_26 c_27 c_28 c_29 c_30 c_31 c_32 c_33 c_34 c_35 c_36 c_37 c_38 c_39 c_40 c_41
    obtain ⟨c_42, c_43, c_44, c_45⟩ := HB_M.out.c4
    obtain ⟨c_46, c_47⟩ := HB_W.out.c2
    obtain ⟨c_48, c_49, c_50, c_51, c_52⟩ := HB_Z.out.c5
    obtain ⟨c_53, c_54⟩ := HB_F.out.c2
    obtain ⟨c_55, c_56, c_57, c_58, c_59⟩ := HB_X.out.c5
    go_quiet (fail)
    clear c_42 c_43 c_44 c_45 c_46 c_47 c_48 c_49 c_50 c_51 c_52 c_53 c_54 c_55 c_56 c_57 c_58 c_59
    have gq3 : Ext wc (wc.drewN nq) := below_drewN (Below.refl _ _) nq
    generalize wc.drewN nq = Wq3 at gq3 ⊢
    have hz_Wq3 := gq3.size
    replace HE := hid (HE.out.trans gq3)
    replace HB_M := hid (HB_M.out.ext gq3)
    replace HB_W := hid (HB_W.out.ext gq3)
    replace HB_Z := hid (HB_Z.out.ext gq3)
    replace HB_F := hid (HB_F.out.ext gq3)
    replace HB_X := hid (HB_X.out.ext gq3)
    obtain ⟨c_60, c_61, c_62, c_63⟩ := HB_M.out.c4
    obtain ⟨c_64, c_65⟩ := HB_W.out.c2
    obtain ⟨c_66, c_67, c_68, c_69, c_70⟩ := HB_Z.out.c5
    obtain ⟨c_71, c_72⟩ := HB_F.out.c2
    obtain ⟨c_73, c_74, c_75, c_76, c_77⟩ := HB_X.out.c5
    obtain ⟨f_78, f_79, f_80, f_81, f_82⟩ := HB_X.out.f5
    obtain ⟨f_83, f_84, f_85, f_86, f_87⟩ := HB_Z.out.f5
    go_wp2_with fail
    clear c_60 c_61 c_62 c_63 c_64 c_65 c_66 c_67 c_68 c_69 c_70 c_71 c_72 c_73 c_74 c_75 c_76 c_77 f_78 f_79 f_80 f_81 f_82 f_83 f_84 f_85 f_86 f_87
    obtain ⟨W4, hW4, g4, q4, B4, hy4, ho4⟩ := sto1 HE.out (by omega) HB_X.out (by decide) 0 (.int .i64 1)
    rw [← hW4]
    clear hW4
    replace HE := hid g4
    replace B4 : Box W4 gX #[.int .i64 1, .bool s, .bool false, .slice none 0 0, .slice none 0 0] 112 := B4
    replace HB_M := hid (ho4 _ _ _ (by omega) HB_M.out)
    replace HB_W := hid (ho4 _ _ _ (by omega) HB_W.out)
    replace HB_Z := hid (ho4 _ _ _ (by omega) HB_Z.out)
    replace HB_F := hid (ho4 _ _ _ (by omega) HB_F.out)
    replace HB_X := hid B4
    obtain ⟨W5, hW5, g5, q5, B5, hy5, ho5⟩ := sto5 HE.out (by omega) HB_Z.out (by decide) (.int .i64 1) (.bool s) (.bool false) (.slice none 0 0) (.slice none 0 0)
    rw [← hW5]
    clear hW5
    replace HE := hid g5
    replace HB_M := hid (ho5 _ _ _ (by omega) HB_M.out)
    replace HB_W := hid (ho5 _ _ _ (by omega) HB_W.out)
    replace HB_F := hid (ho5 _ _ _ (by omega) HB_F.out)
    replace HB_X := hid (ho5 _ _ _ (by omega) HB_X.out)
    replace HB_Z := hid B5
    unfold LookPost
    rw [HK.out, HV.out]
    obtain ⟨c_88, c_89, c_90, c_91, c_92⟩ := HB_Z.out.c5
    refine bodyPost_ret (v := .agg #[.int .i64 1, .bool s, .bool false, .slice none 0 0, .slice none 0 0]) (by simp [results, Tryz.results69, go_sem, c_88, c_89, c_90, c_91, c_92]) rfl ⟨_, rfl, ⟨_, _, _, _, _, _, _, rfl, NumV.zero _⟩, HE.out⟩
   ·have HK : Hid (wkind E P n = 2) := hid (by unfold wkind; rw [if_neg Hfe.out, if_neg (by rw [← HF'.out, ← HR.out]; exact hz)])
    obtain ⟨V1, hv1⟩ : ∃ V1 : Rat, V1 = ((wfr E P n : Nat) : Rat) * (2 : Rat) ^ (2 - (b : Int) - P + ((max f 1 - 1 : Nat) : Int)) := ⟨_, rfl⟩
    have HV1 := hid hv1
    have HVp : Hid (wvalK E P b n = (if s = true then -1 else 1) * V1) := hid (by unfold wvalK; rw [HK.out]; simp only [if_true]; unfold wval; rw [← HF'.out, ← HS.out, hv1])
    have hfr : wfr E P n < 2 ^ P := by
     have h1 := HRL.out; have h2 := HP.out
     have h3 : 2 ^ P = 2 ^ (P - 1) * 2 := by rw [← Nat.pow_succ]; congr 1; omega
     unfold wfr; rw [← HR.out]; split <;> omega
    have SF : Hid (SmQ 128 ((wfr E P n : Nat) : Rat)) := hid (SmQ.nat (by decide) (by
     have h2 := HP.out
     have h3 : 2 ^ P ≤ 2 ^ 113 := Nat.pow_le_pow_right (by decide) h2.2
     have h4 : (2 : Nat) ^ 113 < 2 ^ 128 := by decide
     omega))
    have HWF : Hid (W128 (wfr E P n)) := hid (by
     have h2 := HP.out
     have h3 : 2 ^ P ≤ 2 ^ 113 := Nat.pow_le_pow_right (by decide) h2.2
     have h4 : (2 : Nat) ^ 113 < 2 ^ 128 := by decide
     show _ < 2 ^ 128; omega)
    have cL : Hid (∀ w, _) := hid fun w => least_c E P m b w (hid (by have := HP.out; omega)) (hid (by have := HB.out; omega))
    clear hv1 hfr
    by_cases hf0 : f = 0
    ·subst hf0
     have hq3' : ((0 : Int) == (2 : Int) ^ E - 1) = false := hq3
     have HKV : Hid (((wfr E P n : Nat) : Rat) * (2 : Rat) ^ (2 - (b : Int) - P) = V1) := hid (by rw [HV1.out]; congr 2; omega)
     have e1 : IntKind.i64.wrap (max (0 : Int) 1 - 1) = 0 := by decide
     have e2 : IntKind.i64.wrap (0 + (2 - (b : Int) - P)) = 2 - (b : Int) - P := IntWalk.i64_in _ (by have := HP.out; have := HB.out; omega) |>.trans (Int.zero_add _)
     have e3 : IntKind.i64.wrap (2 - (b : Int) - P) = 2 - (b : Int) - P := IntWalk.i64_in _ (by have := HP.out; have := HB.out; omega)
     have EW : Hid (Word (wfr E P n) = .agg #[.int .u64 r0, .int .u64 r1]) := hid (by unfold wfr; rw [if_pos HF'.out.symm, ← HR.out]; exact Er.out)
     clear hq3
     rcases HRC.out with ⟨hr, _, _⟩ | ⟨hr, hne⟩ | ⟨hr, rfl, hne⟩
     ·exact absurd ⟨rfl, hr⟩ hz
     ·clear hr hz
      obtain ⟨c_24, c_25, c_26, c_27⟩ := HB_M.out.c4
      obtain ⟨c_28, c_29⟩ := HB_W.out.c2
      obtain ⟨c_30, c_31, c_32, c_33, c_34⟩ := HB_Z.out.c5
      obtain ⟨c_35, c_36⟩ := HB_F.out.c2
      obtain ⟨c_37, c_38, c_39, c_40, c_41⟩ := HB_X.out.c5
      go_wp2_with fail
      clear c_24 c_25 c_26 c_27 c_28 c_29 c_30 c_31 c_32 c_33 c_34 c_35 c_36 c_37 c_38 c_39 c_40 c_41
      obtain ⟨c_42, c_43, c_44, c_45⟩ := HB_M.out.c4
      obtain ⟨c_46, c_47⟩ := HB_W.out.c2
      obtain ⟨c_48, c_49, c_50, c_51, c_52⟩ := HB_Z.out.c5
      obtain ⟨c_53, c_54⟩ := HB_F.out.c2
      obtain ⟨c_55, c_56, c_57, c_58, c_59⟩ := HB_X.out.c5
      go_quiet (fail)
      clear c_42 c_43 c_44 c_45 c_46 c_47 c_48 c_49 c_50 c_51 c_52 c_53 c_54 c_55 c_56 c_57 c_58 c_59
      have gq3 : Ext wc (wc.drewN nq) := below_drewN (Below.refl _ _) nq
      generalize wc.drewN nq = Wq3 at gq3 ⊢
      have hz_Wq3 := gq3.size
      replace HE := hid (HE.out.trans gq3)
      replace HB_M := hid (HB_M.out.ext gq3)
      replace HB_W := hid (HB_W.out.ext gq3)
      replace HB_Z := hid (HB_Z.out.ext gq3)
      replace HB_F := hid (HB_F.out.ext gq3)
      replace HB_X := hid (HB_X.out.ext gq3)
      have CW : Hid (∀ w, Calls Tryz.prog 138 #[.agg #[.int .u64 r0, .int .u64 r1]] w fun e w' => ∃ v, e = .returned v ∧ NumV w' v ((wfr E P n : Nat) : Rat) ∧ Ext w w') := hid fun w => by
       have h := fwhole_c (wfr E P n) w HWF.out
       rw [EW.out] at h; exact h
      obtain ⟨c_60, c_61, c_62, c_63⟩ := HB_M.out.c4
      obtain ⟨c_64, c_65⟩ := HB_W.out.c2
      obtain ⟨c_66, c_67, c_68, c_69, c_70⟩ := HB_Z.out.c5
      obtain ⟨c_71, c_72⟩ := HB_F.out.c2
      obtain ⟨c_73, c_74, c_75, c_76, c_77⟩ := HB_X.out.c5
      go_wp2_with fail
      clear c_60 c_61 c_62 c_63 c_64 c_65 c_66 c_67 c_68 c_69 c_70 c_71 c_72 c_73 c_74 c_75 c_76 c_77
      clear hq1 hq2 hq3'
      go_cut [] (fun wx => ∃ (yg : Bool) (ya : Option Addr) (yn yc : Nat) (ya' : Option Addr) (yn' yc' : Nat), Hid (Ext w wx) ∧ Hid (Box wx (w.heap.size) #[.int .i64 E, .int .i64 P, .int .i64 m, .int .i64 b] 81) ∧ Hid (Box wx (w.heap.size + 1 + 1) #[.int .i64 0, .bool false, .bool false, .slice none 0 0, .slice none 0 0] 112) ∧ Hid (Box wx (w1.heap.size) #[.int .u64 r0, .int .u64 r1] 29) ∧ Hid (Box wx (gX) #[.int .i64 2, .bool s, .bool yg, .slice ya yn yc, .slice ya' yn' yc'] 112) ∧ NumV wx (.agg #[.bool yg, .slice ya yn yc, .slice ya' yn' yc']) V1 ∧ Wq3.heap.size ≤ wx.heap.size)
      case first =>
       have HS : Hid (∀ w', Ext Wq3 w' → w'.cell? ⟨w.heap.size, 0, none⟩ = some (.int .i64 E) ∧ w'.cell? ⟨w.heap.size, 1, none⟩ = some (.int .i64 P) ∧ w'.cell? ⟨w.heap.size, 2, none⟩ = some (.int .i64 m) ∧ w'.cell? ⟨w.heap.size, 3, none⟩ = some (.int .i64 b) ∧ w'.cell? ⟨w1.heap.size, 0, none⟩ = some (.int .u64 r0) ∧ w'.cell? ⟨w1.heap.size, 1, none⟩ = some (.int .u64 r1)) := hid fun w' h => ⟨(HB_M.out.ext h).cell 0, (HB_M.out.ext h).cell 1, (HB_M.out.ext h).cell 2, (HB_M.out.ext h).cell 3, (HB_F.out.ext h).cell 0, (HB_F.out.ext h).cell 1⟩
       have hne_M : w.heap.size ≠ gX := by omega
       have hne_F : w1.heap.size ≠ gX := by omega
       have HSZ : Hid (∀ (v0 v1 v2 : Value) (w' : World), Ext Wq3 w' → (((w'.setCell ⟨gX, 2, none⟩ v0).setCell ⟨gX, 3, none⟩ v1).setCell ⟨gX, 4, none⟩ v2).cell? ⟨w.heap.size, 0, none⟩ = some (.int .i64 E) ∧ (((w'.setCell ⟨gX, 2, none⟩ v0).setCell ⟨gX, 3, none⟩ v1).setCell ⟨gX, 4, none⟩ v2).cell? ⟨w.heap.size, 1, none⟩ = some (.int .i64 P) ∧ (((w'.setCell ⟨gX, 2, none⟩ v0).setCell ⟨gX, 3, none⟩ v1).setCell ⟨gX, 4, none⟩ v2).cell? ⟨w.heap.size, 2, none⟩ = some (.int .i64 m) ∧ (((w'.setCell ⟨gX, 2, none⟩ v0).setCell ⟨gX, 3, none⟩ v1).setCell ⟨gX, 4, none⟩ v2).cell? ⟨w.heap.size, 3, none⟩ = some (.int .i64 b) ∧ (((w'.setCell ⟨gX, 2, none⟩ v0).setCell ⟨gX, 3, none⟩ v1).setCell ⟨gX, 4, none⟩ v2).cell? ⟨w1.heap.size, 0, none⟩ = some (.int .u64 r0) ∧ (((w'.setCell ⟨gX, 2, none⟩ v0).setCell ⟨gX, 3, none⟩ v1).setCell ⟨gX, 4, none⟩ v2).cell? ⟨w1.heap.size, 1, none⟩ = some (.int .u64 r1)) := hid fun v0 v1 v2 w' h => ⟨(cell_other hne_M (cell_other hne_M (cell_other hne_M ((HB_M.out.ext h).cell 0)))), (cell_other hne_M (cell_other hne_M (cell_other hne_M ((HB_M.out.ext h).cell 1)))), (cell_other hne_M (cell_other hne_M (cell_other hne_M ((HB_M.out.ext h).cell 2)))), (cell_other hne_M (cell_other hne_M (cell_other hne_M ((HB_M.out.ext h).cell 3)))), (cell_other hne_F (cell_other hne_F (cell_other hne_F ((HB_F.out.ext h).cell 0)))), (cell_other hne_F (cell_other hne_F (cell_other hne_F ((HB_F.out.ext h).cell 1))))⟩
       clear hne_M hne_F
       have hb0 : Ext Wq3 Wq3.drew := Below.drew (Below.refl _ Wq3)
       go_region_held3 (fun w' => w'.cell? ⟨w.heap.size, 0, none⟩ = some (.int .i64 E) ∧ w'.cell? ⟨w.heap.size, 1, none⟩ = some (.int .i64 P) ∧ w'.cell? ⟨w.heap.size, 2, none⟩ = some (.int .i64 m) ∧ w'.cell? ⟨w.heap.size, 3, none⟩ = some (.int .i64 b) ∧ w'.cell? ⟨w1.heap.size, 0, none⟩ = some (.int .u64 r0) ∧ w'.cell? ⟨w1.heap.size, 1, none⟩ = some (.int .u64 r1))
         (first | exact HS.out _ (by assumption) | exact HSZ.out _ _ _ _ (by assumption))
        (first
         | (go_at_call 138; (with_reducible refine (CW.out _).mono ?_); rintro e x78_1 ⟨v1, rfl, k1, g1⟩; have hb1 : Ext Wq3 x78_1 := hb0.trans g1)
         | (go_at_call 139; (with_reducible refine (cL.out _).mono ?_); rintro e x78_2 ⟨rfl, g2⟩; have hb2 : Ext Wq3 x78_2 := hb1.trans g2)
         | (go_at_call 71; (with_reducible refine (shift_c _ _ 128 (2 - (b : Int) - P) _ (k1.ext g2) SF.out (by have := HP.out; have := HB.out; omega) (by have := HP.out; have := HB.out; omega) (by decide)).mono ?_); rintro e x78_3 ⟨v3, rfl, k3, g3⟩; have hb3 : Ext Wq3 x78_3 := hb2.trans g3; rw [HKV.out] at k3; obtain ⟨ng3, a3, n3, c3, a3', n3', c3', rfl⟩ := k3.shape; obtain ⟨zc0, zc1, zc2, zc3, zc4⟩ := (HB_X.out.ext hb3).c5; obtain ⟨zf0, zf1, zf2, zf3, zf4⟩ := (HB_X.out.ext hb3).f5))
       all_goals
        go_wp2_with fail
        clear e1 e2 e3
        have hz_x78_3 := hb3.size
        replace HE := hid (HE.out.trans hb3)
        replace HB_M := hid (HB_M.out.ext hb3)
        replace HB_W := hid (HB_W.out.ext hb3)
        replace HB_Z := hid (HB_Z.out.ext hb3)
        replace HB_F := hid (HB_F.out.ext hb3)
        replace HB_X := hid (HB_X.out.ext hb3)
        obtain ⟨W4, hW4, g4, q4, B4, hy4, ho4⟩ := sto3at2 HE.out (by omega) HB_X.out (by decide) (.bool ng3) (.slice a3 n3 c3) (.slice a3' n3' c3')
        rw [← hW4]
        clear hW4
        replace HE := hid g4
        replace HB_M := hid (ho4 _ _ _ (by omega) HB_M.out)
        replace HB_W := hid (ho4 _ _ _ (by omega) HB_W.out)
        replace HB_Z := hid (ho4 _ _ _ (by omega) HB_Z.out)
        replace HB_F := hid (ho4 _ _ _ (by omega) HB_F.out)
        replace HB_X := hid B4
        replace k3 := k3.keep q4
        go_meet
        exact ⟨ng3, a3, n3, c3, a3', n3', c3', HE, HB_M, HB_Z, HB_F, HB_X, k3, by omega⟩
      case rest =>
       obtain ⟨ng3, a3, n3, c3, a3', n3', c3', HE, HB_M, HB_Z, HB_F, HB_X, k3, hzd⟩ := hcut
       clear e1 e2 e3
       cases s
       ·have HV : Hid (wvalK E P b n = V1) := hid (by rw [HVp.out, if_neg (by decide), Rat.one_mul])
        obtain ⟨c_78, c_79, c_80, c_81⟩ := HB_M.out.c4
        obtain ⟨c_82, c_83, c_84, c_85, c_86⟩ := HB_Z.out.c5
        obtain ⟨c_87, c_88⟩ := HB_F.out.c2
        obtain ⟨c_89, c_90, c_91, c_92, c_93⟩ := HB_X.out.c5
        obtain ⟨f_94, f_95, f_96, f_97, f_98⟩ := HB_X.out.f5
        obtain ⟨f_99, f_100, f_101, f_102, f_103⟩ := HB_Z.out.f5
        go_wp2_with fail
        clear c_78 c_79 c_80 c_81 c_82 c_83 c_84 c_85 c_86 c_87 c_88 c_89 c_90 c_91 c_92 c_93 f_94 f_95 f_96 f_97 f_98 f_99 f_100 f_101 f_102 f_103
        obtain ⟨W4, hW4, g4, q4, B4, hy4, ho4⟩ := sto5 HE.out (by omega) HB_Z.out (by decide) (.int .i64 2) (.bool false) (.bool ng3) (.slice a3 n3 c3) (.slice a3' n3' c3')
        rw [← hW4]
        clear hW4
        replace HE := hid g4
        replace HB_M := hid (ho4 _ _ _ (by omega) HB_M.out)
        replace HB_F := hid (ho4 _ _ _ (by omega) HB_F.out)
        replace HB_X := hid (ho4 _ _ _ (by omega) HB_X.out)
        replace HB_Z := hid B4
        replace k3 := k3.keep q4
        unfold LookPost
        rw [HK.out, HV.out]
        obtain ⟨c_104, c_105, c_106, c_107, c_108⟩ := HB_Z.out.c5
        refine bodyPost_ret (v := .agg #[.int .i64 2, .bool false, .bool ng3, .slice a3 n3 c3, .slice a3' n3' c3']) (by simp [results, Tryz.results69, go_sem, c_104, c_105, c_106, c_107, c_108]) rfl ⟨_, rfl, ⟨_, _, _, _, _, _, _, rfl, k3⟩, HE.out⟩
       ·have HV : Hid (wvalK E P b n = -V1) := hid (by rw [HVp.out, if_pos rfl, Rat.neg_mul, Rat.one_mul])
        obtain ⟨c_78, c_79, c_80, c_81⟩ := HB_M.out.c4
        obtain ⟨c_82, c_83, c_84, c_85, c_86⟩ := HB_Z.out.c5
        obtain ⟨c_87, c_88⟩ := HB_F.out.c2
        obtain ⟨c_89, c_90, c_91, c_92, c_93⟩ := HB_X.out.c5
        go_wp2_with fail
        clear c_78 c_79 c_80 c_81 c_82 c_83 c_84 c_85 c_86 c_87 c_88 c_89 c_90 c_91 c_92 c_93
        refine (neg_c _ V1 _ k3).mono ?_
        rintro e w4 ⟨v4, rfl, k4, g4⟩
        have hz_w4 := g4.size
        replace HE := hid (HE.out.trans g4)
        replace HB_M := hid (HB_M.out.ext g4)
        replace HB_Z := hid (HB_Z.out.ext g4)
        replace HB_F := hid (HB_F.out.ext g4)
        replace HB_X := hid (HB_X.out.ext g4)
        replace k3 := k3.ext g4
        obtain ⟨ng4, a4, n4, c4, a4', n4', c4', rfl⟩ := k4.shape
        obtain ⟨c_94, c_95, c_96, c_97⟩ := HB_M.out.c4
        obtain ⟨c_98, c_99, c_100, c_101, c_102⟩ := HB_Z.out.c5
        obtain ⟨c_103, c_104⟩ := HB_F.out.c2
        obtain ⟨c_105, c_106, c_107, c_108, c_109⟩ := HB_X.out.c5
        obtain ⟨f_110, f_111, f_112, f_113, f_114⟩ := HB_X.out.f5
        obtain ⟨f_115, f_116, f_117, f_118, f_119⟩ := HB_Z.out.f5
        go_wp2_with fail
        clear c_94 c_95 c_96 c_97 c_98 c_99 c_100 c_101 c_102 c_103 c_104 c_105 c_106 c_107 c_108 c_109 f_110 f_111 f_112 f_113 f_114 f_115 f_116 f_117 f_118 f_119
        obtain ⟨W5, hW5, g5, q5, B5, hy5, ho5⟩ := sto3at2 HE.out (by omega) HB_X.out (by decide) (.bool ng4) (.slice a4 n4 c4) (.slice a4' n4' c4')
        rw [← hW5]
        clear hW5
        replace HE := hid g5
        replace HB_M := hid (ho5 _ _ _ (by omega) HB_M.out)
        replace HB_Z := hid (ho5 _ _ _ (by omega) HB_Z.out)
        replace HB_F := hid (ho5 _ _ _ (by omega) HB_F.out)
        replace HB_X := hid B5
        replace k3 := k3.keep q5
        replace k4 := k4.keep q5
        obtain ⟨W6, hW6, g6, q6, B6, hy6, ho6⟩ := sto5 HE.out (by omega) HB_Z.out (by decide) (.int .i64 2) (.bool true) (.bool ng4) (.slice a4 n4 c4) (.slice a4' n4' c4')
        rw [← hW6]
        clear hW6
        replace HE := hid g6
        replace HB_M := hid (ho6 _ _ _ (by omega) HB_M.out)
        replace HB_F := hid (ho6 _ _ _ (by omega) HB_F.out)
        replace HB_X := hid (ho6 _ _ _ (by omega) HB_X.out)
        replace HB_Z := hid B6
        replace k3 := k3.keep q6
        replace k4 := k4.keep q6
        unfold LookPost
        rw [HK.out, HV.out]
        obtain ⟨c_120, c_121, c_122, c_123, c_124⟩ := HB_Z.out.c5
        refine bodyPost_ret (v := .agg #[.int .i64 2, .bool true, .bool ng4, .slice a4 n4 c4, .slice a4' n4' c4']) (by simp [results, Tryz.results69, go_sem, c_120, c_121, c_122, c_123, c_124]) rfl ⟨_, rfl, ⟨_, _, _, _, _, _, _, rfl, k4⟩, HE.out⟩
     ·have HB_F2 : Hid (Box wc w1.heap.size #[.int .u64 0, .int .u64 r1] 29) := hid HB_F.out
      replace HB_F := HB_F2
      clear HB_F2
      have EW2 : Hid (Word (wfr E P n) = .agg #[.int .u64 0, .int .u64 r1]) := hid EW.out
      replace EW := EW2
      clear EW2
      clear hr hz
      obtain ⟨c_24, c_25, c_26, c_27⟩ := HB_M.out.c4
      obtain ⟨c_28, c_29⟩ := HB_W.out.c2
      obtain ⟨c_30, c_31, c_32, c_33, c_34⟩ := HB_Z.out.c5
      obtain ⟨c_35, c_36⟩ := HB_F.out.c2
      obtain ⟨c_37, c_38, c_39, c_40, c_41⟩ := HB_X.out.c5
      go_wp2_with fail
      clear c_24 c_25 c_26 c_27 c_28 c_29 c_30 c_31 c_32 c_33 c_34 c_35 c_36 c_37 c_38 c_39 c_40 c_41
      obtain ⟨c_42, c_43, c_44, c_45⟩ := HB_M.out.c4
      obtain ⟨c_46, c_47⟩ := HB_W.out.c2
      obtain ⟨c_48, c_49, c_50, c_51, c_52⟩ := HB_Z.out.c5
      obtain ⟨c_53, c_54⟩ := HB_F.out.c2
      obtain ⟨c_55, c_56, c_57, c_58, c_59⟩ := HB_X.out.c5
      go_quiet (fail)
      clear c_42 c_43 c_44 c_45 c_46 c_47 c_48 c_49 c_50 c_51 c_52 c_53 c_54 c_55 c_56 c_57 c_58 c_59
      have gq3 : Ext wc (wc.drewN nq) := below_drewN (Below.refl _ _) nq
      generalize wc.drewN nq = Wq3 at gq3 ⊢
      have hz_Wq3 := gq3.size
      replace HE := hid (HE.out.trans gq3)
      replace HB_M := hid (HB_M.out.ext gq3)
      replace HB_W := hid (HB_W.out.ext gq3)
      replace HB_Z := hid (HB_Z.out.ext gq3)
      replace HB_F := hid (HB_F.out.ext gq3)
      replace HB_X := hid (HB_X.out.ext gq3)
      have CW : Hid (∀ w, Calls Tryz.prog 138 #[.agg #[.int .u64 0, .int .u64 r1]] w fun e w' => ∃ v, e = .returned v ∧ NumV w' v ((wfr E P n : Nat) : Rat) ∧ Ext w w') := hid fun w => by
       have h := fwhole_c (wfr E P n) w HWF.out
       rw [EW.out] at h; exact h
      obtain ⟨c_60, c_61, c_62, c_63⟩ := HB_M.out.c4
      obtain ⟨c_64, c_65⟩ := HB_W.out.c2
      obtain ⟨c_66, c_67, c_68, c_69, c_70⟩ := HB_Z.out.c5
      obtain ⟨c_71, c_72⟩ := HB_F.out.c2
      obtain ⟨c_73, c_74, c_75, c_76, c_77⟩ := HB_X.out.c5
      go_wp2_with fail
      clear c_60 c_61 c_62 c_63 c_64 c_65 c_66 c_67 c_68 c_69 c_70 c_71 c_72 c_73 c_74 c_75 c_76 c_77
      clear hq1 hq2 hq3'
      go_cut [] (fun wx => ∃ (yg : Bool) (ya : Option Addr) (yn yc : Nat) (ya' : Option Addr) (yn' yc' : Nat), Hid (Ext w wx) ∧ Hid (Box wx (w.heap.size) #[.int .i64 E, .int .i64 P, .int .i64 m, .int .i64 b] 81) ∧ Hid (Box wx (w.heap.size + 1 + 1) #[.int .i64 0, .bool false, .bool false, .slice none 0 0, .slice none 0 0] 112) ∧ Hid (Box wx (w1.heap.size) #[.int .u64 0, .int .u64 r1] 29) ∧ Hid (Box wx (gX) #[.int .i64 2, .bool s, .bool yg, .slice ya yn yc, .slice ya' yn' yc'] 112) ∧ NumV wx (.agg #[.bool yg, .slice ya yn yc, .slice ya' yn' yc']) V1 ∧ Wq3.heap.size ≤ wx.heap.size)
      case first =>
       have HS : Hid (∀ w', Ext Wq3 w' → w'.cell? ⟨w.heap.size, 0, none⟩ = some (.int .i64 E) ∧ w'.cell? ⟨w.heap.size, 1, none⟩ = some (.int .i64 P) ∧ w'.cell? ⟨w.heap.size, 2, none⟩ = some (.int .i64 m) ∧ w'.cell? ⟨w.heap.size, 3, none⟩ = some (.int .i64 b) ∧ w'.cell? ⟨w1.heap.size, 0, none⟩ = some (.int .u64 0) ∧ w'.cell? ⟨w1.heap.size, 1, none⟩ = some (.int .u64 r1)) := hid fun w' h => ⟨(HB_M.out.ext h).cell 0, (HB_M.out.ext h).cell 1, (HB_M.out.ext h).cell 2, (HB_M.out.ext h).cell 3, (HB_F.out.ext h).cell 0, (HB_F.out.ext h).cell 1⟩
       have hne_M : w.heap.size ≠ gX := by omega
       have hne_F : w1.heap.size ≠ gX := by omega
       have HSZ : Hid (∀ (v0 v1 v2 : Value) (w' : World), Ext Wq3 w' → (((w'.setCell ⟨gX, 2, none⟩ v0).setCell ⟨gX, 3, none⟩ v1).setCell ⟨gX, 4, none⟩ v2).cell? ⟨w.heap.size, 0, none⟩ = some (.int .i64 E) ∧ (((w'.setCell ⟨gX, 2, none⟩ v0).setCell ⟨gX, 3, none⟩ v1).setCell ⟨gX, 4, none⟩ v2).cell? ⟨w.heap.size, 1, none⟩ = some (.int .i64 P) ∧ (((w'.setCell ⟨gX, 2, none⟩ v0).setCell ⟨gX, 3, none⟩ v1).setCell ⟨gX, 4, none⟩ v2).cell? ⟨w.heap.size, 2, none⟩ = some (.int .i64 m) ∧ (((w'.setCell ⟨gX, 2, none⟩ v0).setCell ⟨gX, 3, none⟩ v1).setCell ⟨gX, 4, none⟩ v2).cell? ⟨w.heap.size, 3, none⟩ = some (.int .i64 b) ∧ (((w'.setCell ⟨gX, 2, none⟩ v0).setCell ⟨gX, 3, none⟩ v1).setCell ⟨gX, 4, none⟩ v2).cell? ⟨w1.heap.size, 0, none⟩ = some (.int .u64 0) ∧ (((w'.setCell ⟨gX, 2, none⟩ v0).setCell ⟨gX, 3, none⟩ v1).setCell ⟨gX, 4, none⟩ v2).cell? ⟨w1.heap.size, 1, none⟩ = some (.int .u64 r1)) := hid fun v0 v1 v2 w' h => ⟨(cell_other hne_M (cell_other hne_M (cell_other hne_M ((HB_M.out.ext h).cell 0)))), (cell_other hne_M (cell_other hne_M (cell_other hne_M ((HB_M.out.ext h).cell 1)))), (cell_other hne_M (cell_other hne_M (cell_other hne_M ((HB_M.out.ext h).cell 2)))), (cell_other hne_M (cell_other hne_M (cell_other hne_M ((HB_M.out.ext h).cell 3)))), (cell_other hne_F (cell_other hne_F (cell_other hne_F ((HB_F.out.ext h).cell 0)))), (cell_other hne_F (cell_other hne_F (cell_other hne_F ((HB_F.out.ext h).cell 1))))⟩
       clear hne_M hne_F
       have hb0 : Ext Wq3 Wq3.drew := Below.drew (Below.refl _ Wq3)
       go_region_held3 (fun w' => w'.cell? ⟨w.heap.size, 0, none⟩ = some (.int .i64 E) ∧ w'.cell? ⟨w.heap.size, 1, none⟩ = some (.int .i64 P) ∧ w'.cell? ⟨w.heap.size, 2, none⟩ = some (.int .i64 m) ∧ w'.cell? ⟨w.heap.size, 3, none⟩ = some (.int .i64 b) ∧ w'.cell? ⟨w1.heap.size, 0, none⟩ = some (.int .u64 0) ∧ w'.cell? ⟨w1.heap.size, 1, none⟩ = some (.int .u64 r1))
         (first | exact HS.out _ (by assumption) | exact HSZ.out _ _ _ _ (by assumption))
        (first
         | (go_at_call 138; (with_reducible refine (CW.out _).mono ?_); rintro e x78_1 ⟨v1, rfl, k1, g1⟩; have hb1 : Ext Wq3 x78_1 := hb0.trans g1)
         | (go_at_call 139; (with_reducible refine (cL.out _).mono ?_); rintro e x78_2 ⟨rfl, g2⟩; have hb2 : Ext Wq3 x78_2 := hb1.trans g2)
         | (go_at_call 71; (with_reducible refine (shift_c _ _ 128 (2 - (b : Int) - P) _ (k1.ext g2) SF.out (by have := HP.out; have := HB.out; omega) (by have := HP.out; have := HB.out; omega) (by decide)).mono ?_); rintro e x78_3 ⟨v3, rfl, k3, g3⟩; have hb3 : Ext Wq3 x78_3 := hb2.trans g3; rw [HKV.out] at k3; obtain ⟨ng3, a3, n3, c3, a3', n3', c3', rfl⟩ := k3.shape; obtain ⟨zc0, zc1, zc2, zc3, zc4⟩ := (HB_X.out.ext hb3).c5; obtain ⟨zf0, zf1, zf2, zf3, zf4⟩ := (HB_X.out.ext hb3).f5))
       all_goals
        go_wp2_with fail
        clear e1 e2 e3
        have hz_x78_3 := hb3.size
        replace HE := hid (HE.out.trans hb3)
        replace HB_M := hid (HB_M.out.ext hb3)
        replace HB_W := hid (HB_W.out.ext hb3)
        replace HB_Z := hid (HB_Z.out.ext hb3)
        replace HB_F := hid (HB_F.out.ext hb3)
        replace HB_X := hid (HB_X.out.ext hb3)
        obtain ⟨W4, hW4, g4, q4, B4, hy4, ho4⟩ := sto3at2 HE.out (by omega) HB_X.out (by decide) (.bool ng3) (.slice a3 n3 c3) (.slice a3' n3' c3')
        rw [← hW4]
        clear hW4
        replace HE := hid g4
        replace HB_M := hid (ho4 _ _ _ (by omega) HB_M.out)
        replace HB_W := hid (ho4 _ _ _ (by omega) HB_W.out)
        replace HB_Z := hid (ho4 _ _ _ (by omega) HB_Z.out)
        replace HB_F := hid (ho4 _ _ _ (by omega) HB_F.out)
        replace HB_X := hid B4
        replace k3 := k3.keep q4
        go_meet
        exact ⟨ng3, a3, n3, c3, a3', n3', c3', HE, HB_M, HB_Z, HB_F, HB_X, k3, by omega⟩
      case rest =>
       obtain ⟨ng3, a3, n3, c3, a3', n3', c3', HE, HB_M, HB_Z, HB_F, HB_X, k3, hzd⟩ := hcut
       clear e1 e2 e3
       cases s
       ·have HV : Hid (wvalK E P b n = V1) := hid (by rw [HVp.out, if_neg (by decide), Rat.one_mul])
        obtain ⟨c_78, c_79, c_80, c_81⟩ := HB_M.out.c4
        obtain ⟨c_82, c_83, c_84, c_85, c_86⟩ := HB_Z.out.c5
        obtain ⟨c_87, c_88⟩ := HB_F.out.c2
        obtain ⟨c_89, c_90, c_91, c_92, c_93⟩ := HB_X.out.c5
        obtain ⟨f_94, f_95, f_96, f_97, f_98⟩ := HB_X.out.f5
        obtain ⟨f_99, f_100, f_101, f_102, f_103⟩ := HB_Z.out.f5
        go_wp2_with fail
        clear c_78 c_79 c_80 c_81 c_82 c_83 c_84 c_85 c_86 c_87 c_88 c_89 c_90 c_91 c_92 c_93 f_94 f_95 f_96 f_97 f_98 f_99 f_100 f_101 f_102 f_103
        obtain ⟨W4, hW4, g4, q4, B4, hy4, ho4⟩ := sto5 HE.out (by omega) HB_Z.out (by decide) (.int .i64 2) (.bool false) (.bool ng3) (.slice a3 n3 c3) (.slice a3' n3' c3')
        rw [← hW4]
        clear hW4
        replace HE := hid g4
        replace HB_M := hid (ho4 _ _ _ (by omega) HB_M.out)
        replace HB_F := hid (ho4 _ _ _ (by omega) HB_F.out)
        replace HB_X := hid (ho4 _ _ _ (by omega) HB_X.out)
        replace HB_Z := hid B4
        replace k3 := k3.keep q4
        unfold LookPost
        rw [HK.out, HV.out]
        obtain ⟨c_104, c_105, c_106, c_107, c_108⟩ := HB_Z.out.c5
        refine bodyPost_ret (v := .agg #[.int .i64 2, .bool false, .bool ng3, .slice a3 n3 c3, .slice a3' n3' c3']) (by simp [results, Tryz.results69, go_sem, c_104, c_105, c_106, c_107, c_108]) rfl ⟨_, rfl, ⟨_, _, _, _, _, _, _, rfl, k3⟩, HE.out⟩
       ·have HV : Hid (wvalK E P b n = -V1) := hid (by rw [HVp.out, if_pos rfl, Rat.neg_mul, Rat.one_mul])
        obtain ⟨c_78, c_79, c_80, c_81⟩ := HB_M.out.c4
        obtain ⟨c_82, c_83, c_84, c_85, c_86⟩ := HB_Z.out.c5
        obtain ⟨c_87, c_88⟩ := HB_F.out.c2
        obtain ⟨c_89, c_90, c_91, c_92, c_93⟩ := HB_X.out.c5
        go_wp2_with fail
        clear c_78 c_79 c_80 c_81 c_82 c_83 c_84 c_85 c_86 c_87 c_88 c_89 c_90 c_91 c_92 c_93
        refine (neg_c _ V1 _ k3).mono ?_
        rintro e w4 ⟨v4, rfl, k4, g4⟩
        have hz_w4 := g4.size
        replace HE := hid (HE.out.trans g4)
        replace HB_M := hid (HB_M.out.ext g4)
        replace HB_Z := hid (HB_Z.out.ext g4)
        replace HB_F := hid (HB_F.out.ext g4)
        replace HB_X := hid (HB_X.out.ext g4)
        replace k3 := k3.ext g4
        obtain ⟨ng4, a4, n4, c4, a4', n4', c4', rfl⟩ := k4.shape
        obtain ⟨c_94, c_95, c_96, c_97⟩ := HB_M.out.c4
        obtain ⟨c_98, c_99, c_100, c_101, c_102⟩ := HB_Z.out.c5
        obtain ⟨c_103, c_104⟩ := HB_F.out.c2
        obtain ⟨c_105, c_106, c_107, c_108, c_109⟩ := HB_X.out.c5
        obtain ⟨f_110, f_111, f_112, f_113, f_114⟩ := HB_X.out.f5
        obtain ⟨f_115, f_116, f_117, f_118, f_119⟩ := HB_Z.out.f5
        go_wp2_with fail
        clear c_94 c_95 c_96 c_97 c_98 c_99 c_100 c_101 c_102 c_103 c_104 c_105 c_106 c_107 c_108 c_109 f_110 f_111 f_112 f_113 f_114 f_115 f_116 f_117 f_118 f_119
        obtain ⟨W5, hW5, g5, q5, B5, hy5, ho5⟩ := sto3at2 HE.out (by omega) HB_X.out (by decide) (.bool ng4) (.slice a4 n4 c4) (.slice a4' n4' c4')
        rw [← hW5]
        clear hW5
        replace HE := hid g5
        replace HB_M := hid (ho5 _ _ _ (by omega) HB_M.out)
        replace HB_Z := hid (ho5 _ _ _ (by omega) HB_Z.out)
        replace HB_F := hid (ho5 _ _ _ (by omega) HB_F.out)
        replace HB_X := hid B5
        replace k3 := k3.keep q5
        replace k4 := k4.keep q5
        obtain ⟨W6, hW6, g6, q6, B6, hy6, ho6⟩ := sto5 HE.out (by omega) HB_Z.out (by decide) (.int .i64 2) (.bool true) (.bool ng4) (.slice a4 n4 c4) (.slice a4' n4' c4')
        rw [← hW6]
        clear hW6
        replace HE := hid g6
        replace HB_M := hid (ho6 _ _ _ (by omega) HB_M.out)
        replace HB_F := hid (ho6 _ _ _ (by omega) HB_F.out)
        replace HB_X := hid (ho6 _ _ _ (by omega) HB_X.out)
        replace HB_Z := hid B6
        replace k3 := k3.keep q6
        replace k4 := k4.keep q6
        unfold LookPost
        rw [HK.out, HV.out]
        obtain ⟨c_120, c_121, c_122, c_123, c_124⟩ := HB_Z.out.c5
        refine bodyPost_ret (v := .agg #[.int .i64 2, .bool true, .bool ng4, .slice a4 n4 c4, .slice a4' n4' c4']) (by simp [results, Tryz.results69, go_sem, c_120, c_121, c_122, c_123, c_124]) rfl ⟨_, rfl, ⟨_, _, _, _, _, _, _, rfl, k4⟩, HE.out⟩
    ·have hf1 : ((f : Int) == 0) = false := beq_eq_false_iff_ne.2 (by omega)
     have hf3 : decide (0 < (f : Int)) = true := decide_eq_true (by omega)
     have hf4 : decide (0 < f) = true := decide_eq_true (by omega)
     have hf5 : 0 < f := by omega
     have e1 : IntKind.i64.wrap (max (f : Int) 1 - 1) = max (f : Int) 1 - 1 := IntWalk.i64_in _ (by omega)
     have e2 : IntKind.i64.wrap (max (f : Int) 1 - 1 + (2 - (b : Int) - P)) = max (f : Int) 1 - 1 + (2 - (b : Int) - P) := IntWalk.i64_in _ (by have := HP.out; have := HB.out; omega)
     have HKV : Hid (((wfr E P n : Nat) : Rat) * (2 : Rat) ^ (max (f : Int) 1 - 1 + (2 - (b : Int) - P)) = V1) := hid (by rw [HV1.out]; congr 2; omega)
     have hwr : wfr E P n = r ||| 2 ^ (P - 1) := by
      have h := or_add (b := 1) HRL.out
      rw [Nat.mul_one] at h
      unfold wfr; rw [if_neg (by rw [← HF'.out]; exact hf0), ← HR.out, h]
     obtain ⟨p0, p1, ew⟩ := Word.shape (wfr E P n)
     obtain ⟨t0, t1, et⟩ := Word.shape (2 ^ (P - 1))
     have hpp : 2 ^ (P - 1) < 2 ^ 128 := Nat.pow_lt_pow_right (by decide) (by have := HP.out; omega)
     have CS : Hid (∀ w, Calls Tryz.prog 114 #[.agg #[.int .u64 0, .int .u64 1], .int .i64 ((P : Int) - 1)] w fun e w' => e = .returned (.agg #[.int .u64 t0, .int .u64 t1]) ∧ Ext w w') := hid fun w => by
      have h := shl_w 1 (P - 1) w (by decide) (by have := HP.out; omega)
      rw [Nat.one_mul, Nat.mod_eq_of_lt hpp, et, show ((P - 1 : Nat) : Int) = (P : Int) - 1 by have := HP.out; omega] at h
      exact h
     have CB : Hid (∀ w, Calls Tryz.prog 48 #[.agg #[.int .u64 r0, .int .u64 r1], .agg #[.int .u64 t0, .int .u64 t1]] w fun e w' => e = .returned (.agg #[.int .u64 p0, .int .u64 p1]) ∧ Ext w w') := hid fun w => by
      have h := both_w r (2 ^ (P - 1)) w HRW.out hpp
      rw [Er.out, et, ← hwr, ew] at h; exact h
     have EW := hid ew
     clear ew et hpp hwr hz hf0
     obtain ⟨c_24, c_25, c_26, c_27⟩ := HB_M.out.c4
     obtain ⟨c_28, c_29⟩ := HB_W.out.c2
     obtain ⟨c_30, c_31, c_32, c_33, c_34⟩ := HB_Z.out.c5
     obtain ⟨c_35, c_36⟩ := HB_F.out.c2
     obtain ⟨c_37, c_38, c_39, c_40, c_41⟩ := HB_X.out.c5
     go_wp2_with fail
     clear c_24 c_25 c_26 c_27 c_28 c_29 c_30 c_31 c_32 c_33 c_34 c_35 c_36 c_37 c_38 c_39 c_40 c_41
     obtain ⟨c_42, c_43, c_44, c_45⟩ := HB_M.out.c4
     obtain ⟨c_46, c_47⟩ := HB_W.out.c2
     obtain ⟨c_48, c_49, c_50, c_51, c_52⟩ := HB_Z.out.c5
     obtain ⟨c_53, c_54⟩ := HB_F.out.c2
     obtain ⟨c_55, c_56, c_57, c_58, c_59⟩ := HB_X.out.c5
     go_quiet (fail)
     clear c_42 c_43 c_44 c_45 c_46 c_47 c_48 c_49 c_50 c_51 c_52 c_53 c_54 c_55 c_56 c_57 c_58 c_59
     have gq3 : Ext wc (wc.drewN nq) := below_drewN (Below.refl _ _) nq
     generalize wc.drewN nq = Wq3 at gq3 ⊢
     have hz_Wq3 := gq3.size
     replace HE := hid (HE.out.trans gq3)
     replace HB_M := hid (HB_M.out.ext gq3)
     replace HB_W := hid (HB_W.out.ext gq3)
     replace HB_Z := hid (HB_Z.out.ext gq3)
     replace HB_F := hid (HB_F.out.ext gq3)
     replace HB_X := hid (HB_X.out.ext gq3)
     obtain ⟨c_60, c_61, c_62, c_63⟩ := HB_M.out.c4
     obtain ⟨c_64, c_65⟩ := HB_W.out.c2
     obtain ⟨c_66, c_67, c_68, c_69, c_70⟩ := HB_Z.out.c5
     obtain ⟨c_71, c_72⟩ := HB_F.out.c2
     obtain ⟨c_73, c_74, c_75, c_76, c_77⟩ := HB_X.out.c5
     go_wp2_with fail
     clear c_60 c_61 c_62 c_63 c_64 c_65 c_66 c_67 c_68 c_69 c_70 c_71 c_72 c_73 c_74 c_75 c_76 c_77
     clear hq1 hq2 hq3 hf1 hf3 hf4
     go_cut [] (fun wx => Hid (Ext w wx) ∧ Hid (Box wx (w.heap.size) #[.int .i64 E, .int .i64 P, .int .i64 m, .int .i64 b] 81) ∧ Hid (Box wx (gX) #[.int .i64 2, .bool s, .bool false, .slice none 0 0, .slice none 0 0] 112) ∧ Hid (Box wx (w.heap.size + 1 + 1) #[.int .i64 0, .bool false, .bool false, .slice none 0 0, .slice none 0 0] 112) ∧ Hid (Box wx (w1.heap.size) #[.int .u64 p0, .int .u64 p1] 29) ∧ Wq3.heap.size ≤ wx.heap.size)
     case first =>
      have hb0 : Ext Wq3 Wq3.drew := Below.drew (Below.refl _ Wq3)
      obtain ⟨c_79, c_80⟩ := (HB_F.out.ext hb0).c2
      obtain ⟨c_81, c_82, c_83, c_84⟩ := (HB_M.out.ext hb0).c4
      go_region_with (first
         | (go_at_call 114; (with_reducible refine (CS.out _).mono ?_); rintro e x78_1 ⟨rfl, g1⟩; have hb1 : Ext Wq3 x78_1 := hb0.trans g1; obtain ⟨d_85, d_86⟩ := (HB_F.out.ext hb1).c2; obtain ⟨d_87, d_88, d_89, d_90⟩ := (HB_M.out.ext hb1).c4; obtain ⟨d_91, d_92⟩ := (HB_F.out.ext hb1).f2)
         | (go_at_call 48; (with_reducible refine (CB.out _).mono ?_); rintro e x78_2 ⟨rfl, g2⟩; have hb2 : Ext Wq3 x78_2 := hb1.trans g2; obtain ⟨d_93, d_94⟩ := (HB_F.out.ext hb2).c2; obtain ⟨d_95, d_96, d_97, d_98⟩ := (HB_M.out.ext hb2).c4; obtain ⟨d_99, d_100⟩ := (HB_F.out.ext hb2).f2))
      all_goals
       go_wp2_with fail
       have hz_x78_2 := hb2.size
       replace HE := hid (HE.out.trans hb2)
       replace HB_M := hid (HB_M.out.ext hb2)
       replace HB_W := hid (HB_W.out.ext hb2)
       replace HB_Z := hid (HB_Z.out.ext hb2)
       replace HB_F := hid (HB_F.out.ext hb2)
       replace HB_X := hid (HB_X.out.ext hb2)
       obtain ⟨W4, hW4, g4, q4, B4, hy4, ho4⟩ := sto2 HE.out (by omega) HB_F.out (by decide) (.int .u64 p0) (.int .u64 p1)
       rw [← hW4]
       clear hW4
       replace HE := hid g4
       replace HB_M := hid (ho4 _ _ _ (by omega) HB_M.out)
       replace HB_W := hid (ho4 _ _ _ (by omega) HB_W.out)
       replace HB_Z := hid (ho4 _ _ _ (by omega) HB_Z.out)
       replace HB_X := hid (ho4 _ _ _ (by omega) HB_X.out)
       replace HB_F := hid B4
       go_meet
       exact ⟨HE, HB_M, HB_X, HB_Z, HB_F, by omega⟩
     case rest =>
      obtain ⟨HE, HB_M, HB_X, HB_Z, HB_F, hzc⟩ := hcut
      have CW : Hid (∀ w, Calls Tryz.prog 138 #[.agg #[.int .u64 p0, .int .u64 p1]] w fun e w' => ∃ v, e = .returned v ∧ NumV w' v ((wfr E P n : Nat) : Rat) ∧ Ext w w') := hid fun w => by
       have h := fwhole_c (wfr E P n) w HWF.out
       rw [EW.out] at h; exact h
      obtain ⟨c_78, c_79, c_80, c_81⟩ := HB_M.out.c4
      obtain ⟨c_82, c_83, c_84, c_85, c_86⟩ := HB_Z.out.c5
      obtain ⟨c_87, c_88⟩ := HB_F.out.c2
      obtain ⟨c_89, c_90, c_91, c_92, c_93⟩ := HB_X.out.c5
      go_wp2_with fail
      clear c_78 c_79 c_80 c_81 c_82 c_83 c_84 c_85 c_86 c_87 c_88 c_89 c_90 c_91 c_92 c_93
      go_cut [] (fun wx => ∃ (yg : Bool) (ya : Option Addr) (yn yc : Nat) (ya' : Option Addr) (yn' yc' : Nat), Hid (Ext w wx) ∧ Hid (Box wx (w.heap.size) #[.int .i64 E, .int .i64 P, .int .i64 m, .int .i64 b] 81) ∧ Hid (Box wx (w.heap.size + 1 + 1) #[.int .i64 0, .bool false, .bool false, .slice none 0 0, .slice none 0 0] 112) ∧ Hid (Box wx (w1.heap.size) #[.int .u64 p0, .int .u64 p1] 29) ∧ Hid (Box wx (gX) #[.int .i64 2, .bool s, .bool yg, .slice ya yn yc, .slice ya' yn' yc'] 112) ∧ NumV wx (.agg #[.bool yg, .slice ya yn yc, .slice ya' yn' yc']) V1 ∧ wc.heap.size ≤ wx.heap.size)
      case first =>
       have HS : Hid (∀ w', Ext wc w' → w'.cell? ⟨w.heap.size, 0, none⟩ = some (.int .i64 E) ∧ w'.cell? ⟨w.heap.size, 1, none⟩ = some (.int .i64 P) ∧ w'.cell? ⟨w.heap.size, 2, none⟩ = some (.int .i64 m) ∧ w'.cell? ⟨w.heap.size, 3, none⟩ = some (.int .i64 b) ∧ w'.cell? ⟨w1.heap.size, 0, none⟩ = some (.int .u64 p0) ∧ w'.cell? ⟨w1.heap.size, 1, none⟩ = some (.int .u64 p1)) := hid fun w' h => ⟨(HB_M.out.ext h).cell 0, (HB_M.out.ext h).cell 1, (HB_M.out.ext h).cell 2, (HB_M.out.ext h).cell 3, (HB_F.out.ext h).cell 0, (HB_F.out.ext h).cell 1⟩
       have hne_M : w.heap.size ≠ gX := by omega
       have hne_F : w1.heap.size ≠ gX := by omega
       have HSZ : Hid (∀ (v0 v1 v2 : Value) (w' : World), Ext wc w' → (((w'.setCell ⟨gX, 2, none⟩ v0).setCell ⟨gX, 3, none⟩ v1).setCell ⟨gX, 4, none⟩ v2).cell? ⟨w.heap.size, 0, none⟩ = some (.int .i64 E) ∧ (((w'.setCell ⟨gX, 2, none⟩ v0).setCell ⟨gX, 3, none⟩ v1).setCell ⟨gX, 4, none⟩ v2).cell? ⟨w.heap.size, 1, none⟩ = some (.int .i64 P) ∧ (((w'.setCell ⟨gX, 2, none⟩ v0).setCell ⟨gX, 3, none⟩ v1).setCell ⟨gX, 4, none⟩ v2).cell? ⟨w.heap.size, 2, none⟩ = some (.int .i64 m) ∧ (((w'.setCell ⟨gX, 2, none⟩ v0).setCell ⟨gX, 3, none⟩ v1).setCell ⟨gX, 4, none⟩ v2).cell? ⟨w.heap.size, 3, none⟩ = some (.int .i64 b) ∧ (((w'.setCell ⟨gX, 2, none⟩ v0).setCell ⟨gX, 3, none⟩ v1).setCell ⟨gX, 4, none⟩ v2).cell? ⟨w1.heap.size, 0, none⟩ = some (.int .u64 p0) ∧ (((w'.setCell ⟨gX, 2, none⟩ v0).setCell ⟨gX, 3, none⟩ v1).setCell ⟨gX, 4, none⟩ v2).cell? ⟨w1.heap.size, 1, none⟩ = some (.int .u64 p1)) := hid fun v0 v1 v2 w' h => ⟨(cell_other hne_M (cell_other hne_M (cell_other hne_M ((HB_M.out.ext h).cell 0)))), (cell_other hne_M (cell_other hne_M (cell_other hne_M ((HB_M.out.ext h).cell 1)))), (cell_other hne_M (cell_other hne_M (cell_other hne_M ((HB_M.out.ext h).cell 2)))), (cell_other hne_M (cell_other hne_M (cell_other hne_M ((HB_M.out.ext h).cell 3)))), (cell_other hne_F (cell_other hne_F (cell_other hne_F ((HB_F.out.ext h).cell 0)))), (cell_other hne_F (cell_other hne_F (cell_other hne_F ((HB_F.out.ext h).cell 1))))⟩
       clear hne_M hne_F
       have hb0 : Ext wc wc.drew := Below.drew (Below.refl _ wc)
       go_region_held3 (fun w' => w'.cell? ⟨w.heap.size, 0, none⟩ = some (.int .i64 E) ∧ w'.cell? ⟨w.heap.size, 1, none⟩ = some (.int .i64 P) ∧ w'.cell? ⟨w.heap.size, 2, none⟩ = some (.int .i64 m) ∧ w'.cell? ⟨w.heap.size, 3, none⟩ = some (.int .i64 b) ∧ w'.cell? ⟨w1.heap.size, 0, none⟩ = some (.int .u64 p0) ∧ w'.cell? ⟨w1.heap.size, 1, none⟩ = some (.int .u64 p1))
         (first | exact HS.out _ (by assumption) | exact HSZ.out _ _ _ _ (by assumption))
        (first
         | (go_at_call 138; (with_reducible refine (CW.out _).mono ?_); rintro e x94_1 ⟨v1, rfl, k1, g1⟩; have hb1 : Ext wc x94_1 := hb0.trans g1)
         | (go_at_call 139; (with_reducible refine (cL.out _).mono ?_); rintro e x94_2 ⟨rfl, g2⟩; have hb2 : Ext wc x94_2 := hb1.trans g2)
         | (go_at_call 71; (with_reducible refine (shift_c _ _ 128 (max (f : Int) 1 - 1 + (2 - (b : Int) - P)) _ (k1.ext g2) SF.out (by have := HP.out; have := HB.out; omega) (by have := HP.out; have := HB.out; omega) (by decide)).mono ?_); rintro e x94_3 ⟨v3, rfl, k3, g3⟩; have hb3 : Ext wc x94_3 := hb2.trans g3; rw [HKV.out] at k3; obtain ⟨ng3, a3, n3, c3, a3', n3', c3', rfl⟩ := k3.shape; obtain ⟨zc0, zc1, zc2, zc3, zc4⟩ := (HB_X.out.ext hb3).c5; obtain ⟨zf0, zf1, zf2, zf3, zf4⟩ := (HB_X.out.ext hb3).f5))
       all_goals
        go_wp2_with fail
        clear e1 e2
        have hz_x94_3 := hb3.size
        replace HE := hid (HE.out.trans hb3)
        replace HB_M := hid (HB_M.out.ext hb3)
        replace HB_Z := hid (HB_Z.out.ext hb3)
        replace HB_F := hid (HB_F.out.ext hb3)
        replace HB_X := hid (HB_X.out.ext hb3)
        obtain ⟨W4, hW4, g4, q4, B4, hy4, ho4⟩ := sto3at2 HE.out (by omega) HB_X.out (by decide) (.bool ng3) (.slice a3 n3 c3) (.slice a3' n3' c3')
        rw [← hW4]
        clear hW4
        replace HE := hid g4
        replace HB_M := hid (ho4 _ _ _ (by omega) HB_M.out)
        replace HB_Z := hid (ho4 _ _ _ (by omega) HB_Z.out)
        replace HB_F := hid (ho4 _ _ _ (by omega) HB_F.out)
        replace HB_X := hid B4
        replace k3 := k3.keep q4
        go_meet
        exact ⟨ng3, a3, n3, c3, a3', n3', c3', HE, HB_M, HB_Z, HB_F, HB_X, k3, by omega⟩
      case rest =>
       obtain ⟨ng3, a3, n3, c3, a3', n3', c3', HE, HB_M, HB_Z, HB_F, HB_X, k3, hzd⟩ := hcut
       clear e1 e2
       cases s
       ·have HV : Hid (wvalK E P b n = V1) := hid (by rw [HVp.out, if_neg (by decide), Rat.one_mul])
        obtain ⟨c_94, c_95, c_96, c_97⟩ := HB_M.out.c4
        obtain ⟨c_98, c_99, c_100, c_101, c_102⟩ := HB_Z.out.c5
        obtain ⟨c_103, c_104⟩ := HB_F.out.c2
        obtain ⟨c_105, c_106, c_107, c_108, c_109⟩ := HB_X.out.c5
        obtain ⟨f_110, f_111, f_112, f_113, f_114⟩ := HB_X.out.f5
        obtain ⟨f_115, f_116, f_117, f_118, f_119⟩ := HB_Z.out.f5
        go_wp2_with fail
        clear c_94 c_95 c_96 c_97 c_98 c_99 c_100 c_101 c_102 c_103 c_104 c_105 c_106 c_107 c_108 c_109 f_110 f_111 f_112 f_113 f_114 f_115 f_116 f_117 f_118 f_119
        obtain ⟨W4, hW4, g4, q4, B4, hy4, ho4⟩ := sto5 HE.out (by omega) HB_Z.out (by decide) (.int .i64 2) (.bool false) (.bool ng3) (.slice a3 n3 c3) (.slice a3' n3' c3')
        rw [← hW4]
        clear hW4
        replace HE := hid g4
        replace HB_M := hid (ho4 _ _ _ (by omega) HB_M.out)
        replace HB_F := hid (ho4 _ _ _ (by omega) HB_F.out)
        replace HB_X := hid (ho4 _ _ _ (by omega) HB_X.out)
        replace HB_Z := hid B4
        replace k3 := k3.keep q4
        unfold LookPost
        rw [HK.out, HV.out]
        obtain ⟨c_120, c_121, c_122, c_123, c_124⟩ := HB_Z.out.c5
        refine bodyPost_ret (v := .agg #[.int .i64 2, .bool false, .bool ng3, .slice a3 n3 c3, .slice a3' n3' c3']) (by simp [results, Tryz.results69, go_sem, c_120, c_121, c_122, c_123, c_124]) rfl ⟨_, rfl, ⟨_, _, _, _, _, _, _, rfl, k3⟩, HE.out⟩
       ·have HV : Hid (wvalK E P b n = -V1) := hid (by rw [HVp.out, if_pos rfl, Rat.neg_mul, Rat.one_mul])
        obtain ⟨c_94, c_95, c_96, c_97⟩ := HB_M.out.c4
        obtain ⟨c_98, c_99, c_100, c_101, c_102⟩ := HB_Z.out.c5
        obtain ⟨c_103, c_104⟩ := HB_F.out.c2
        obtain ⟨c_105, c_106, c_107, c_108, c_109⟩ := HB_X.out.c5
        go_wp2_with fail
        clear c_94 c_95 c_96 c_97 c_98 c_99 c_100 c_101 c_102 c_103 c_104 c_105 c_106 c_107 c_108 c_109
        refine (neg_c _ V1 _ k3).mono ?_
        rintro e w4 ⟨v4, rfl, k4, g4⟩
        have hz_w4 := g4.size
        replace HE := hid (HE.out.trans g4)
        replace HB_M := hid (HB_M.out.ext g4)
        replace HB_Z := hid (HB_Z.out.ext g4)
        replace HB_F := hid (HB_F.out.ext g4)
        replace HB_X := hid (HB_X.out.ext g4)
        replace k3 := k3.ext g4
        obtain ⟨ng4, a4, n4, c4, a4', n4', c4', rfl⟩ := k4.shape
        obtain ⟨c_110, c_111, c_112, c_113⟩ := HB_M.out.c4
        obtain ⟨c_114, c_115, c_116, c_117, c_118⟩ := HB_Z.out.c5
        obtain ⟨c_119, c_120⟩ := HB_F.out.c2
        obtain ⟨c_121, c_122, c_123, c_124, c_125⟩ := HB_X.out.c5
        obtain ⟨f_126, f_127, f_128, f_129, f_130⟩ := HB_X.out.f5
        obtain ⟨f_131, f_132, f_133, f_134, f_135⟩ := HB_Z.out.f5
        go_wp2_with fail
        clear c_110 c_111 c_112 c_113 c_114 c_115 c_116 c_117 c_118 c_119 c_120 c_121 c_122 c_123 c_124 c_125 f_126 f_127 f_128 f_129 f_130 f_131 f_132 f_133 f_134 f_135
        obtain ⟨W5, hW5, g5, q5, B5, hy5, ho5⟩ := sto3at2 HE.out (by omega) HB_X.out (by decide) (.bool ng4) (.slice a4 n4 c4) (.slice a4' n4' c4')
        rw [← hW5]
        clear hW5
        replace HE := hid g5
        replace HB_M := hid (ho5 _ _ _ (by omega) HB_M.out)
        replace HB_Z := hid (ho5 _ _ _ (by omega) HB_Z.out)
        replace HB_F := hid (ho5 _ _ _ (by omega) HB_F.out)
        replace HB_X := hid B5
        replace k3 := k3.keep q5
        replace k4 := k4.keep q5
        obtain ⟨W6, hW6, g6, q6, B6, hy6, ho6⟩ := sto5 HE.out (by omega) HB_Z.out (by decide) (.int .i64 2) (.bool true) (.bool ng4) (.slice a4 n4 c4) (.slice a4' n4' c4')
        rw [← hW6]
        clear hW6
        replace HE := hid g6
        replace HB_M := hid (ho6 _ _ _ (by omega) HB_M.out)
        replace HB_F := hid (ho6 _ _ _ (by omega) HB_F.out)
        replace HB_X := hid (ho6 _ _ _ (by omega) HB_X.out)
        replace HB_Z := hid B6
        replace k3 := k3.keep q6
        replace k4 := k4.keep q6
        unfold LookPost
        rw [HK.out, HV.out]
        obtain ⟨c_136, c_137, c_138, c_139, c_140⟩ := HB_Z.out.c5
        refine bodyPost_ret (v := .agg #[.int .i64 2, .bool true, .bool ng4, .slice a4 n4 c4, .slice a4' n4' c4']) (by simp [results, Tryz.results69, go_sem, c_136, c_137, c_138, c_139, c_140]) rfl ⟨_, rfl, ⟨_, _, _, _, _, _, _, rfl, k4⟩, HE.out⟩
end Go.Proofs.YtopmjkkjlagfcaaGreatDoor
