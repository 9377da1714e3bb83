/- floats: ranked, Next, Nth. -/
import Derived.Test.YtopmjkkjlagfcaaGreatDoorW42
import Derived.Test.YtopmjkkjlagfcaaGreatDoorW43
namespace Go.Proofs.YtopmjkkjlagfcaaGreatDoor
open Go.RowKit Vn
theorem Word.inj {n k : Nat} (h : Word n = Word k) : n = k := by
 unfold Word at h
 have h2 : ((n / 18446744073709551616 : Nat) : Int) = ((k / 18446744073709551616 : Nat) : Int) ∧ ((n % 18446744073709551616 : Nat) : Int) = ((k % 18446744073709551616 : Nat) : Int) := by simpa using h
 omega
set_option maxRecDepth 100000 in
set_option maxHeartbeats 4000000 in
theorem ranked_c (E P m b : Nat) (x : Value) (z : Int) (w : World) (hF : Fmt E P) (hx : NumV w x ((z : Int) : Rat)) (hz : z.natAbs < 2 ^ 124) :
  Calls Tryz.prog 84 #[.agg #[.int .i64 (E : Nat), .int .i64 (P : Nat), .int .i64 (m : Nat), .int .i64 (b : Nat)], x] w fun e w' => e = .returned (Word (rankW E P z)) ∧ Ext w w' := by
 obtain ⟨ng, a, n, c, a', n', c', rfl⟩ := hx.shape
 obtain ⟨hE, hP, _, hEP, _⟩ := fmt_bounds hF
 obtain ⟨sg, hsg⟩ : ∃ s, s = z.sign := ⟨_, rfl⟩
 obtain ⟨neg, hneg⟩ : ∃ s, s = decide (z < 0) := ⟨_, rfl⟩
 have hd : decide (sg < 0) = neg := by
  rw [hsg, hneg]
  by_cases h : z < 0
  ·rw [decide_eq_true h, decide_eq_true (Int.sign_neg_iff.2 h)]
  ·rw [decide_eq_false h, decide_eq_false (fun k => h (Int.sign_neg_iff.1 k))]
 obtain ⟨s0, s1, es⟩ := Word.shape (sgb E P neg)
 obtain ⟨p0, p1, ep⟩ := Word.shape z.natAbs
 obtain ⟨r0, r1, er⟩ := Word.shape (rankW E P z)
 have p8 : W128 z.natAbs := by show _ < 2 ^ 128; omega
 have CSG : Hid (∀ v w, NumV w v ((z : Int) : Rat) → Calls Tryz.prog 27 #[v] w fun e w' => e = .returned (.int .i64 sg) ∧ Ext w w') := hid fun v w h => by rw [hsg]; exact sign_c v _ w h
 have CS : Hid (∀ w, Calls Tryz.prog 111 #[.agg #[.int .i64 (E : Nat), .int .i64 (P : Nat), .int .i64 (m : Nat), .int .i64 (b : Nat)], .bool neg] w fun e w' => e = .returned (.agg #[.int .u64 s0, .int .u64 s1]) ∧ Ext w w') := hid fun w => by
  have := sign_c' E P m b neg w hF
  rwa [es] at this
 have CAB : Hid (∀ v w, NumV w v ((z : Int) : Rat) → Calls Tryz.prog 25 #[v] w fun e w' => ∃ t, e = .returned t ∧ NumV w' t ((z.natAbs : Nat) : Rat) ∧ Ext w w') := hid fun v w h => by
  have := abs_c v _ w h
  rwa [show mkq false ((z : Int) : Rat).num.natAbs ((z : Int) : Rat).den = ((z.natAbs : Nat) : Rat) from mkq_nat _] at this
 have CPK : Hid (∀ v w, NumV w v ((z.natAbs : Nat) : Rat) → Calls Tryz.prog 49 #[v] w fun e w' => e = .returned (.agg #[.int .u64 p0, .int .u64 p1]) ∧ Ext w w') := hid fun v w h => by
  have := packed_c v z.natAbs w h p8
  rwa [ep] at this
 have CBO : Hid (∀ w, Calls Tryz.prog 48 #[.agg #[.int .u64 s0, .int .u64 s1], .agg #[.int .u64 p0, .int .u64 p1]] w fun e w' => e = .returned (.agg #[.int .u64 r0, .int .u64 r1]) ∧ Ext w w') := hid fun w => by
  have := both_w (sgb E P neg) z.natAbs w (sgb_w128 hEP neg) p8
  rw [hneg] at this es
  unfold rankW at er
  rwa [es, ep, er] at this
 rw [er]
 have HX := hid hx
 clear hF hx hz hE hP hEP hsg hneg es ep er p8
 obtain ⟨W0, hW0, g0, hz0, B_M, B_X, B_Z⟩ := pro3s w #[.int .i64 (E : Nat), .int .i64 (P : Nat), .int .i64 (m : Nat), .int .i64 (b : Nat)] #[.bool ng, .slice a n c, .slice a' n' c'] #[.int .u64 0, .int .u64 0] 81 40 29
 have HE := hid g0
 have HB_M := hid B_M
 have HB_X := hid B_X
 have HB_Z := hid B_Z
 clear g0 B_M B_X B_Z 
 go_enter Tryz.func84, Tryz.ntmps84
 go_upto_region 1 with (fail)
 rw [← hW0]
 clear hW0
 have kx := HX.out.ext HE.out
 have HS : Hid (∀ w', Ext W0 w' → w'.cell? ⟨w.heap.size, 0, none⟩ = some (.int .i64 (E : Nat)) ∧ w'.cell? ⟨w.heap.size, 1, none⟩ = some (.int .i64 (P : Nat)) ∧ w'.cell? ⟨w.heap.size, 2, none⟩ = some (.int .i64 (m : Nat)) ∧ w'.cell? ⟨w.heap.size, 3, none⟩ = some (.int .i64 (b : Nat)) ∧ w'.cell? ⟨w.heap.size + 1, 0, none⟩ = some (.bool ng) ∧ w'.cell? ⟨w.heap.size + 1, 1, none⟩ = some (.slice a n c) ∧ w'.cell? ⟨w.heap.size + 1, 2, none⟩ = some (.slice a' n' c')) := hid fun w' h => ⟨(HB_M.out.ext h).cell 0, (HB_M.out.ext h).cell 1, (HB_M.out.ext h).cell 2, (HB_M.out.ext h).cell 3, (HB_X.out.ext h).cell 0, (HB_X.out.ext h).cell 1, (HB_X.out.ext h).cell 2⟩
 have hne_M : w.heap.size ≠ w.heap.size + 1 + 1 := by omega
 have hne_X : w.heap.size + 1 ≠ w.heap.size + 1 + 1 := by omega
 have HSZ : Hid (∀ (v0 v1 : Value) (w' : World), Ext W0 w' → ((w'.setCell ⟨w.heap.size + 1 + 1, 0, none⟩ v0).setCell ⟨w.heap.size + 1 + 1, 1, none⟩ v1).cell? ⟨w.heap.size, 0, none⟩ = some (.int .i64 (E : Nat)) ∧ ((w'.setCell ⟨w.heap.size + 1 + 1, 0, none⟩ v0).setCell ⟨w.heap.size + 1 + 1, 1, none⟩ v1).cell? ⟨w.heap.size, 1, none⟩ = some (.int .i64 (P : Nat)) ∧ ((w'.setCell ⟨w.heap.size + 1 + 1, 0, none⟩ v0).setCell ⟨w.heap.size + 1 + 1, 1, none⟩ v1).cell? ⟨w.heap.size, 2, none⟩ = some (.int .i64 (m : Nat)) ∧ ((w'.setCell ⟨w.heap.size + 1 + 1, 0, none⟩ v0).setCell ⟨w.heap.size + 1 + 1, 1, none⟩ v1).cell? ⟨w.heap.size, 3, none⟩ = some (.int .i64 (b : Nat)) ∧ ((w'.setCell ⟨w.heap.size + 1 + 1, 0, none⟩ v0).setCell ⟨w.heap.size + 1 + 1, 1, none⟩ v1).cell? ⟨w.heap.size + 1, 0, none⟩ = some (.bool ng) ∧ ((w'.setCell ⟨w.heap.size + 1 + 1, 0, none⟩ v0).setCell ⟨w.heap.size + 1 + 1, 1, none⟩ v1).cell? ⟨w.heap.size + 1, 1, none⟩ = some (.slice a n c) ∧ ((w'.setCell ⟨w.heap.size + 1 + 1, 0, none⟩ v0).setCell ⟨w.heap.size + 1 + 1, 1, none⟩ v1).cell? ⟨w.heap.size + 1, 2, none⟩ = some (.slice a' n' c')) := hid fun v0 v1 w' h => ⟨(cell_other hne_M (cell_other hne_M ((HB_M.out.ext h).cell 0))), (cell_other hne_M (cell_other hne_M ((HB_M.out.ext h).cell 1))), (cell_other hne_M (cell_other hne_M ((HB_M.out.ext h).cell 2))), (cell_other hne_M (cell_other hne_M ((HB_M.out.ext h).cell 3))), (cell_other hne_X (cell_other hne_X ((HB_X.out.ext h).cell 0))), (cell_other hne_X (cell_other hne_X ((HB_X.out.ext h).cell 1))), (cell_other hne_X (cell_other hne_X ((HB_X.out.ext h).cell 2)))⟩
 clear hne_M hne_X
 have hb0 : Ext W0 W0.drew := Below.drew (Below.refl _ W0)
 go_region_held3 (fun w' => w'.cell? ⟨w.heap.size, 0, none⟩ = some (.int .i64 (E : Nat)) ∧ w'.cell? ⟨w.heap.size, 1, none⟩ = some (.int .i64 (P : Nat)) ∧ w'.cell? ⟨w.heap.size, 2, none⟩ = some (.int .i64 (m : Nat)) ∧ w'.cell? ⟨w.heap.size, 3, none⟩ = some (.int .i64 (b : Nat)) ∧ w'.cell? ⟨w.heap.size + 1, 0, none⟩ = some (.bool ng) ∧ w'.cell? ⟨w.heap.size + 1, 1, none⟩ = some (.slice a n c) ∧ w'.cell? ⟨w.heap.size + 1, 2, none⟩ = some (.slice a' n' c'))
   (first | exact HS.out _ (by assumption) | exact HSZ.out _ _ _ (by assumption))
  (first
   | (go_at_call 27; (with_reducible refine (CSG.out _ _ (kx.ext hb0)).mono ?_); rintro e x1_1 ⟨rfl, g1⟩; have hb1 : Ext W0 x1_1 := hb0.trans g1)
   | (go_at_call 111; (with_reducible refine (CS.out _).mono ?_); rintro e x1_2 ⟨rfl, g2⟩; have hb2 : Ext W0 x1_2 := hb1.trans g2)
   | (go_at_call 25; (with_reducible refine (CAB.out _ _ (kx.ext hb2)).mono ?_); rintro e x1_3 ⟨v3, rfl, k3, g3⟩; have hb3 : Ext W0 x1_3 := hb2.trans g3)
   | (go_at_call 49; (with_reducible refine (CPK.out _ _ k3).mono ?_); rintro e x1_4 ⟨rfl, g4⟩; have hb4 : Ext W0 x1_4 := hb3.trans g4)
   | (go_at_call 48; (with_reducible refine (CBO.out _).mono ?_); rintro e x1_5 ⟨rfl, g5⟩; have hb5 : Ext W0 x1_5 := hb4.trans g5; obtain ⟨zc0, zc1⟩ := (HB_Z.out.ext hb5).c2; obtain ⟨zf0, zf1⟩ := (HB_Z.out.ext hb5).f2))
 clear HS HSZ
 have hz_x1_5 := hb5.size
 replace HE := hid (HE.out.trans hb5)
 replace HB_M := hid (HB_M.out.ext hb5)
 replace HB_X := hid (HB_X.out.ext hb5)
 replace HB_Z := hid (HB_Z.out.ext hb5)
 replace kx := kx.ext hb5
 obtain ⟨c_2, c_3⟩ := HB_Z.out.c2
 obtain ⟨f_4, f_5⟩ := HB_Z.out.f2
 go_wp2_with fail
 clear c_2 c_3 f_4 f_5
 obtain ⟨W1, hW1, g1, q1, B1, hy1, ho1⟩ := sto2 HE.out (by omega) HB_Z.out (by decide) (.int .u64 r0) (.int .u64 r1)
 rw [← hW1]
 clear hW1
 replace HE := hid g1
 replace HB_M := hid (ho1 _ _ _ (by omega) HB_M.out)
 replace HB_X := hid (ho1 _ _ _ (by omega) HB_X.out)
 replace HB_Z := hid B1
 replace kx := kx.keep q1
 obtain ⟨c_6, c_7⟩ := HB_Z.out.c2
 refine bodyPost_ret (v := .agg #[.int .u64 r0, .int .u64 r1]) (by simp [results, Tryz.results84, go_sem, c_6, c_7]) rfl ⟨rfl, HE.out⟩
set_option maxRecDepth 100000 in
set_option maxHeartbeats 4000000 in
theorem Next_nan_u (E P n : Nat) (w : World) (hF : Fmt E P) (hn : n < 2 ^ (E + P)) (hk : 4 ≤ wkind E P n) :
  Calls Tryz.prog 21 #[.agg #[.int .i64 (E : Nat), .int .i64 (P : Nat)], Word n, .bool true] w fun e w' => e = .returned (.tuple #[.agg #[.int .u64 0, .int .u64 0], .int .i64 4]) ∧ Ext w w' := by
 obtain ⟨hE, hP, hb, hEP, hb1⟩ := fmt_bounds hF
 have hn8 : W128 n := w128_of hEP hn
 obtain ⟨i0, hi0⟩ : ∃ x : Nat, x = n / 18446744073709551616 := ⟨_, rfl⟩
 obtain ⟨i1, hi1⟩ : ∃ x : Nat, x = n % 18446744073709551616 := ⟨_, rfl⟩
 have ei : Word n = .agg #[.int .u64 i0, .int .u64 i1] := by unfold Word; rw [← hi0, ← hi1]
 obtain ⟨kd, hkd⟩ : ∃ x, x = wkind E P n := ⟨_, rfl⟩
 have CI : Hid (∀ w, Calls Tryz.prog 69 #[.agg #[.int .i64 (E : Nat), .int .i64 (P : Nat), .int .i64 0, .int .i64 (bias E : Nat)], .agg #[.int .u64 i0, .int .u64 i1]] w (LookPost kd (wn E P n) (wvalK E P (bias E) n) w)) := hid fun w => by
  rw [← ei, hkd]; exact look_c E P 0 (bias E) n w hF hb hn8
 have HW : Hid (withRes E P 0 [n] = .tuple #[.agg #[.int .i64 (E : Nat), .int .i64 (P : Nat), .int .i64 0, .int .i64 (bias E : Nat)], .int .i64 0]) := hid (by unfold withRes; rw [if_pos (fun x hx => by rw [List.mem_singleton] at hx; rw [hx]; exact hn)]; rfl)
 have hd : decide (4 ≤ kd) = true := decide_eq_true (by rw [hkd]; exact hk)
 rw [ei]
 have HF := hid hF; have HN := hid hn8; have HI0 := hid hi0; have HI1 := hid hi1
 clear hF hn hE hP hb hEP hb1 hn8 hi0 hi1 ei hkd hk
 obtain ⟨W0, hW0, g0, hz0, B_F, B_A, B_Z⟩ := pro3s w #[.int .i64 (E : Nat), .int .i64 (P : Nat)] #[.int .u64 i0, .int .u64 i1] #[.int .u64 0, .int .u64 0] 23 29 29
 have HE := hid g0
 have HB_F := hid B_F
 have HB_A := hid B_A
 have HB_Z := hid B_Z
 clear g0 B_F B_A B_Z 
 go_enter Tryz.func21, Tryz.ntmps21
 go_upto_region 1 with (fail)
 rw [← hW0]
 clear hW0
 obtain ⟨c_1, c_2⟩ := HB_F.out.c2
 obtain ⟨c_3, c_4⟩ := HB_A.out.c2
 obtain ⟨c_5, c_6⟩ := HB_Z.out.c2
 go_wp2_with fail
 clear c_1 c_2 c_3 c_4 c_5 c_6
 obtain ⟨W1, hW1, g1, hy1, B_R⟩ := pro1 W0 #[.int .u64 i0, .int .u64 i1] 29
 rw [← hW1]
 clear hW1
 have hz_W1 := g1.size
 replace HE := hid (HE.out.trans g1)
 replace HB_F := hid (HB_F.out.ext g1)
 replace HB_A := hid (HB_A.out.ext g1)
 replace HB_Z := hid (HB_Z.out.ext g1)
 have HB_R := hid B_R
 clear B_R
 have HWS : Hid (WSl W1 (.slice (some ⟨W0.heap.size, 0, none⟩) 1 1) [n]) := hid ⟨some ⟨W0.heap.size, 0, none⟩, W0.heap.size, 0, 1, rfl, Nat.le_refl _, by decide, fun _ => rfl, fun x hx => by
   rw [List.mem_singleton] at hx; rw [hx]; exact HN.out, fun i hi => by
   obtain rfl : i = 0 := by simpa using hi
   refine ⟨?_, ?_⟩
   ·have := HB_R.out.cell 0; rw [HI0.out] at this; exact this
   ·have := HB_R.out.cell 1; rw [HI1.out] at this; exact this⟩
 refine (with_good E P 0 _ [n] _ (by decide) HF.out HWS.out).mono ?_
 rintro e w2 ⟨rfl, g2⟩
 have hz_w2 := g2.size
 replace HE := hid (HE.out.trans g2)
 replace HB_F := hid (HB_F.out.ext g2)
 replace HB_A := hid (HB_A.out.ext g2)
 replace HB_Z := hid (HB_Z.out.ext g2)
 rw [HW.out]
 have gA := Ext.alloc w2 (.cells #[.int .i64 (E : Nat), .int .i64 (P : Nat), .int .i64 0, .int .i64 (bias E : Nat)] 81)
 obtain ⟨c_7, c_8⟩ := (HB_F.out.ext gA).c2
 obtain ⟨c_9, c_10⟩ := (HB_A.out.ext gA).c2
 obtain ⟨c_11, c_12⟩ := (HB_Z.out.ext gA).c2
 go_wp2_with fail
 clear gA c_7 c_8 c_9 c_10 c_11 c_12
 obtain ⟨W3, hW3, g3, hy3, B_M⟩ := pro1 w2 #[.int .i64 (E : Nat), .int .i64 (P : Nat), .int .i64 0, .int .i64 (bias E : Nat)] 81
 rw [← hW3]
 clear hW3
 have hz_W3 := g3.size
 replace HE := hid (HE.out.trans g3)
 replace HB_F := hid (HB_F.out.ext g3)
 replace HB_A := hid (HB_A.out.ext g3)
 replace HB_Z := hid (HB_Z.out.ext g3)
 have HB_M := hid B_M
 clear B_M
 generalize wn E P n = sg at *
 generalize wvalK E P (bias E) n = qv at *
 refine (CI.out _).mono ?_
 rintro e w4 ⟨v1, rfl, ⟨ng, a, k, c, a', k', c', rfl, kv⟩, g4⟩
 have hz_w4 := g4.size
 replace HE := hid (HE.out.trans g4)
 replace HB_F := hid (HB_F.out.ext g4)
 replace HB_A := hid (HB_A.out.ext g4)
 replace HB_Z := hid (HB_Z.out.ext g4)
 replace HB_M := hid (HB_M.out.ext g4)
 clear kv
 have hfd : ∀ W, (Instr.field 112 (.agg #[.int .i64 kd, .bool sg, .bool ng, .slice a k c, .slice a' k' c']) 0).run Tryz.prog W = .ok (.int .i64 kd) W := fun W => by kernel_rfl
 obtain ⟨c_13, c_14⟩ := HB_Z.out.c2
 obtain ⟨f_15, f_16⟩ := HB_Z.out.f2
 go_wp2_with fail
 clear c_13 c_14 f_15 f_16
 obtain ⟨W5, hW5, g5, q5, B5, hy5, ho5⟩ := sto2 HE.out (by omega) HB_Z.out (by decide) (.int .u64 0) (.int .u64 0)
 rw [← hW5]
 clear hW5
 replace HE := hid g5
 replace HB_F := hid (ho5 _ _ _ (by omega) HB_F.out)
 replace HB_A := hid (ho5 _ _ _ (by omega) HB_A.out)
 replace HB_M := hid (ho5 _ _ _ (by omega) HB_M.out)
 replace HB_Z := hid B5
 obtain ⟨c_17, c_18⟩ := HB_Z.out.c2
 refine bodyPost_ret (v := .tuple #[.agg #[.int .u64 0, .int .u64 0], .int .i64 4]) (by simp [results, Tryz.results21, go_sem, c_17, c_18]) rfl ⟨rfl, HE.out⟩
set_option maxRecDepth 100000 in
set_option maxHeartbeats 4000000 in
theorem Next_same_u (E P n : Nat) (w : World) (hF : Fmt E P) (hn : n < 2 ^ (E + P)) (hk : wkind E P n ≤ 3) (hs : n = infw E P false) :
  Calls Tryz.prog 21 #[.agg #[.int .i64 (E : Nat), .int .i64 (P : Nat)], Word n, .bool true] w fun e w' => e = .returned (.tuple #[Word n, .int .i64 0]) ∧ Ext w w' := by
 obtain ⟨hE, hP, hb, hEP, hb1⟩ := fmt_bounds hF
 have hn8 : W128 n := w128_of hEP hn
 obtain ⟨i0, hi0⟩ : ∃ x : Nat, x = n / 18446744073709551616 := ⟨_, rfl⟩
 obtain ⟨i1, hi1⟩ : ∃ x : Nat, x = n % 18446744073709551616 := ⟨_, rfl⟩
 have ei : Word n = .agg #[.int .u64 i0, .int .u64 i1] := by unfold Word; rw [← hi0, ← hi1]
 obtain ⟨kd, hkd⟩ : ∃ x, x = wkind E P n := ⟨_, rfl⟩
 have CI : Hid (∀ w, Calls Tryz.prog 69 #[.agg #[.int .i64 (E : Nat), .int .i64 (P : Nat), .int .i64 0, .int .i64 (bias E : Nat)], .agg #[.int .u64 i0, .int .u64 i1]] w (LookPost kd (wn E P n) (wvalK E P (bias E) n) w)) := hid fun w => by
  rw [← ei, hkd]; exact look_c E P 0 (bias E) n w hF hb hn8
 have HW : Hid (withRes E P 0 [n] = .tuple #[.agg #[.int .i64 (E : Nat), .int .i64 (P : Nat), .int .i64 0, .int .i64 (bias E : Nat)], .int .i64 0]) := hid (by unfold withRes; rw [if_pos (fun x hx => by rw [List.mem_singleton] at hx; rw [hx]; exact hn)]; rfl)
 have hd : decide (4 ≤ kd) = false := decide_eq_false (by rw [hkd]; omega)
 obtain ⟨a0, a1, ea⟩ := Word.shape (infw E P false)
 have CIF : Hid (∀ w, Calls Tryz.prog 45 #[.agg #[.int .i64 (E : Nat), .int .i64 (P : Nat), .int .i64 0, .int .i64 (bias E : Nat)], .bool false] w fun e w' => e = .returned (.agg #[.int .u64 a0, .int .u64 a1]) ∧ Ext w w') := hid fun w => by
  have := infinite_c E P 0 (bias E) false w hF
  rwa [ea] at this
 obtain ⟨rfl, rfl⟩ : i0 = a0 ∧ i1 = a1 := by
  rw [hs, ea] at ei
  have h2 : ((a0 : Nat) : Int) = i0 ∧ ((a1 : Nat) : Int) = i1 := by simpa using ei
  omega
 rw [ei]
 have HF := hid hF; have HN := hid hn8; have HI0 := hid hi0; have HI1 := hid hi1
 clear hF hn hE hP hb hEP hb1 hn8 hi0 hi1 ei hkd hk hs ea
 obtain ⟨W0, hW0, g0, hz0, B_F, B_A, B_Z⟩ := pro3s w #[.int .i64 (E : Nat), .int .i64 (P : Nat)] #[.int .u64 i0, .int .u64 i1] #[.int .u64 0, .int .u64 0] 23 29 29
 have HE := hid g0
 have HB_F := hid B_F
 have HB_A := hid B_A
 have HB_Z := hid B_Z
 clear g0 B_F B_A B_Z 
 go_enter Tryz.func21, Tryz.ntmps21
 go_upto_region 1 with (fail)
 rw [← hW0]
 clear hW0
 obtain ⟨c_1, c_2⟩ := HB_F.out.c2
 obtain ⟨c_3, c_4⟩ := HB_A.out.c2
 obtain ⟨c_5, c_6⟩ := HB_Z.out.c2
 go_wp2_with fail
 clear c_1 c_2 c_3 c_4 c_5 c_6
 obtain ⟨W1, hW1, g1, hy1, B_R⟩ := pro1 W0 #[.int .u64 i0, .int .u64 i1] 29
 rw [← hW1]
 clear hW1
 have hz_W1 := g1.size
 replace HE := hid (HE.out.trans g1)
 replace HB_F := hid (HB_F.out.ext g1)
 replace HB_A := hid (HB_A.out.ext g1)
 replace HB_Z := hid (HB_Z.out.ext g1)
 have HB_R := hid B_R
 clear B_R
 have HWS : Hid (WSl W1 (.slice (some ⟨W0.heap.size, 0, none⟩) 1 1) [n]) := hid ⟨some ⟨W0.heap.size, 0, none⟩, W0.heap.size, 0, 1, rfl, Nat.le_refl _, by decide, fun _ => rfl, fun x hx => by
   rw [List.mem_singleton] at hx; rw [hx]; exact HN.out, fun i hi => by
   obtain rfl : i = 0 := by simpa using hi
   refine ⟨?_, ?_⟩
   ·have := HB_R.out.cell 0; rw [HI0.out] at this; exact this
   ·have := HB_R.out.cell 1; rw [HI1.out] at this; exact this⟩
 refine (with_good E P 0 _ [n] _ (by decide) HF.out HWS.out).mono ?_
 rintro e w2 ⟨rfl, g2⟩
 have hz_w2 := g2.size
 replace HE := hid (HE.out.trans g2)
 replace HB_F := hid (HB_F.out.ext g2)
 replace HB_A := hid (HB_A.out.ext g2)
 replace HB_Z := hid (HB_Z.out.ext g2)
 rw [HW.out]
 have gA := Ext.alloc w2 (.cells #[.int .i64 (E : Nat), .int .i64 (P : Nat), .int .i64 0, .int .i64 (bias E : Nat)] 81)
 obtain ⟨c_7, c_8⟩ := (HB_F.out.ext gA).c2
 obtain ⟨c_9, c_10⟩ := (HB_A.out.ext gA).c2
 obtain ⟨c_11, c_12⟩ := (HB_Z.out.ext gA).c2
 go_wp2_with fail
 clear gA c_7 c_8 c_9 c_10 c_11 c_12
 obtain ⟨W3, hW3, g3, hy3, B_M⟩ := pro1 w2 #[.int .i64 (E : Nat), .int .i64 (P : Nat), .int .i64 0, .int .i64 (bias E : Nat)] 81
 rw [← hW3]
 clear hW3
 have hz_W3 := g3.size
 replace HE := hid (HE.out.trans g3)
 replace HB_F := hid (HB_F.out.ext g3)
 replace HB_A := hid (HB_A.out.ext g3)
 replace HB_Z := hid (HB_Z.out.ext g3)
 have HB_M := hid B_M
 clear B_M
 generalize wn E P n = sg at *
 generalize wvalK E P (bias E) n = qv at *
 refine (CI.out _).mono ?_
 rintro e w4 ⟨v1, rfl, ⟨ng, a, k, c, a', k', c', rfl, kv⟩, g4⟩
 have hz_w4 := g4.size
 replace HE := hid (HE.out.trans g4)
 replace HB_F := hid (HB_F.out.ext g4)
 replace HB_A := hid (HB_A.out.ext g4)
 replace HB_Z := hid (HB_Z.out.ext g4)
 replace HB_M := hid (HB_M.out.ext g4)
 clear kv
 have hfd : ∀ W, (Instr.field 112 (.agg #[.int .i64 kd, .bool sg, .bool ng, .slice a k c, .slice a' k' c']) 0).run Tryz.prog W = .ok (.int .i64 kd) W := fun W => by kernel_rfl
 go_upto_region 6 with (fail)
 have HS : Hid (∀ w', Ext w4 w' → w'.cell? ⟨w.heap.size + 1, 0, none⟩ = some (.int .u64 i0) ∧ w'.cell? ⟨w.heap.size + 1, 1, none⟩ = some (.int .u64 i1) ∧ w'.cell? ⟨w2.heap.size, 0, none⟩ = some (.int .i64 (E : Nat)) ∧ w'.cell? ⟨w2.heap.size, 1, none⟩ = some (.int .i64 (P : Nat)) ∧ w'.cell? ⟨w2.heap.size, 2, none⟩ = some (.int .i64 0) ∧ w'.cell? ⟨w2.heap.size, 3, none⟩ = some (.int .i64 (bias E : Nat))) := hid fun w' h => ⟨(HB_A.out.ext h).cell 0, (HB_A.out.ext h).cell 1, (HB_M.out.ext h).cell 0, (HB_M.out.ext h).cell 1, (HB_M.out.ext h).cell 2, (HB_M.out.ext h).cell 3⟩
 have hb0 : Ext w4 w4.drew := Below.drew (Below.refl _ w4)
 refine wp_region_held_drew (S := fun w' => w'.cell? ⟨w.heap.size + 1, 0, none⟩ = some (.int .u64 i0) ∧ w'.cell? ⟨w.heap.size + 1, 1, none⟩ = some (.int .u64 i1) ∧ w'.cell? ⟨w2.heap.size, 0, none⟩ = some (.int .i64 (E : Nat)) ∧ w'.cell? ⟨w2.heap.size, 1, none⟩ = some (.int .i64 (P : Nat)) ∧ w'.cell? ⟨w2.heap.size, 2, none⟩ = some (.int .i64 0) ∧ w'.cell? ⟨w2.heap.size, 3, none⟩ = some (.int .i64 (bias E : Nat))) (by kernel_rfl) (HS.out _ hb0) (fun hHeld => ?_)
 refine wpAnyH_take (i := 0) (oi := { dst := some 32, op := Op.load 29 (Operand.tmp 4), type := 29, pos := "floats.go:390", after := #[], guard := none }) (v := ?_) rfl (by kernel_rfl) (by kernel_rfl) (by kernel_rfl) (fun _ _ _ h => h) (Or.inl ⟨by rfl, ?_⟩) (by assumption) ?_
 rotate_left
 ·intro w' hSw
  (try dsimp only at hSw)
  go_simp <;> with_reducible rfl
 try simp only [Act.put, List.setIfInBounds_toArray, List.set_cons_zero, List.set_cons_succ]
 refine wpAnyH_take (i := 1) (oi := { dst := some 33, op := Op.load 81 (Operand.tmp 8), type := 81, pos := "floats.go:390", after := #[], guard := none }) (v := ?_) rfl (by kernel_rfl) (by kernel_rfl) (by kernel_rfl) (fun _ _ _ h => h) (Or.inl ⟨by rfl, ?_⟩) (by assumption) ?_
 rotate_left
 ·intro w' hSw
  (try dsimp only at hSw)
  go_simp <;> with_reducible rfl
 try simp only [Act.put, List.setIfInBounds_toArray, List.set_cons_zero, List.set_cons_succ]
 refine wpAnyH_take (i := 2) (oi := { dst := some 34, op := Op.move (Operand.tmp 2), type := 4, pos := "floats.go:390", after := #[], guard := none }) (v := ?_) rfl (by kernel_rfl) (by kernel_rfl) (by kernel_rfl) (fun _ _ _ h => h) (Or.inl ⟨by rfl, ?_⟩) (by assumption) ?_
 rotate_left
 ·intro w' hSw
  (try dsimp only at hSw)
  go_simp <;> with_reducible rfl
 try simp only [Act.put, List.setIfInBounds_toArray, List.set_cons_zero, List.set_cons_succ]
 refine wpAnyH_take (i := 3) (oi := { dst := some 35, op := Op.unOp UnOp.not 4 (Operand.tmp 34), type := 4, pos := "floats.go:390", after := #[{ on := 2, ground := Ground.data }], guard := none }) (v := ?_) rfl (by kernel_rfl) (by kernel_rfl) (by kernel_rfl) (fun _ _ _ h => h) (Or.inl ⟨by rfl, ?_⟩) (by assumption) ?_
 rotate_left
 ·intro w' hSw
  (try dsimp only at hSw)
  go_simp <;> with_reducible rfl
 try simp only [Act.put, List.setIfInBounds_toArray, List.set_cons_zero, List.set_cons_succ]
 refine wpAnyH_ready (rs := [4]) (by kernel_rfl) (by simp) ?_
 refine AllReadyH.cons (o := { dst := some 36, op := Op.call { callee := Callee.value (Operand.func 45), args := #[Operand.tmp 33, Operand.tmp 35], argTypes := #[81, 4] }, type := 29, pos := "floats.go:390", after := #[{ on := 1, ground := Ground.data }, { on := 3, ground := Ground.data }], guard := none }) rfl (fun K hK => ?_) AllReadyH.nil
 go_simp
 refine (CIF.out _).mono ?_
 rintro e x13_1 ⟨rfl, g1⟩
 have hb1 : Ext w4 x13_1 := hb0.trans g1
 try dsimp only
 refine hK.out _ _ (HS.out _ hb1) ?_
 clear hHeld
 intro hHeld
 clear hK K
 try simp only [Act.put, List.setIfInBounds_toArray, List.set_cons_zero, List.set_cons_succ]
 refine wpAnyH_take (i := 5) (oi := { dst := some 37, op := Op.binOp BinOp.eql 29 (Operand.tmp 32) (Operand.tmp 36) 29, type := 4, pos := "floats.go:390", after := #[{ on := 0, ground := Ground.data }, { on := 4, ground := Ground.data }], guard := none }) (v := ?_) rfl (by kernel_rfl) (by kernel_rfl) (by kernel_rfl) (fun _ _ _ h => h) (Or.inl ⟨by rfl, ?_⟩) (by assumption) ?_
 rotate_left
 ·intro w' hSw
  (try dsimp only at hSw)
  go_simp <;> with_reducible rfl
 try simp only [Act.put, List.setIfInBounds_toArray, List.set_cons_zero, List.set_cons_succ]
 refine wpAnyH_take (i := 6) (oi := { dst := some 31, op := Op.assign (Operand.tmp 37), type := 4, pos := "floats.go:390", after := #[{ on := 5, ground := Ground.data }, { on := 4, ground := Ground.chain }], guard := none }) (v := ?_) rfl (by kernel_rfl) (by kernel_rfl) (by kernel_rfl) (fun _ _ _ h => h) (Or.inl ⟨by rfl, ?_⟩) (by assumption) ?_
 rotate_left
 ·intro w' hSw
  (try dsimp only at hSw)
  go_simp <;> with_reducible rfl
 try simp only [Act.put, List.setIfInBounds_toArray, List.set_cons_zero, List.set_cons_succ]
 refine wpAnyH_done (by kernel_rfl) ?_ _
 clear HS hHeld
 have hz_x13_1 := hb1.size
 replace HE := hid (HE.out.trans hb1)
 replace HB_F := hid (HB_F.out.ext hb1)
 replace HB_A := hid (HB_A.out.ext hb1)
 replace HB_Z := hid (HB_Z.out.ext hb1)
 replace HB_M := hid (HB_M.out.ext hb1)
 obtain ⟨c_14, c_15⟩ := HB_A.out.c2
 obtain ⟨c_16, c_17⟩ := HB_Z.out.c2
 obtain ⟨f_18, f_19⟩ := HB_Z.out.f2
 go_wp2_with fail
 clear c_14 c_15 c_16 c_17 f_18 f_19
 obtain ⟨W5, hW5, g5, q5, B5, hy5, ho5⟩ := sto2 HE.out (by omega) HB_Z.out (by decide) (.int .u64 i0) (.int .u64 i1)
 rw [← hW5]
 clear hW5
 replace HE := hid g5
 replace HB_F := hid (ho5 _ _ _ (by omega) HB_F.out)
 replace HB_A := hid (ho5 _ _ _ (by omega) HB_A.out)
 replace HB_M := hid (ho5 _ _ _ (by omega) HB_M.out)
 replace HB_Z := hid B5
 obtain ⟨c_20, c_21⟩ := HB_Z.out.c2
 refine bodyPost_ret (v := .tuple #[.agg #[.int .u64 i0, .int .u64 i1], .int .i64 0]) (by simp [results, Tryz.results21, go_sem, c_20, c_21]) rfl ⟨rfl, HE.out⟩
set_option maxRecDepth 100000 in
set_option maxHeartbeats 4000000 in
theorem Next_zero_u (E P n : Nat) (w : World) (hF : Fmt E P) (hn : n < 2 ^ (E + P)) (hk : wkind E P n ≤ 3) (hs : n ≠ infw E P false) (hr : rankZ E P n + 1 = 0) :
  Calls Tryz.prog 21 #[.agg #[.int .i64 (E : Nat), .int .i64 (P : Nat)], Word n, .bool true] w fun e w' => e = .returned (.tuple #[Word (sgb E P true), .int .i64 0]) ∧ Ext w w' := by
 obtain ⟨hE, hP, hb, hEP, hb1⟩ := fmt_bounds hF
 have hn8 : W128 n := w128_of hEP hn
 obtain ⟨i0, hi0⟩ : ∃ x : Nat, x = n / 18446744073709551616 := ⟨_, rfl⟩
 obtain ⟨i1, hi1⟩ : ∃ x : Nat, x = n % 18446744073709551616 := ⟨_, rfl⟩
 have ei : Word n = .agg #[.int .u64 i0, .int .u64 i1] := by unfold Word; rw [← hi0, ← hi1]
 obtain ⟨kd, hkd⟩ : ∃ x, x = wkind E P n := ⟨_, rfl⟩
 have CI : Hid (∀ w, Calls Tryz.prog 69 #[.agg #[.int .i64 (E : Nat), .int .i64 (P : Nat), .int .i64 0, .int .i64 (bias E : Nat)], .agg #[.int .u64 i0, .int .u64 i1]] w (LookPost kd (wn E P n) (wvalK E P (bias E) n) w)) := hid fun w => by
  rw [← ei, hkd]; exact look_c E P 0 (bias E) n w hF hb hn8
 have HW : Hid (withRes E P 0 [n] = .tuple #[.agg #[.int .i64 (E : Nat), .int .i64 (P : Nat), .int .i64 0, .int .i64 (bias E : Nat)], .int .i64 0]) := hid (by unfold withRes; rw [if_pos (fun x hx => by rw [List.mem_singleton] at hx; rw [hx]; exact hn)]; rfl)
 have hd : decide (4 ≤ kd) = false := decide_eq_false (by rw [hkd]; omega)
 obtain ⟨a0, a1, ea⟩ := Word.shape (infw E P false)
 have CIF : Hid (∀ w, Calls Tryz.prog 45 #[.agg #[.int .i64 (E : Nat), .int .i64 (P : Nat), .int .i64 0, .int .i64 (bias E : Nat)], .bool false] w fun e w' => e = .returned (.agg #[.int .u64 a0, .int .u64 a1]) ∧ Ext w w') := hid fun w => by
  have := infinite_c E P 0 (bias E) false w hF
  rwa [ea] at this
 have hne : (i0 ≠ a0) ∨ (i0 = a0 ∧ i1 ≠ a1) := by
  by_cases h0 : i0 = a0
  ·right; refine ⟨h0, fun h1 => hs ?_⟩
   have e2 : Word n = Word (infw E P false) := by rw [ei, ea, h0, h1]
   exact Word.inj e2
  ·left; exact h0
 obtain ⟨r0, r1, er⟩ := Word.shape (sgb E P true)
 have CK : Hid (∀ w, Calls Tryz.prog 70 #[.agg #[.int .i64 (E : Nat), .int .i64 (P : Nat), .int .i64 0, .int .i64 (bias E : Nat)], .agg #[.int .u64 i0, .int .u64 i1]] w fun e w' => ∃ v, e = .returned v ∧ NumV w' v ((rankZ E P n : Int) : Rat) ∧ Ext w w') := hid fun w => by
  have := rank_c E P 0 (bias E) n w hF hb hn8
  rwa [ei] at this
 have b0 := rankZ_lt (n := n) hEP
 obtain ⟨z, hz⟩ : ∃ z, z = rankZ E P n := ⟨_, rfl⟩
 rw [← hz] at CK b0 hr 
 obtain ⟨t, ht⟩ : ∃ t, t = z + 1 := ⟨_, rfl⟩
 rw [← ht] at hr 
 have et : ((z : Int) : Rat) + ((1 : Int) : Rat) = ((t : Int) : Rat) := by rw [ht, Rat.intCast_add]
 have tb : t.natAbs < 2 ^ 124 + 1 := by omega
 have CI1 : Hid (∀ w, _) := hid fun w => Int_c 1 w (by decide) (by decide)
 have CAD : Hid (∀ u v w, NumV w u ((z : Int) : Rat) → NumV w v ((1 : Int) : Rat) → Calls Tryz.prog 83 #[u, v] w fun e w' => ∃ x, e = .returned x ∧ NumV w' x ((t : Int) : Rat) ∧ Ext w w') := hid fun u v w h k => by
  have := Add_c u v _ _ 124 w h k (SmQ.int (by decide) b0) (SmQ.int (by decide) (by decide)) (by decide)
  rwa [et] at this
 obtain ⟨sgn, hsgn⟩ : ∃ s, s = t.sign := ⟨_, rfl⟩
 have CSG : Hid (∀ v w, NumV w v ((t : Int) : Rat) → Calls Tryz.prog 27 #[v] w fun e w' => e = .returned (.int .i64 sgn) ∧ Ext w w') := hid fun v w h => by rw [hsgn]; exact sign_c v _ w h
 obtain rfl : sgn = 0 := by rw [hsgn, hr]; rfl
 have CX : Hid (∀ w, Calls Tryz.prog 43 #[.agg #[.int .i64 (E : Nat), .int .i64 (P : Nat), .int .i64 0, .int .i64 (bias E : Nat)], .bool true] w fun e w' => e = .returned (.agg #[.int .u64 r0, .int .u64 r1]) ∧ Ext w w') := hid fun w => by
  have := zero_c E P 0 (bias E) true w hF
  rwa [er] at this
 rw [er]
 rw [ei]
 have HF := hid hF; have HN := hid hn8; have HI0 := hid hi0; have HI1 := hid hi1
 clear hF hn hE hP hb hEP hb1 hn8 hi0 hi1 ei hkd hr hk hs ea er hz ht et b0 tb hsgn
 obtain ⟨W0, hW0, g0, hz0, B_F, B_A, B_Z⟩ := pro3s w #[.int .i64 (E : Nat), .int .i64 (P : Nat)] #[.int .u64 i0, .int .u64 i1] #[.int .u64 0, .int .u64 0] 23 29 29
 have HE := hid g0
 have HB_F := hid B_F
 have HB_A := hid B_A
 have HB_Z := hid B_Z
 clear g0 B_F B_A B_Z 
 go_enter Tryz.func21, Tryz.ntmps21
 go_upto_region 1 with (fail)
 rw [← hW0]
 clear hW0
 obtain ⟨c_1, c_2⟩ := HB_F.out.c2
 obtain ⟨c_3, c_4⟩ := HB_A.out.c2
 obtain ⟨c_5, c_6⟩ := HB_Z.out.c2
 go_wp2_with fail
 clear c_1 c_2 c_3 c_4 c_5 c_6
 obtain ⟨W1, hW1, g1, hy1, B_R⟩ := pro1 W0 #[.int .u64 i0, .int .u64 i1] 29
 rw [← hW1]
 clear hW1
 have hz_W1 := g1.size
 replace HE := hid (HE.out.trans g1)
 replace HB_F := hid (HB_F.out.ext g1)
 replace HB_A := hid (HB_A.out.ext g1)
 replace HB_Z := hid (HB_Z.out.ext g1)
 have HB_R := hid B_R
 clear B_R
 have HWS : Hid (WSl W1 (.slice (some ⟨W0.heap.size, 0, none⟩) 1 1) [n]) := hid ⟨some ⟨W0.heap.size, 0, none⟩, W0.heap.size, 0, 1, rfl, Nat.le_refl _, by decide, fun _ => rfl, fun x hx => by
   rw [List.mem_singleton] at hx; rw [hx]; exact HN.out, fun i hi => by
   obtain rfl : i = 0 := by simpa using hi
   refine ⟨?_, ?_⟩
   ·have := HB_R.out.cell 0; rw [HI0.out] at this; exact this
   ·have := HB_R.out.cell 1; rw [HI1.out] at this; exact this⟩
 refine (with_good E P 0 _ [n] _ (by decide) HF.out HWS.out).mono ?_
 rintro e w2 ⟨rfl, g2⟩
 have hz_w2 := g2.size
 replace HE := hid (HE.out.trans g2)
 replace HB_F := hid (HB_F.out.ext g2)
 replace HB_A := hid (HB_A.out.ext g2)
 replace HB_Z := hid (HB_Z.out.ext g2)
 rw [HW.out]
 have gA := Ext.alloc w2 (.cells #[.int .i64 (E : Nat), .int .i64 (P : Nat), .int .i64 0, .int .i64 (bias E : Nat)] 81)
 obtain ⟨c_7, c_8⟩ := (HB_F.out.ext gA).c2
 obtain ⟨c_9, c_10⟩ := (HB_A.out.ext gA).c2
 obtain ⟨c_11, c_12⟩ := (HB_Z.out.ext gA).c2
 go_wp2_with fail
 clear gA c_7 c_8 c_9 c_10 c_11 c_12
 obtain ⟨W3, hW3, g3, hy3, B_M⟩ := pro1 w2 #[.int .i64 (E : Nat), .int .i64 (P : Nat), .int .i64 0, .int .i64 (bias E : Nat)] 81
 rw [← hW3]
 clear hW3
 have hz_W3 := g3.size
 replace HE := hid (HE.out.trans g3)
 replace HB_F := hid (HB_F.out.ext g3)
 replace HB_A := hid (HB_A.out.ext g3)
 replace HB_Z := hid (HB_Z.out.ext g3)
 have HB_M := hid B_M
 clear B_M
 generalize wn E P n = sg at *
 generalize wvalK E P (bias E) n = qv at *
 refine (CI.out _).mono ?_
 rintro e w4 ⟨v1, rfl, ⟨ng, a, k, c, a', k', c', rfl, kv⟩, g4⟩
 have hz_w4 := g4.size
 replace HE := hid (HE.out.trans g4)
 replace HB_F := hid (HB_F.out.ext g4)
 replace HB_A := hid (HB_A.out.ext g4)
 replace HB_Z := hid (HB_Z.out.ext g4)
 replace HB_M := hid (HB_M.out.ext g4)
 clear kv
 have hfd : ∀ W, (Instr.field 112 (.agg #[.int .i64 kd, .bool sg, .bool ng, .slice a k c, .slice a' k' c']) 0).run Tryz.prog W = .ok (.int .i64 kd) W := fun W => by kernel_rfl
 go_upto_region 6 with (fail)
 go_cut [31] (fun sv wx => sv = .bool false ∧ Hid (Ext w4 wx))
 case first =>
  rcases hne with h | ⟨h, h2⟩
  ·have hq : ¬ ((i0 : Nat) : Int) = (a0 : Int) := by omega
   clear h
   have HS : Hid (∀ w', Ext w4 w' → w'.cell? ⟨w.heap.size + 1, 0, none⟩ = some (.int .u64 i0) ∧ w'.cell? ⟨w.heap.size + 1, 1, none⟩ = some (.int .u64 i1) ∧ w'.cell? ⟨w2.heap.size, 0, none⟩ = some (.int .i64 (E : Nat)) ∧ w'.cell? ⟨w2.heap.size, 1, none⟩ = some (.int .i64 (P : Nat)) ∧ w'.cell? ⟨w2.heap.size, 2, none⟩ = some (.int .i64 0) ∧ w'.cell? ⟨w2.heap.size, 3, none⟩ = some (.int .i64 (bias E : Nat))) := hid fun w' h => ⟨(HB_A.out.ext h).cell 0, (HB_A.out.ext h).cell 1, (HB_M.out.ext h).cell 0, (HB_M.out.ext h).cell 1, (HB_M.out.ext h).cell 2, (HB_M.out.ext h).cell 3⟩
   have hb0 : Ext w4 w4.drew := Below.drew (Below.refl _ w4)
   refine wp_region_held_drew (S := fun w' => w'.cell? ⟨w.heap.size + 1, 0, none⟩ = some (.int .u64 i0) ∧ w'.cell? ⟨w.heap.size + 1, 1, none⟩ = some (.int .u64 i1) ∧ w'.cell? ⟨w2.heap.size, 0, none⟩ = some (.int .i64 (E : Nat)) ∧ w'.cell? ⟨w2.heap.size, 1, none⟩ = some (.int .i64 (P : Nat)) ∧ w'.cell? ⟨w2.heap.size, 2, none⟩ = some (.int .i64 0) ∧ w'.cell? ⟨w2.heap.size, 3, none⟩ = some (.int .i64 (bias E : Nat))) (by kernel_rfl) (HS.out _ hb0) (fun hHeld => ?_)
   refine wpAnyH_take (i := 0) (oi := { dst := some 32, op := Op.load 29 (Operand.tmp 4), type := 29, pos := "floats.go:390", after := #[], guard := none }) (v := ?_) rfl (by kernel_rfl) (by kernel_rfl) (by kernel_rfl) (fun _ _ _ h => h) (Or.inl ⟨by rfl, ?_⟩) (by assumption) ?_
   rotate_left
   ·intro w' hSw
    (try dsimp only at hSw)
    go_simp <;> with_reducible rfl
   try simp only [Act.put, List.setIfInBounds_toArray, List.set_cons_zero, List.set_cons_succ]
   refine wpAnyH_take (i := 1) (oi := { dst := some 33, op := Op.load 81 (Operand.tmp 8), type := 81, pos := "floats.go:390", after := #[], guard := none }) (v := ?_) rfl (by kernel_rfl) (by kernel_rfl) (by kernel_rfl) (fun _ _ _ h => h) (Or.inl ⟨by rfl, ?_⟩) (by assumption) ?_
   rotate_left
   ·intro w' hSw
    (try dsimp only at hSw)
    go_simp <;> with_reducible rfl
   try simp only [Act.put, List.setIfInBounds_toArray, List.set_cons_zero, List.set_cons_succ]
   refine wpAnyH_take (i := 2) (oi := { dst := some 34, op := Op.move (Operand.tmp 2), type := 4, pos := "floats.go:390", after := #[], guard := none }) (v := ?_) rfl (by kernel_rfl) (by kernel_rfl) (by kernel_rfl) (fun _ _ _ h => h) (Or.inl ⟨by rfl, ?_⟩) (by assumption) ?_
   rotate_left
   ·intro w' hSw
    (try dsimp only at hSw)
    go_simp <;> with_reducible rfl
   try simp only [Act.put, List.setIfInBounds_toArray, List.set_cons_zero, List.set_cons_succ]
   refine wpAnyH_take (i := 3) (oi := { dst := some 35, op := Op.unOp UnOp.not 4 (Operand.tmp 34), type := 4, pos := "floats.go:390", after := #[{ on := 2, ground := Ground.data }], guard := none }) (v := ?_) rfl (by kernel_rfl) (by kernel_rfl) (by kernel_rfl) (fun _ _ _ h => h) (Or.inl ⟨by rfl, ?_⟩) (by assumption) ?_
   rotate_left
   ·intro w' hSw
    (try dsimp only at hSw)
    go_simp <;> with_reducible rfl
   try simp only [Act.put, List.setIfInBounds_toArray, List.set_cons_zero, List.set_cons_succ]
   refine wpAnyH_ready (rs := [4]) (by kernel_rfl) (by simp) ?_
   refine AllReadyH.cons (o := { dst := some 36, op := Op.call { callee := Callee.value (Operand.func 45), args := #[Operand.tmp 33, Operand.tmp 35], argTypes := #[81, 4] }, type := 29, pos := "floats.go:390", after := #[{ on := 1, ground := Ground.data }, { on := 3, ground := Ground.data }], guard := none }) rfl (fun K hK => ?_) AllReadyH.nil
   go_simp
   refine (CIF.out _).mono ?_
   rintro e x13_1 ⟨rfl, g1⟩
   have hb1 : Ext w4 x13_1 := hb0.trans g1
   try dsimp only
   refine hK.out _ _ (HS.out _ hb1) ?_
   clear hHeld
   intro hHeld
   clear hK K
   try simp only [Act.put, List.setIfInBounds_toArray, List.set_cons_zero, List.set_cons_succ]
   refine wpAnyH_take (i := 5) (oi := { dst := some 37, op := Op.binOp BinOp.eql 29 (Operand.tmp 32) (Operand.tmp 36) 29, type := 4, pos := "floats.go:390", after := #[{ on := 0, ground := Ground.data }, { on := 4, ground := Ground.data }], guard := none }) (v := ?_) rfl (by kernel_rfl) (by kernel_rfl) (by kernel_rfl) (fun _ _ _ h => h) (Or.inl ⟨by rfl, ?_⟩) (by assumption) ?_
   rotate_left
   ·intro w' hSw
    (try dsimp only at hSw)
    go_simp <;> with_reducible rfl
   try simp only [Act.put, List.setIfInBounds_toArray, List.set_cons_zero, List.set_cons_succ]
   refine wpAnyH_take (i := 6) (oi := { dst := some 31, op := Op.assign (Operand.tmp 37), type := 4, pos := "floats.go:390", after := #[{ on := 5, ground := Ground.data }, { on := 4, ground := Ground.chain }], guard := none }) (v := ?_) rfl (by kernel_rfl) (by kernel_rfl) (by kernel_rfl) (fun _ _ _ h => h) (Or.inl ⟨by rfl, ?_⟩) (by assumption) ?_
   rotate_left
   ·intro w' hSw
    (try dsimp only at hSw)
    go_simp <;> with_reducible rfl
   try simp only [Act.put, List.setIfInBounds_toArray, List.set_cons_zero, List.set_cons_succ]
   refine wpAnyH_done (by kernel_rfl) ?_ _
   clear HS hHeld
   go_wp2_with fail
   go_meet
   exact ⟨rfl, hid hb1⟩
  ·subst h
   have hq : ¬ ((i1 : Nat) : Int) = (a1 : Int) := by omega
   clear h2
   have HS : Hid (∀ w', Ext w4 w' → w'.cell? ⟨w.heap.size + 1, 0, none⟩ = some (.int .u64 i0) ∧ w'.cell? ⟨w.heap.size + 1, 1, none⟩ = some (.int .u64 i1) ∧ w'.cell? ⟨w2.heap.size, 0, none⟩ = some (.int .i64 (E : Nat)) ∧ w'.cell? ⟨w2.heap.size, 1, none⟩ = some (.int .i64 (P : Nat)) ∧ w'.cell? ⟨w2.heap.size, 2, none⟩ = some (.int .i64 0) ∧ w'.cell? ⟨w2.heap.size, 3, none⟩ = some (.int .i64 (bias E : Nat))) := hid fun w' h => ⟨(HB_A.out.ext h).cell 0, (HB_A.out.ext h).cell 1, (HB_M.out.ext h).cell 0, (HB_M.out.ext h).cell 1, (HB_M.out.ext h).cell 2, (HB_M.out.ext h).cell 3⟩
   have hb0 : Ext w4 w4.drew := Below.drew (Below.refl _ w4)
   refine wp_region_held_drew (S := fun w' => w'.cell? ⟨w.heap.size + 1, 0, none⟩ = some (.int .u64 i0) ∧ w'.cell? ⟨w.heap.size + 1, 1, none⟩ = some (.int .u64 i1) ∧ w'.cell? ⟨w2.heap.size, 0, none⟩ = some (.int .i64 (E : Nat)) ∧ w'.cell? ⟨w2.heap.size, 1, none⟩ = some (.int .i64 (P : Nat)) ∧ w'.cell? ⟨w2.heap.size, 2, none⟩ = some (.int .i64 0) ∧ w'.cell? ⟨w2.heap.size, 3, none⟩ = some (.int .i64 (bias E : Nat))) (by kernel_rfl) (HS.out _ hb0) (fun hHeld => ?_)
   refine wpAnyH_take (i := 0) (oi := { dst := some 32, op := Op.load 29 (Operand.tmp 4), type := 29, pos := "floats.go:390", after := #[], guard := none }) (v := ?_) rfl (by kernel_rfl) (by kernel_rfl) (by kernel_rfl) (fun _ _ _ h => h) (Or.inl ⟨by rfl, ?_⟩) (by assumption) ?_
   rotate_left
   ·intro w' hSw
    (try dsimp only at hSw)
    go_simp <;> with_reducible rfl
   try simp only [Act.put, List.setIfInBounds_toArray, List.set_cons_zero, List.set_cons_succ]
   refine wpAnyH_take (i := 1) (oi := { dst := some 33, op := Op.load 81 (Operand.tmp 8), type := 81, pos := "floats.go:390", after := #[], guard := none }) (v := ?_) rfl (by kernel_rfl) (by kernel_rfl) (by kernel_rfl) (fun _ _ _ h => h) (Or.inl ⟨by rfl, ?_⟩) (by assumption) ?_
   rotate_left
   ·intro w' hSw
    (try dsimp only at hSw)
    go_simp <;> with_reducible rfl
   try simp only [Act.put, List.setIfInBounds_toArray, List.set_cons_zero, List.set_cons_succ]
   refine wpAnyH_take (i := 2) (oi := { dst := some 34, op := Op.move (Operand.tmp 2), type := 4, pos := "floats.go:390", after := #[], guard := none }) (v := ?_) rfl (by kernel_rfl) (by kernel_rfl) (by kernel_rfl) (fun _ _ _ h => h) (Or.inl ⟨by rfl, ?_⟩) (by assumption) ?_
   rotate_left
   ·intro w' hSw
    (try dsimp only at hSw)
    go_simp <;> with_reducible rfl
   try simp only [Act.put, List.setIfInBounds_toArray, List.set_cons_zero, List.set_cons_succ]
   refine wpAnyH_take (i := 3) (oi := { dst := some 35, op := Op.unOp UnOp.not 4 (Operand.tmp 34), type := 4, pos := "floats.go:390", after := #[{ on := 2, ground := Ground.data }], guard := none }) (v := ?_) rfl (by kernel_rfl) (by kernel_rfl) (by kernel_rfl) (fun _ _ _ h => h) (Or.inl ⟨by rfl, ?_⟩) (by assumption) ?_
   rotate_left
   ·intro w' hSw
    (try dsimp only at hSw)
    go_simp <;> with_reducible rfl
   try simp only [Act.put, List.setIfInBounds_toArray, List.set_cons_zero, List.set_cons_succ]
   refine wpAnyH_ready (rs := [4]) (by kernel_rfl) (by simp) ?_
   refine AllReadyH.cons (o := { dst := some 36, op := Op.call { callee := Callee.value (Operand.func 45), args := #[Operand.tmp 33, Operand.tmp 35], argTypes := #[81, 4] }, type := 29, pos := "floats.go:390", after := #[{ on := 1, ground := Ground.data }, { on := 3, ground := Ground.data }], guard := none }) rfl (fun K hK => ?_) AllReadyH.nil
   go_simp
   refine (CIF.out _).mono ?_
   rintro e x13_1 ⟨rfl, g1⟩
   have hb1 : Ext w4 x13_1 := hb0.trans g1
   try dsimp only
   refine hK.out _ _ (HS.out _ hb1) ?_
   clear hHeld
   intro hHeld
   clear hK K
   try simp only [Act.put, List.setIfInBounds_toArray, List.set_cons_zero, List.set_cons_succ]
   refine wpAnyH_take (i := 5) (oi := { dst := some 37, op := Op.binOp BinOp.eql 29 (Operand.tmp 32) (Operand.tmp 36) 29, type := 4, pos := "floats.go:390", after := #[{ on := 0, ground := Ground.data }, { on := 4, ground := Ground.data }], guard := none }) (v := ?_) rfl (by kernel_rfl) (by kernel_rfl) (by kernel_rfl) (fun _ _ _ h => h) (Or.inl ⟨by rfl, ?_⟩) (by assumption) ?_
   rotate_left
   ·intro w' hSw
    (try dsimp only at hSw)
    go_simp <;> with_reducible rfl
   try simp only [Act.put, List.setIfInBounds_toArray, List.set_cons_zero, List.set_cons_succ]
   refine wpAnyH_take (i := 6) (oi := { dst := some 31, op := Op.assign (Operand.tmp 37), type := 4, pos := "floats.go:390", after := #[{ on := 5, ground := Ground.data }, { on := 4, ground := Ground.chain }], guard := none }) (v := ?_) rfl (by kernel_rfl) (by kernel_rfl) (by kernel_rfl) (fun _ _ _ h => h) (Or.inl ⟨by rfl, ?_⟩) (by assumption) ?_
   rotate_left
   ·intro w' hSw
    (try dsimp only at hSw)
    go_simp <;> with_reducible rfl
   try simp only [Act.put, List.setIfInBounds_toArray, List.set_cons_zero, List.set_cons_succ]
   refine wpAnyH_done (by kernel_rfl) ?_ _
   clear HS hHeld
   go_wp2_with fail
   go_meet
   exact ⟨rfl, hid hb1⟩
 case rest =>
  obtain ⟨rfl, gx6⟩ := hcut
  clear hne
  have hz_wc := gx6.out.size
  replace HE := hid (HE.out.trans gx6.out)
  replace HB_F := hid (HB_F.out.ext gx6.out)
  replace HB_A := hid (HB_A.out.ext gx6.out)
  replace HB_Z := hid (HB_Z.out.ext gx6.out)
  replace HB_M := hid (HB_M.out.ext gx6.out)
  obtain ⟨c_13, c_14⟩ := HB_F.out.c2
  obtain ⟨c_15, c_16⟩ := HB_A.out.c2
  obtain ⟨c_17, c_18⟩ := HB_Z.out.c2
  obtain ⟨c_19, c_20, c_21, c_22⟩ := HB_M.out.c4
  go_wp2_with fail
  clear c_13 c_14 c_15 c_16 c_17 c_18 c_19 c_20 c_21 c_22
  refine (CI1.out _).mono ?_
  rintro e w5 ⟨v5, rfl, k5, g5⟩
  have hz_w5 := g5.size
  replace HE := hid (HE.out.trans g5)
  replace HB_F := hid (HB_F.out.ext g5)
  replace HB_A := hid (HB_A.out.ext g5)
  replace HB_Z := hid (HB_Z.out.ext g5)
  replace HB_M := hid (HB_M.out.ext g5)
  obtain ⟨ngq23, aq23, nq23, cq23, aq23', nq23', cq23', rfl⟩ := k5.shape
  have gA := Ext.alloc w5 (.cells #[.bool ngq23, .slice aq23 nq23 cq23, .slice aq23' nq23' cq23'] 40)
  obtain ⟨c_24, c_25⟩ := (HB_F.out.ext gA).c2
  obtain ⟨c_26, c_27⟩ := (HB_A.out.ext gA).c2
  obtain ⟨c_28, c_29⟩ := (HB_Z.out.ext gA).c2
  obtain ⟨c_30, c_31, c_32, c_33⟩ := (HB_M.out.ext gA).c4
  go_wp2_with fail
  clear gA c_24 c_25 c_26 c_27 c_28 c_29 c_30 c_31 c_32 c_33
  obtain ⟨W6, hW6, g6, hy6, B_N⟩ := pro1 w5 #[.bool ngq23, .slice aq23 nq23 cq23, .slice aq23' nq23' cq23'] 40
  rw [← hW6]
  clear hW6
  have hz_W6 := g6.size
  replace HE := hid (HE.out.trans g6)
  replace HB_F := hid (HB_F.out.ext g6)
  replace HB_A := hid (HB_A.out.ext g6)
  replace HB_Z := hid (HB_Z.out.ext g6)
  replace HB_M := hid (HB_M.out.ext g6)
  replace k5 := k5.ext g6
  have HB_N := hid B_N
  clear B_N
  have HS : Hid (∀ w', Ext W6 w' → w'.cell? ⟨w2.heap.size, 0, none⟩ = some (.int .i64 (E : Nat)) ∧ w'.cell? ⟨w2.heap.size, 1, none⟩ = some (.int .i64 (P : Nat)) ∧ w'.cell? ⟨w2.heap.size, 2, none⟩ = some (.int .i64 0) ∧ w'.cell? ⟨w2.heap.size, 3, none⟩ = some (.int .i64 (bias E : Nat)) ∧ w'.cell? ⟨w.heap.size + 1, 0, none⟩ = some (.int .u64 i0) ∧ w'.cell? ⟨w.heap.size + 1, 1, none⟩ = some (.int .u64 i1) ∧ w'.cell? ⟨w5.heap.size, 0, none⟩ = some (.bool ngq23) ∧ w'.cell? ⟨w5.heap.size, 1, none⟩ = some (.slice aq23 nq23 cq23) ∧ w'.cell? ⟨w5.heap.size, 2, none⟩ = some (.slice aq23' nq23' cq23')) := hid fun w' h => ⟨(HB_M.out.ext h).cell 0, (HB_M.out.ext h).cell 1, (HB_M.out.ext h).cell 2, (HB_M.out.ext h).cell 3, (HB_A.out.ext h).cell 0, (HB_A.out.ext h).cell 1, (HB_N.out.ext h).cell 0, (HB_N.out.ext h).cell 1, (HB_N.out.ext h).cell 2⟩
  have hlt_M : w2.heap.size < W6.heap.size := cell_lt HB_M.out
  have hlt_A : w.heap.size + 1 < W6.heap.size := cell_lt HB_A.out
  have hlt_N : w5.heap.size < W6.heap.size := cell_lt HB_N.out
  have HSN : Hid (∀ (g : Nat) (v0 v1 v2 : Value) (w' : World), W6.heap.size ≤ g → Ext W6 w' → (((w'.setCell ⟨g, 0, none⟩ v0).setCell ⟨g, 1, none⟩ v1).setCell ⟨g, 2, none⟩ v2).cell? ⟨w2.heap.size, 0, none⟩ = some (.int .i64 (E : Nat)) ∧ (((w'.setCell ⟨g, 0, none⟩ v0).setCell ⟨g, 1, none⟩ v1).setCell ⟨g, 2, none⟩ v2).cell? ⟨w2.heap.size, 1, none⟩ = some (.int .i64 (P : Nat)) ∧ (((w'.setCell ⟨g, 0, none⟩ v0).setCell ⟨g, 1, none⟩ v1).setCell ⟨g, 2, none⟩ v2).cell? ⟨w2.heap.size, 2, none⟩ = some (.int .i64 0) ∧ (((w'.setCell ⟨g, 0, none⟩ v0).setCell ⟨g, 1, none⟩ v1).setCell ⟨g, 2, none⟩ v2).cell? ⟨w2.heap.size, 3, none⟩ = some (.int .i64 (bias E : Nat)) ∧ (((w'.setCell ⟨g, 0, none⟩ v0).setCell ⟨g, 1, none⟩ v1).setCell ⟨g, 2, none⟩ v2).cell? ⟨w.heap.size + 1, 0, none⟩ = some (.int .u64 i0) ∧ (((w'.setCell ⟨g, 0, none⟩ v0).setCell ⟨g, 1, none⟩ v1).setCell ⟨g, 2, none⟩ v2).cell? ⟨w.heap.size + 1, 1, none⟩ = some (.int .u64 i1) ∧ (((w'.setCell ⟨g, 0, none⟩ v0).setCell ⟨g, 1, none⟩ v1).setCell ⟨g, 2, none⟩ v2).cell? ⟨w5.heap.size, 0, none⟩ = some (.bool ngq23) ∧ (((w'.setCell ⟨g, 0, none⟩ v0).setCell ⟨g, 1, none⟩ v1).setCell ⟨g, 2, none⟩ v2).cell? ⟨w5.heap.size, 1, none⟩ = some (.slice aq23 nq23 cq23) ∧ (((w'.setCell ⟨g, 0, none⟩ v0).setCell ⟨g, 1, none⟩ v1).setCell ⟨g, 2, none⟩ v2).cell? ⟨w5.heap.size, 2, none⟩ = some (.slice aq23' nq23' cq23')) := hid fun g v0 v1 v2 w' hg h => ⟨(cell_other (show w2.heap.size ≠ g by omega) (cell_other (show w2.heap.size ≠ g by omega) (cell_other (show w2.heap.size ≠ g by omega) ((HB_M.out.ext h).cell 0)))), (cell_other (show w2.heap.size ≠ g by omega) (cell_other (show w2.heap.size ≠ g by omega) (cell_other (show w2.heap.size ≠ g by omega) ((HB_M.out.ext h).cell 1)))), (cell_other (show w2.heap.size ≠ g by omega) (cell_other (show w2.heap.size ≠ g by omega) (cell_other (show w2.heap.size ≠ g by omega) ((HB_M.out.ext h).cell 2)))), (cell_other (show w2.heap.size ≠ g by omega) (cell_other (show w2.heap.size ≠ g by omega) (cell_other (show w2.heap.size ≠ g by omega) ((HB_M.out.ext h).cell 3)))), (cell_other (show w.heap.size + 1 ≠ g by omega) (cell_other (show w.heap.size + 1 ≠ g by omega) (cell_other (show w.heap.size + 1 ≠ g by omega) ((HB_A.out.ext h).cell 0)))), (cell_other (show w.heap.size + 1 ≠ g by omega) (cell_other (show w.heap.size + 1 ≠ g by omega) (cell_other (show w.heap.size + 1 ≠ g by omega) ((HB_A.out.ext h).cell 1)))), (cell_other (show w5.heap.size ≠ g by omega) (cell_other (show w5.heap.size ≠ g by omega) (cell_other (show w5.heap.size ≠ g by omega) ((HB_N.out.ext h).cell 0)))), (cell_other (show w5.heap.size ≠ g by omega) (cell_other (show w5.heap.size ≠ g by omega) (cell_other (show w5.heap.size ≠ g by omega) ((HB_N.out.ext h).cell 1)))), (cell_other (show w5.heap.size ≠ g by omega) (cell_other (show w5.heap.size ≠ g by omega) (cell_other (show w5.heap.size ≠ g by omega) ((HB_N.out.ext h).cell 2))))⟩
  clear hlt_M hlt_A hlt_N
  have hb0 : Ext W6 W6.drew := Below.drew (Below.refl _ W6)
  have HNEW := hid newFacts
  go_cut [11] (fun sv wx => ∃ g : Nat, sv = .pointer (some ⟨g, 0, none⟩) ∧ Hid (Ext W6 wx) ∧ W6.heap.size ≤ g ∧ NumBox wx g (((t : Int) : Rat)))
  case first =>
   go_region_held3 (fun w' => w'.cell? ⟨w2.heap.size, 0, none⟩ = some (.int .i64 (E : Nat)) ∧ w'.cell? ⟨w2.heap.size, 1, none⟩ = some (.int .i64 (P : Nat)) ∧ w'.cell? ⟨w2.heap.size, 2, none⟩ = some (.int .i64 0) ∧ w'.cell? ⟨w2.heap.size, 3, none⟩ = some (.int .i64 (bias E : Nat)) ∧ w'.cell? ⟨w.heap.size + 1, 0, none⟩ = some (.int .u64 i0) ∧ w'.cell? ⟨w.heap.size + 1, 1, none⟩ = some (.int .u64 i1) ∧ w'.cell? ⟨w5.heap.size, 0, none⟩ = some (.bool ngq23) ∧ w'.cell? ⟨w5.heap.size, 1, none⟩ = some (.slice aq23 nq23 cq23) ∧ w'.cell? ⟨w5.heap.size, 2, none⟩ = some (.slice aq23' nq23' cq23'))
     (first | exact HS.out _ (by assumption) | exact HS.out _ (Ext.trans (by assumption) (Ext.alloc _ _)) | exact HSN.out _ _ _ _ _ (by first | omega | (simp only [World.size_drew]; omega)) (by assumption) | exact HSN.out _ _ _ _ _ (by first | omega | (simp only [World.size_drew]; omega)) (Ext.trans (by assumption) (Ext.alloc _ _)))
    (first
      | (go_at_call 70; (with_reducible refine (CK.out _).mono ?_); rintro e x34_1 ⟨v7, rfl, m7, g1⟩; have hb1 : Ext W6 x34_1 := (by first | exact hb0.trans g1 | exact (hb0.trans (Ext.alloc _ _)).trans g1); have hs1 := hb1.size)
      | (go_at_call 83; (with_reducible refine (CAD.out _ _ _ (by first | exact m7 | exact (m7).ext (Ext.alloc _ _)) (by first | exact k5.ext hb1 | exact (k5.ext hb1).ext (Ext.alloc _ _))).mono ?_); rintro e x34_2 ⟨v8, rfl, m8, g2⟩; have hb2 : Ext W6 x34_2 := (by first | exact hb1.trans g2 | exact (hb1.trans (Ext.alloc _ _)).trans g2); have hs2 := hb2.size; obtain ⟨ng8, a8, n8, c8, a8', n8', c8', rfl⟩ := m8.shape; (first | (have yy := HNEW.out _ _ g2; (try simp only [World.size_drew] at yy); obtain ⟨y0, y1, y2, y3, y4, y5⟩ := yy) | (have yy := HNEW.out _ _ ((Ext.undrew g1).trans g2); (try simp only [World.size_drew] at yy); obtain ⟨y0, y1, y2, y3, y4, y5⟩ := yy) | (obtain ⟨y0, y1, y2, y3, y4, y5⟩ := HNEW.out x34_2 _ (Below.refl _ _)))))
   all_goals (go_wp2_with fail; go_meet; first | exact ⟨_, rfl, newNum0 hb2 m8⟩ | exact ⟨_, rfl, newNum hb2 (by first | omega | (simp only [World.size_drew]; omega)) ((Box.new _ _ _).ext g2) m8⟩ | exact ⟨_, rfl, newNum hb2 (by first | omega | (simp only [World.size_drew]; omega)) (((Box.new _ _ _).ext (Ext.undrew g1)).ext g2) m8⟩)
  case rest =>
   obtain ⟨gR, rfl, gx7, hg7, ng7, a7, n7, c7, a7', n7', c7', B7, kv7⟩ := hcut
   have hz_wc := gx7.out.size
   replace HE := hid (HE.out.trans gx7.out)
   replace HB_F := hid (HB_F.out.ext gx7.out)
   replace HB_A := hid (HB_A.out.ext gx7.out)
   replace HB_Z := hid (HB_Z.out.ext gx7.out)
   replace HB_M := hid (HB_M.out.ext gx7.out)
   replace HB_N := hid (HB_N.out.ext gx7.out)
   replace k5 := k5.ext gx7.out
   have HB_R := hid B7
   clear B7 HS HSN HNEW
   obtain ⟨c_35, c_36⟩ := HB_F.out.c2
   obtain ⟨c_37, c_38⟩ := HB_A.out.c2
   obtain ⟨c_39, c_40⟩ := HB_Z.out.c2
   obtain ⟨c_41, c_42, c_43, c_44⟩ := HB_M.out.c4
   obtain ⟨c_45, c_46, c_47⟩ := HB_N.out.c3
   obtain ⟨c_48, c_49, c_50⟩ := HB_R.out.c3
   go_wp2_with fail
   clear c_35 c_36 c_37 c_38 c_39 c_40 c_41 c_42 c_43 c_44 c_45 c_46 c_47 c_48 c_49 c_50
   refine (CSG.out _ _ kv7).mono ?_
   rintro e w8 ⟨rfl, g8⟩
   have hz_w8 := g8.size
   replace HE := hid (HE.out.trans g8)
   replace HB_F := hid (HB_F.out.ext g8)
   replace HB_A := hid (HB_A.out.ext g8)
   replace HB_Z := hid (HB_Z.out.ext g8)
   replace HB_M := hid (HB_M.out.ext g8)
   replace HB_N := hid (HB_N.out.ext g8)
   replace HB_R := hid (HB_R.out.ext g8)
   replace k5 := k5.ext g8
   replace kv7 := kv7.ext g8
   obtain ⟨c_51, c_52⟩ := HB_F.out.c2
   obtain ⟨c_53, c_54⟩ := HB_A.out.c2
   obtain ⟨c_55, c_56⟩ := HB_Z.out.c2
   obtain ⟨c_57, c_58, c_59, c_60⟩ := HB_M.out.c4
   obtain ⟨c_61, c_62, c_63⟩ := HB_N.out.c3
   obtain ⟨c_64, c_65, c_66⟩ := HB_R.out.c3
   go_wp2_with fail
   clear c_51 c_52 c_53 c_54 c_55 c_56 c_57 c_58 c_59 c_60 c_61 c_62 c_63 c_64 c_65 c_66
   refine (CX.out _).mono ?_
   rintro e w9 ⟨rfl, g9⟩
   have hz_w9 := g9.size
   replace HE := hid (HE.out.trans g9)
   replace HB_F := hid (HB_F.out.ext g9)
   replace HB_A := hid (HB_A.out.ext g9)
   replace HB_Z := hid (HB_Z.out.ext g9)
   replace HB_M := hid (HB_M.out.ext g9)
   replace HB_N := hid (HB_N.out.ext g9)
   replace HB_R := hid (HB_R.out.ext g9)
   replace k5 := k5.ext g9
   replace kv7 := kv7.ext g9
   obtain ⟨c_67, c_68⟩ := HB_Z.out.c2
   obtain ⟨f_69, f_70⟩ := HB_Z.out.f2
   go_wp2_with fail
   clear c_67 c_68 f_69 f_70
   obtain ⟨W10, hW10, g10, q10, B10, hy10, ho10⟩ := sto2 HE.out (by omega) HB_Z.out (by decide) (.int .u64 r0) (.int .u64 r1)
   rw [← hW10]
   clear hW10
   replace HE := hid g10
   replace HB_F := hid (ho10 _ _ _ (by omega) HB_F.out)
   replace HB_A := hid (ho10 _ _ _ (by omega) HB_A.out)
   replace HB_M := hid (ho10 _ _ _ (by omega) HB_M.out)
   replace HB_N := hid (ho10 _ _ _ (by omega) HB_N.out)
   replace HB_R := hid (ho10 _ _ _ (by omega) HB_R.out)
   replace HB_Z := hid B10
   replace k5 := k5.keep q10
   replace kv7 := kv7.keep q10
   obtain ⟨c_71, c_72⟩ := HB_Z.out.c2
   refine bodyPost_ret (v := .tuple #[.agg #[.int .u64 r0, .int .u64 r1], .int .i64 0]) (by simp [results, Tryz.results21, go_sem, c_71, c_72]) rfl ⟨rfl, HE.out⟩
set_option maxRecDepth 100000 in
set_option maxHeartbeats 4000000 in
theorem Next_step_u (E P n : Nat) (w : World) (hF : Fmt E P) (hn : n < 2 ^ (E + P)) (hk : wkind E P n ≤ 3) (hs : n ≠ infw E P false) (hr : rankZ E P n + 1 ≠ 0) (htb : (rankZ E P n + 1).natAbs < 2 ^ 124) :
  Calls Tryz.prog 21 #[.agg #[.int .i64 (E : Nat), .int .i64 (P : Nat)], Word n, .bool true] w fun e w' => e = .returned (.tuple #[Word (rankW E P (rankZ E P n + 1)), .int .i64 0]) ∧ Ext w w' := by
 obtain ⟨hE, hP, hb, hEP, hb1⟩ := fmt_bounds hF
 have hn8 : W128 n := w128_of hEP hn
 obtain ⟨i0, hi0⟩ : ∃ x : Nat, x = n / 18446744073709551616 := ⟨_, rfl⟩
 obtain ⟨i1, hi1⟩ : ∃ x : Nat, x = n % 18446744073709551616 := ⟨_, rfl⟩
 have ei : Word n = .agg #[.int .u64 i0, .int .u64 i1] := by unfold Word; rw [← hi0, ← hi1]
 obtain ⟨kd, hkd⟩ : ∃ x, x = wkind E P n := ⟨_, rfl⟩
 have CI : Hid (∀ w, Calls Tryz.prog 69 #[.agg #[.int .i64 (E : Nat), .int .i64 (P : Nat), .int .i64 0, .int .i64 (bias E : Nat)], .agg #[.int .u64 i0, .int .u64 i1]] w (LookPost kd (wn E P n) (wvalK E P (bias E) n) w)) := hid fun w => by
  rw [← ei, hkd]; exact look_c E P 0 (bias E) n w hF hb hn8
 have HW : Hid (withRes E P 0 [n] = .tuple #[.agg #[.int .i64 (E : Nat), .int .i64 (P : Nat), .int .i64 0, .int .i64 (bias E : Nat)], .int .i64 0]) := hid (by unfold withRes; rw [if_pos (fun x hx => by rw [List.mem_singleton] at hx; rw [hx]; exact hn)]; rfl)
 have hd : decide (4 ≤ kd) = false := decide_eq_false (by rw [hkd]; omega)
 obtain ⟨a0, a1, ea⟩ := Word.shape (infw E P false)
 have CIF : Hid (∀ w, Calls Tryz.prog 45 #[.agg #[.int .i64 (E : Nat), .int .i64 (P : Nat), .int .i64 0, .int .i64 (bias E : Nat)], .bool false] w fun e w' => e = .returned (.agg #[.int .u64 a0, .int .u64 a1]) ∧ Ext w w') := hid fun w => by
  have := infinite_c E P 0 (bias E) false w hF
  rwa [ea] at this
 have hne : (i0 ≠ a0) ∨ (i0 = a0 ∧ i1 ≠ a1) := by
  by_cases h0 : i0 = a0
  ·right; refine ⟨h0, fun h1 => hs ?_⟩
   have e2 : Word n = Word (infw E P false) := by rw [ei, ea, h0, h1]
   exact Word.inj e2
  ·left; exact h0
 obtain ⟨r0, r1, er⟩ := Word.shape (rankW E P (rankZ E P n + 1))
 have CK : Hid (∀ w, Calls Tryz.prog 70 #[.agg #[.int .i64 (E : Nat), .int .i64 (P : Nat), .int .i64 0, .int .i64 (bias E : Nat)], .agg #[.int .u64 i0, .int .u64 i1]] w fun e w' => ∃ v, e = .returned v ∧ NumV w' v ((rankZ E P n : Int) : Rat) ∧ Ext w w') := hid fun w => by
  have := rank_c E P 0 (bias E) n w hF hb hn8
  rwa [ei] at this
 have b0 := rankZ_lt (n := n) hEP
 obtain ⟨z, hz⟩ : ∃ z, z = rankZ E P n := ⟨_, rfl⟩
 rw [← hz] at CK b0 htb hr er
 obtain ⟨t, ht⟩ : ∃ t, t = z + 1 := ⟨_, rfl⟩
 rw [← ht] at htb hr er
 have et : ((z : Int) : Rat) + ((1 : Int) : Rat) = ((t : Int) : Rat) := by rw [ht, Rat.intCast_add]
 have tb : t.natAbs < 2 ^ 124 + 1 := by omega
 have CI1 : Hid (∀ w, _) := hid fun w => Int_c 1 w (by decide) (by decide)
 have CAD : Hid (∀ u v w, NumV w u ((z : Int) : Rat) → NumV w v ((1 : Int) : Rat) → Calls Tryz.prog 83 #[u, v] w fun e w' => ∃ x, e = .returned x ∧ NumV w' x ((t : Int) : Rat) ∧ Ext w w') := hid fun u v w h k => by
  have := Add_c u v _ _ 124 w h k (SmQ.int (by decide) b0) (SmQ.int (by decide) (by decide)) (by decide)
  rwa [et] at this
 obtain ⟨sgn, hsgn⟩ : ∃ s, s = t.sign := ⟨_, rfl⟩
 have CSG : Hid (∀ v w, NumV w v ((t : Int) : Rat) → Calls Tryz.prog 27 #[v] w fun e w' => e = .returned (.int .i64 sgn) ∧ Ext w w') := hid fun v w h => by rw [hsgn]; exact sign_c v _ w h
 have hsz : (sgn == 0) = false := beq_eq_false_iff_ne.2 (fun h => hr (Int.sign_eq_zero_iff_zero.1 (by rw [← hsgn]; exact h)))
 have CX : Hid (∀ v w, NumV w v ((t : Int) : Rat) → Calls Tryz.prog 84 #[.agg #[.int .i64 (E : Nat), .int .i64 (P : Nat), .int .i64 0, .int .i64 (bias E : Nat)], v] w fun e w' => e = .returned (.agg #[.int .u64 r0, .int .u64 r1]) ∧ Ext w w') := hid fun v w h => by
  have := ranked_c E P 0 (bias E) v t w hF h htb
  rwa [er] at this
 rw [← hz, ← ht, er]
 rw [ei]
 have HF := hid hF; have HN := hid hn8; have HI0 := hid hi0; have HI1 := hid hi1
 clear hF hn hE hP hb hEP hb1 hn8 hi0 hi1 ei hkd hr hk hs ea er hz ht et b0 tb hsgn htb
 obtain ⟨W0, hW0, g0, hz0, B_F, B_A, B_Z⟩ := pro3s w #[.int .i64 (E : Nat), .int .i64 (P : Nat)] #[.int .u64 i0, .int .u64 i1] #[.int .u64 0, .int .u64 0] 23 29 29
 have HE := hid g0
 have HB_F := hid B_F
 have HB_A := hid B_A
 have HB_Z := hid B_Z
 clear g0 B_F B_A B_Z 
 go_enter Tryz.func21, Tryz.ntmps21
 go_upto_region 1 with (fail)
 rw [← hW0]
 clear hW0
 obtain ⟨c_1, c_2⟩ := HB_F.out.c2
 obtain ⟨c_3, c_4⟩ := HB_A.out.c2
 obtain ⟨c_5, c_6⟩ := HB_Z.out.c2
 go_wp2_with fail
 clear c_1 c_2 c_3 c_4 c_5 c_6
 obtain ⟨W1, hW1, g1, hy1, B_R⟩ := pro1 W0 #[.int .u64 i0, .int .u64 i1] 29
 rw [← hW1]
 clear hW1
 have hz_W1 := g1.size
 replace HE := hid (HE.out.trans g1)
 replace HB_F := hid (HB_F.out.ext g1)
 replace HB_A := hid (HB_A.out.ext g1)
 replace HB_Z := hid (HB_Z.out.ext g1)
 have HB_R := hid B_R
 clear B_R
 have HWS : Hid (WSl W1 (.slice (some ⟨W0.heap.size, 0, none⟩) 1 1) [n]) := hid ⟨some ⟨W0.heap.size, 0, none⟩, W0.heap.size, 0, 1, rfl, Nat.le_refl _, by decide, fun _ => rfl, fun x hx => by
   rw [List.mem_singleton] at hx; rw [hx]; exact HN.out, fun i hi => by
   obtain rfl : i = 0 := by simpa using hi
   refine ⟨?_, ?_⟩
   ·have := HB_R.out.cell 0; rw [HI0.out] at this; exact this
   ·have := HB_R.out.cell 1; rw [HI1.out] at this; exact this⟩
 refine (with_good E P 0 _ [n] _ (by decide) HF.out HWS.out).mono ?_
 rintro e w2 ⟨rfl, g2⟩
 have hz_w2 := g2.size
 replace HE := hid (HE.out.trans g2)
 replace HB_F := hid (HB_F.out.ext g2)
 replace HB_A := hid (HB_A.out.ext g2)
 replace HB_Z := hid (HB_Z.out.ext g2)
 rw [HW.out]
 have gA := Ext.alloc w2 (.cells #[.int .i64 (E : Nat), .int .i64 (P : Nat), .int .i64 0, .int .i64 (bias E : Nat)] 81)
 obtain ⟨c_7, c_8⟩ := (HB_F.out.ext gA).c2
 obtain ⟨c_9, c_10⟩ := (HB_A.out.ext gA).c2
 obtain ⟨c_11, c_12⟩ := (HB_Z.out.ext gA).c2
 go_wp2_with fail
 clear gA c_7 c_8 c_9 c_10 c_11 c_12
 obtain ⟨W3, hW3, g3, hy3, B_M⟩ := pro1 w2 #[.int .i64 (E : Nat), .int .i64 (P : Nat), .int .i64 0, .int .i64 (bias E : Nat)] 81
 rw [← hW3]
 clear hW3
 have hz_W3 := g3.size
 replace HE := hid (HE.out.trans g3)
 replace HB_F := hid (HB_F.out.ext g3)
 replace HB_A := hid (HB_A.out.ext g3)
 replace HB_Z := hid (HB_Z.out.ext g3)
 have HB_M := hid B_M
 clear B_M
 generalize wn E P n = sg at *
 generalize wvalK E P (bias E) n = qv at *
 refine (CI.out _).mono ?_
 rintro e w4 ⟨v1, rfl, ⟨ng, a, k, c, a', k', c', rfl, kv⟩, g4⟩
 have hz_w4 := g4.size
 replace HE := hid (HE.out.trans g4)
 replace HB_F := hid (HB_F.out.ext g4)
 replace HB_A := hid (HB_A.out.ext g4)
 replace HB_Z := hid (HB_Z.out.ext g4)
 replace HB_M := hid (HB_M.out.ext g4)
 clear kv
 have hfd : ∀ W, (Instr.field 112 (.agg #[.int .i64 kd, .bool sg, .bool ng, .slice a k c, .slice a' k' c']) 0).run Tryz.prog W = .ok (.int .i64 kd) W := fun W => by kernel_rfl
 go_upto_region 6 with (fail)
 go_cut [31] (fun sv wx => sv = .bool false ∧ Hid (Ext w4 wx))
 case first =>
  rcases hne with h | ⟨h, h2⟩
  ·have hq : ¬ ((i0 : Nat) : Int) = (a0 : Int) := by omega
   clear h
   have HS : Hid (∀ w', Ext w4 w' → w'.cell? ⟨w.heap.size + 1, 0, none⟩ = some (.int .u64 i0) ∧ w'.cell? ⟨w.heap.size + 1, 1, none⟩ = some (.int .u64 i1) ∧ w'.cell? ⟨w2.heap.size, 0, none⟩ = some (.int .i64 (E : Nat)) ∧ w'.cell? ⟨w2.heap.size, 1, none⟩ = some (.int .i64 (P : Nat)) ∧ w'.cell? ⟨w2.heap.size, 2, none⟩ = some (.int .i64 0) ∧ w'.cell? ⟨w2.heap.size, 3, none⟩ = some (.int .i64 (bias E : Nat))) := hid fun w' h => ⟨(HB_A.out.ext h).cell 0, (HB_A.out.ext h).cell 1, (HB_M.out.ext h).cell 0, (HB_M.out.ext h).cell 1, (HB_M.out.ext h).cell 2, (HB_M.out.ext h).cell 3⟩
   have hb0 : Ext w4 w4.drew := Below.drew (Below.refl _ w4)
   refine wp_region_held_drew (S := fun w' => w'.cell? ⟨w.heap.size + 1, 0, none⟩ = some (.int .u64 i0) ∧ w'.cell? ⟨w.heap.size + 1, 1, none⟩ = some (.int .u64 i1) ∧ w'.cell? ⟨w2.heap.size, 0, none⟩ = some (.int .i64 (E : Nat)) ∧ w'.cell? ⟨w2.heap.size, 1, none⟩ = some (.int .i64 (P : Nat)) ∧ w'.cell? ⟨w2.heap.size, 2, none⟩ = some (.int .i64 0) ∧ w'.cell? ⟨w2.heap.size, 3, none⟩ = some (.int .i64 (bias E : Nat))) (by kernel_rfl) (HS.out _ hb0) (fun hHeld => ?_)
   refine wpAnyH_take (i := 0) (oi := { dst := some 32, op := Op.load 29 (Operand.tmp 4), type := 29, pos := "floats.go:390", after := #[], guard := none }) (v := ?_) rfl (by kernel_rfl) (by kernel_rfl) (by kernel_rfl) (fun _ _ _ h => h) (Or.inl ⟨by rfl, ?_⟩) (by assumption) ?_
   rotate_left
   ·intro w' hSw
    (try dsimp only at hSw)
    go_simp <;> with_reducible rfl
   try simp only [Act.put, List.setIfInBounds_toArray, List.set_cons_zero, List.set_cons_succ]
   refine wpAnyH_take (i := 1) (oi := { dst := some 33, op := Op.load 81 (Operand.tmp 8), type := 81, pos := "floats.go:390", after := #[], guard := none }) (v := ?_) rfl (by kernel_rfl) (by kernel_rfl) (by kernel_rfl) (fun _ _ _ h => h) (Or.inl ⟨by rfl, ?_⟩) (by assumption) ?_
   rotate_left
   ·intro w' hSw
    (try dsimp only at hSw)
    go_simp <;> with_reducible rfl
   try simp only [Act.put, List.setIfInBounds_toArray, List.set_cons_zero, List.set_cons_succ]
   refine wpAnyH_take (i := 2) (oi := { dst := some 34, op := Op.move (Operand.tmp 2), type := 4, pos := "floats.go:390", after := #[], guard := none }) (v := ?_) rfl (by kernel_rfl) (by kernel_rfl) (by kernel_rfl) (fun _ _ _ h => h) (Or.inl ⟨by rfl, ?_⟩) (by assumption) ?_
   rotate_left
   ·intro w' hSw
    (try dsimp only at hSw)
    go_simp <;> with_reducible rfl
   try simp only [Act.put, List.setIfInBounds_toArray, List.set_cons_zero, List.set_cons_succ]
   refine wpAnyH_take (i := 3) (oi := { dst := some 35, op := Op.unOp UnOp.not 4 (Operand.tmp 34), type := 4, pos := "floats.go:390", after := #[{ on := 2, ground := Ground.data }], guard := none }) (v := ?_) rfl (by kernel_rfl) (by kernel_rfl) (by kernel_rfl) (fun _ _ _ h => h) (Or.inl ⟨by rfl, ?_⟩) (by assumption) ?_
   rotate_left
   ·intro w' hSw
    (try dsimp only at hSw)
    go_simp <;> with_reducible rfl
   try simp only [Act.put, List.setIfInBounds_toArray, List.set_cons_zero, List.set_cons_succ]
   refine wpAnyH_ready (rs := [4]) (by kernel_rfl) (by simp) ?_
   refine AllReadyH.cons (o := { dst := some 36, op := Op.call { callee := Callee.value (Operand.func 45), args := #[Operand.tmp 33, Operand.tmp 35], argTypes := #[81, 4] }, type := 29, pos := "floats.go:390", after := #[{ on := 1, ground := Ground.data }, { on := 3, ground := Ground.data }], guard := none }) rfl (fun K hK => ?_) AllReadyH.nil
   go_simp
   refine (CIF.out _).mono ?_
   rintro e x13_1 ⟨rfl, g1⟩
   have hb1 : Ext w4 x13_1 := hb0.trans g1
   try dsimp only
   refine hK.out _ _ (HS.out _ hb1) ?_
   clear hHeld
   intro hHeld
   clear hK K
   try simp only [Act.put, List.setIfInBounds_toArray, List.set_cons_zero, List.set_cons_succ]
   refine wpAnyH_take (i := 5) (oi := { dst := some 37, op := Op.binOp BinOp.eql 29 (Operand.tmp 32) (Operand.tmp 36) 29, type := 4, pos := "floats.go:390", after := #[{ on := 0, ground := Ground.data }, { on := 4, ground := Ground.data }], guard := none }) (v := ?_) rfl (by kernel_rfl) (by kernel_rfl) (by kernel_rfl) (fun _ _ _ h => h) (Or.inl ⟨by rfl, ?_⟩) (by assumption) ?_
   rotate_left
   ·intro w' hSw
    (try dsimp only at hSw)
    go_simp <;> with_reducible rfl
   try simp only [Act.put, List.setIfInBounds_toArray, List.set_cons_zero, List.set_cons_succ]
   refine wpAnyH_take (i := 6) (oi := { dst := some 31, op := Op.assign (Operand.tmp 37), type := 4, pos := "floats.go:390", after := #[{ on := 5, ground := Ground.data }, { on := 4, ground := Ground.chain }], guard := none }) (v := ?_) rfl (by kernel_rfl) (by kernel_rfl) (by kernel_rfl) (fun _ _ _ h => h) (Or.inl ⟨by rfl, ?_⟩) (by assumption) ?_
   rotate_left
   ·intro w' hSw
    (try dsimp only at hSw)
    go_simp <;> with_reducible rfl
   try simp only [Act.put, List.setIfInBounds_toArray, List.set_cons_zero, List.set_cons_succ]
   refine wpAnyH_done (by kernel_rfl) ?_ _
   clear HS hHeld
   go_wp2_with fail
   go_meet
   exact ⟨rfl, hid hb1⟩
  ·subst h
   have hq : ¬ ((i1 : Nat) : Int) = (a1 : Int) := by omega
   clear h2
   have HS : Hid (∀ w', Ext w4 w' → w'.cell? ⟨w.heap.size + 1, 0, none⟩ = some (.int .u64 i0) ∧ w'.cell? ⟨w.heap.size + 1, 1, none⟩ = some (.int .u64 i1) ∧ w'.cell? ⟨w2.heap.size, 0, none⟩ = some (.int .i64 (E : Nat)) ∧ w'.cell? ⟨w2.heap.size, 1, none⟩ = some (.int .i64 (P : Nat)) ∧ w'.cell? ⟨w2.heap.size, 2, none⟩ = some (.int .i64 0) ∧ w'.cell? ⟨w2.heap.size, 3, none⟩ = some (.int .i64 (bias E : Nat))) := hid fun w' h => ⟨(HB_A.out.ext h).cell 0, (HB_A.out.ext h).cell 1, (HB_M.out.ext h).cell 0, (HB_M.out.ext h).cell 1, (HB_M.out.ext h).cell 2, (HB_M.out.ext h).cell 3⟩
   have hb0 : Ext w4 w4.drew := Below.drew (Below.refl _ w4)
   refine wp_region_held_drew (S := fun w' => w'.cell? ⟨w.heap.size + 1, 0, none⟩ = some (.int .u64 i0) ∧ w'.cell? ⟨w.heap.size + 1, 1, none⟩ = some (.int .u64 i1) ∧ w'.cell? ⟨w2.heap.size, 0, none⟩ = some (.int .i64 (E : Nat)) ∧ w'.cell? ⟨w2.heap.size, 1, none⟩ = some (.int .i64 (P : Nat)) ∧ w'.cell? ⟨w2.heap.size, 2, none⟩ = some (.int .i64 0) ∧ w'.cell? ⟨w2.heap.size, 3, none⟩ = some (.int .i64 (bias E : Nat))) (by kernel_rfl) (HS.out _ hb0) (fun hHeld => ?_)
   refine wpAnyH_take (i := 0) (oi := { dst := some 32, op := Op.load 29 (Operand.tmp 4), type := 29, pos := "floats.go:390", after := #[], guard := none }) (v := ?_) rfl (by kernel_rfl) (by kernel_rfl) (by kernel_rfl) (fun _ _ _ h => h) (Or.inl ⟨by rfl, ?_⟩) (by assumption) ?_
   rotate_left
   ·intro w' hSw
    (try dsimp only at hSw)
    go_simp <;> with_reducible rfl
   try simp only [Act.put, List.setIfInBounds_toArray, List.set_cons_zero, List.set_cons_succ]
   refine wpAnyH_take (i := 1) (oi := { dst := some 33, op := Op.load 81 (Operand.tmp 8), type := 81, pos := "floats.go:390", after := #[], guard := none }) (v := ?_) rfl (by kernel_rfl) (by kernel_rfl) (by kernel_rfl) (fun _ _ _ h => h) (Or.inl ⟨by rfl, ?_⟩) (by assumption) ?_
   rotate_left
   ·intro w' hSw
    (try dsimp only at hSw)
    go_simp <;> with_reducible rfl
   try simp only [Act.put, List.setIfInBounds_toArray, List.set_cons_zero, List.set_cons_succ]
   refine wpAnyH_take (i := 2) (oi := { dst := some 34, op := Op.move (Operand.tmp 2), type := 4, pos := "floats.go:390", after := #[], guard := none }) (v := ?_) rfl (by kernel_rfl) (by kernel_rfl) (by kernel_rfl) (fun _ _ _ h => h) (Or.inl ⟨by rfl, ?_⟩) (by assumption) ?_
   rotate_left
   ·intro w' hSw
    (try dsimp only at hSw)
    go_simp <;> with_reducible rfl
   try simp only [Act.put, List.setIfInBounds_toArray, List.set_cons_zero, List.set_cons_succ]
   refine wpAnyH_take (i := 3) (oi := { dst := some 35, op := Op.unOp UnOp.not 4 (Operand.tmp 34), type := 4, pos := "floats.go:390", after := #[{ on := 2, ground := Ground.data }], guard := none }) (v := ?_) rfl (by kernel_rfl) (by kernel_rfl) (by kernel_rfl) (fun _ _ _ h => h) (Or.inl ⟨by rfl, ?_⟩) (by assumption) ?_
   rotate_left
   ·intro w' hSw
    (try dsimp only at hSw)
    go_simp <;> with_reducible rfl
   try simp only [Act.put, List.setIfInBounds_toArray, List.set_cons_zero, List.set_cons_succ]
   refine wpAnyH_ready (rs := [4]) (by kernel_rfl) (by simp) ?_
   refine AllReadyH.cons (o := { dst := some 36, op := Op.call { callee := Callee.value (Operand.func 45), args := #[Operand.tmp 33, Operand.tmp 35], argTypes := #[81, 4] }, type := 29, pos := "floats.go:390", after := #[{ on := 1, ground := Ground.data }, { on := 3, ground := Ground.data }], guard := none }) rfl (fun K hK => ?_) AllReadyH.nil
   go_simp
   refine (CIF.out _).mono ?_
   rintro e x13_1 ⟨rfl, g1⟩
   have hb1 : Ext w4 x13_1 := hb0.trans g1
   try dsimp only
   refine hK.out _ _ (HS.out _ hb1) ?_
   clear hHeld
   intro hHeld
   clear hK K
   try simp only [Act.put, List.setIfInBounds_toArray, List.set_cons_zero, List.set_cons_succ]
   refine wpAnyH_take (i := 5) (oi := { dst := some 37, op := Op.binOp BinOp.eql 29 (Operand.tmp 32) (Operand.tmp 36) 29, type := 4, pos := "floats.go:390", after := #[{ on := 0, ground := Ground.data }, { on := 4, ground := Ground.data }], guard := none }) (v := ?_) rfl (by kernel_rfl) (by kernel_rfl) (by kernel_rfl) (fun _ _ _ h => h) (Or.inl ⟨by rfl, ?_⟩) (by assumption) ?_
   rotate_left
   ·intro w' hSw
    (try dsimp only at hSw)
    go_simp <;> with_reducible rfl
   try simp only [Act.put, List.setIfInBounds_toArray, List.set_cons_zero, List.set_cons_succ]
   refine wpAnyH_take (i := 6) (oi := { dst := some 31, op := Op.assign (Operand.tmp 37), type := 4, pos := "floats.go:390", after := #[{ on := 5, ground := Ground.data }, { on := 4, ground := Ground.chain }], guard := none }) (v := ?_) rfl (by kernel_rfl) (by kernel_rfl) (by kernel_rfl) (fun _ _ _ h => h) (Or.inl ⟨by rfl, ?_⟩) (by assumption) ?_
   rotate_left
   ·intro w' hSw
    (try dsimp only at hSw)
    go_simp <;> with_reducible rfl
   try simp only [Act.put, List.setIfInBounds_toArray, List.set_cons_zero, List.set_cons_succ]
   refine wpAnyH_done (by kernel_rfl) ?_ _
   clear HS hHeld
   go_wp2_with fail
   go_meet
   exact ⟨rfl, hid hb1⟩
 case rest =>
  obtain ⟨rfl, gx6⟩ := hcut
  clear hne
  have hz_wc := gx6.out.size
  replace HE := hid (HE.out.trans gx6.out)
  replace HB_F := hid (HB_F.out.ext gx6.out)
  replace HB_A := hid (HB_A.out.ext gx6.out)
  replace HB_Z := hid (HB_Z.out.ext gx6.out)
  replace HB_M := hid (HB_M.out.ext gx6.out)
  obtain ⟨c_13, c_14⟩ := HB_F.out.c2
  obtain ⟨c_15, c_16⟩ := HB_A.out.c2
  obtain ⟨c_17, c_18⟩ := HB_Z.out.c2
  obtain ⟨c_19, c_20, c_21, c_22⟩ := HB_M.out.c4
  go_wp2_with fail
  clear c_13 c_14 c_15 c_16 c_17 c_18 c_19 c_20 c_21 c_22
  refine (CI1.out _).mono ?_
  rintro e w5 ⟨v5, rfl, k5, g5⟩
  have hz_w5 := g5.size
  replace HE := hid (HE.out.trans g5)
  replace HB_F := hid (HB_F.out.ext g5)
  replace HB_A := hid (HB_A.out.ext g5)
  replace HB_Z := hid (HB_Z.out.ext g5)
  replace HB_M := hid (HB_M.out.ext g5)
  obtain ⟨ngq23, aq23, nq23, cq23, aq23', nq23', cq23', rfl⟩ := k5.shape
  have gA := Ext.alloc w5 (.cells #[.bool ngq23, .slice aq23 nq23 cq23, .slice aq23' nq23' cq23'] 40)
  obtain ⟨c_24, c_25⟩ := (HB_F.out.ext gA).c2
  obtain ⟨c_26, c_27⟩ := (HB_A.out.ext gA).c2
  obtain ⟨c_28, c_29⟩ := (HB_Z.out.ext gA).c2
  obtain ⟨c_30, c_31, c_32, c_33⟩ := (HB_M.out.ext gA).c4
  go_wp2_with fail
  clear gA c_24 c_25 c_26 c_27 c_28 c_29 c_30 c_31 c_32 c_33
  obtain ⟨W6, hW6, g6, hy6, B_N⟩ := pro1 w5 #[.bool ngq23, .slice aq23 nq23 cq23, .slice aq23' nq23' cq23'] 40
  rw [← hW6]
  clear hW6
  have hz_W6 := g6.size
  replace HE := hid (HE.out.trans g6)
  replace HB_F := hid (HB_F.out.ext g6)
  replace HB_A := hid (HB_A.out.ext g6)
  replace HB_Z := hid (HB_Z.out.ext g6)
  replace HB_M := hid (HB_M.out.ext g6)
  replace k5 := k5.ext g6
  have HB_N := hid B_N
  clear B_N
  have HS : Hid (∀ w', Ext W6 w' → w'.cell? ⟨w2.heap.size, 0, none⟩ = some (.int .i64 (E : Nat)) ∧ w'.cell? ⟨w2.heap.size, 1, none⟩ = some (.int .i64 (P : Nat)) ∧ w'.cell? ⟨w2.heap.size, 2, none⟩ = some (.int .i64 0) ∧ w'.cell? ⟨w2.heap.size, 3, none⟩ = some (.int .i64 (bias E : Nat)) ∧ w'.cell? ⟨w.heap.size + 1, 0, none⟩ = some (.int .u64 i0) ∧ w'.cell? ⟨w.heap.size + 1, 1, none⟩ = some (.int .u64 i1) ∧ w'.cell? ⟨w5.heap.size, 0, none⟩ = some (.bool ngq23) ∧ w'.cell? ⟨w5.heap.size, 1, none⟩ = some (.slice aq23 nq23 cq23) ∧ w'.cell? ⟨w5.heap.size, 2, none⟩ = some (.slice aq23' nq23' cq23')) := hid fun w' h => ⟨(HB_M.out.ext h).cell 0, (HB_M.out.ext h).cell 1, (HB_M.out.ext h).cell 2, (HB_M.out.ext h).cell 3, (HB_A.out.ext h).cell 0, (HB_A.out.ext h).cell 1, (HB_N.out.ext h).cell 0, (HB_N.out.ext h).cell 1, (HB_N.out.ext h).cell 2⟩
  have hlt_M : w2.heap.size < W6.heap.size := cell_lt HB_M.out
  have hlt_A : w.heap.size + 1 < W6.heap.size := cell_lt HB_A.out
  have hlt_N : w5.heap.size < W6.heap.size := cell_lt HB_N.out
  have HSN : Hid (∀ (g : Nat) (v0 v1 v2 : Value) (w' : World), W6.heap.size ≤ g → Ext W6 w' → (((w'.setCell ⟨g, 0, none⟩ v0).setCell ⟨g, 1, none⟩ v1).setCell ⟨g, 2, none⟩ v2).cell? ⟨w2.heap.size, 0, none⟩ = some (.int .i64 (E : Nat)) ∧ (((w'.setCell ⟨g, 0, none⟩ v0).setCell ⟨g, 1, none⟩ v1).setCell ⟨g, 2, none⟩ v2).cell? ⟨w2.heap.size, 1, none⟩ = some (.int .i64 (P : Nat)) ∧ (((w'.setCell ⟨g, 0, none⟩ v0).setCell ⟨g, 1, none⟩ v1).setCell ⟨g, 2, none⟩ v2).cell? ⟨w2.heap.size, 2, none⟩ = some (.int .i64 0) ∧ (((w'.setCell ⟨g, 0, none⟩ v0).setCell ⟨g, 1, none⟩ v1).setCell ⟨g, 2, none⟩ v2).cell? ⟨w2.heap.size, 3, none⟩ = some (.int .i64 (bias E : Nat)) ∧ (((w'.setCell ⟨g, 0, none⟩ v0).setCell ⟨g, 1, none⟩ v1).setCell ⟨g, 2, none⟩ v2).cell? ⟨w.heap.size + 1, 0, none⟩ = some (.int .u64 i0) ∧ (((w'.setCell ⟨g, 0, none⟩ v0).setCell ⟨g, 1, none⟩ v1).setCell ⟨g, 2, none⟩ v2).cell? ⟨w.heap.size + 1, 1, none⟩ = some (.int .u64 i1) ∧ (((w'.setCell ⟨g, 0, none⟩ v0).setCell ⟨g, 1, none⟩ v1).setCell ⟨g, 2, none⟩ v2).cell? ⟨w5.heap.size, 0, none⟩ = some (.bool ngq23) ∧ (((w'.setCell ⟨g, 0, none⟩ v0).setCell ⟨g, 1, none⟩ v1).setCell ⟨g, 2, none⟩ v2).cell? ⟨w5.heap.size, 1, none⟩ = some (.slice aq23 nq23 cq23) ∧ (((w'.setCell ⟨g, 0, none⟩ v0).setCell ⟨g, 1, none⟩ v1).setCell ⟨g, 2, none⟩ v2).cell? ⟨w5.heap.size, 2, none⟩ = some (.slice aq23' nq23' cq23')) := hid fun g v0 v1 v2 w' hg h => ⟨(cell_other (show w2.heap.size ≠ g by omega) (cell_other (show w2.heap.size ≠ g by omega) (cell_other (show w2.heap.size ≠ g by omega) ((HB_M.out.ext h).cell 0)))), (cell_other (show w2.heap.size ≠ g by omega) (cell_other (show w2.heap.size ≠ g by omega) (cell_other (show w2.heap.size ≠ g by omega) ((HB_M.out.ext h).cell 1)))), (cell_other (show w2.heap.size ≠ g by omega) (cell_other (show w2.heap.size ≠ g by omega) (cell_other (show w2.heap.size ≠ g by omega) ((HB_M.out.ext h).cell 2)))), (cell_other (show w2.heap.size ≠ g by omega) (cell_other (show w2.heap.size ≠ g by omega) (cell_other (show w2.heap.size ≠ g by omega) ((HB_M.out.ext h).cell 3)))), (cell_other (show w.heap.size + 1 ≠ g by omega) (cell_other (show w.heap.size + 1 ≠ g by omega) (cell_other (show w.heap.size + 1 ≠ g by omega) ((HB_A.out.ext h).cell 0)))), (cell_other (show w.heap.size + 1 ≠ g by omega) (cell_other (show w.heap.size + 1 ≠ g by omega) (cell_other (show w.heap.size + 1 ≠ g by omega) ((HB_A.out.ext h).cell 1)))), (cell_other (show w5.heap.size ≠ g by omega) (cell_other (show w5.heap.size ≠ g by omega) (cell_other (show w5.heap.size ≠ g by omega) ((HB_N.out.ext h).cell 0)))), (cell_other (show w5.heap.size ≠ g by omega) (cell_other (show w5.heap.size ≠ g by omega) (cell_other (show w5.heap.size ≠ g by omega) ((HB_N.out.ext h).cell 1)))), (cell_other (show w5.heap.size ≠ g by omega) (cell_other (show w5.heap.size ≠ g by omega) (cell_other (show w5.heap.size ≠ g by omega) ((HB_N.out.ext h).cell 2))))⟩
  clear hlt_M hlt_A hlt_N
  have hb0 : Ext W6 W6.drew := Below.drew (Below.refl _ W6)
  have HNEW := hid newFacts
  go_cut [11] (fun sv wx => ∃ g : Nat, sv = .pointer (some ⟨g, 0, none⟩) ∧ Hid (Ext W6 wx) ∧ W6.heap.size ≤ g ∧ NumBox wx g (((t : Int) : Rat)))
  case first =>
   go_region_held3 (fun w' => w'.cell? ⟨w2.heap.size, 0, none⟩ = some (.int .i64 (E : Nat)) ∧ w'.cell? ⟨w2.heap.size, 1, none⟩ = some (.int .i64 (P : Nat)) ∧ w'.cell? ⟨w2.heap.size, 2, none⟩ = some (.int .i64 0) ∧ w'.cell? ⟨w2.heap.size, 3, none⟩ = some (.int .i64 (bias E : Nat)) ∧ w'.cell? ⟨w.heap.size + 1, 0, none⟩ = some (.int .u64 i0) ∧ w'.cell? ⟨w.heap.size + 1, 1, none⟩ = some (.int .u64 i1) ∧ w'.cell? ⟨w5.heap.size, 0, none⟩ = some (.bool ngq23) ∧ w'.cell? ⟨w5.heap.size, 1, none⟩ = some (.slice aq23 nq23 cq23) ∧ w'.cell? ⟨w5.heap.size, 2, none⟩ = some (.slice aq23' nq23' cq23'))
     (first | exact HS.out _ (by assumption) | exact HS.out _ (Ext.trans (by assumption) (Ext.alloc _ _)) | exact HSN.out _ _ _ _ _ (by first | omega | (simp only [World.size_drew]; omega)) (by assumption) | exact HSN.out _ _ _ _ _ (by first | omega | (simp only [World.size_drew]; omega)) (Ext.trans (by assumption) (Ext.alloc _ _)))
    (first
      | (go_at_call 70; (with_reducible refine (CK.out _).mono ?_); rintro e x34_1 ⟨v7, rfl, m7, g1⟩; have hb1 : Ext W6 x34_1 := (by first | exact hb0.trans g1 | exact (hb0.trans (Ext.alloc _ _)).trans g1); have hs1 := hb1.size)
      | (go_at_call 83; (with_reducible refine (CAD.out _ _ _ (by first | exact m7 | exact (m7).ext (Ext.alloc _ _)) (by first | exact k5.ext hb1 | exact (k5.ext hb1).ext (Ext.alloc _ _))).mono ?_); rintro e x34_2 ⟨v8, rfl, m8, g2⟩; have hb2 : Ext W6 x34_2 := (by first | exact hb1.trans g2 | exact (hb1.trans (Ext.alloc _ _)).trans g2); have hs2 := hb2.size; obtain ⟨ng8, a8, n8, c8, a8', n8', c8', rfl⟩ := m8.shape; (first | (have yy := HNEW.out _ _ g2; (try simp only [World.size_drew] at yy); obtain ⟨y0, y1, y2, y3, y4, y5⟩ := yy) | (have yy := HNEW.out _ _ ((Ext.undrew g1).trans g2); (try simp only [World.size_drew] at yy); obtain ⟨y0, y1, y2, y3, y4, y5⟩ := yy) | (obtain ⟨y0, y1, y2, y3, y4, y5⟩ := HNEW.out x34_2 _ (Below.refl _ _)))))
   all_goals (go_wp2_with fail; go_meet; first | exact ⟨_, rfl, newNum0 hb2 m8⟩ | exact ⟨_, rfl, newNum hb2 (by first | omega | (simp only [World.size_drew]; omega)) ((Box.new _ _ _).ext g2) m8⟩ | exact ⟨_, rfl, newNum hb2 (by first | omega | (simp only [World.size_drew]; omega)) (((Box.new _ _ _).ext (Ext.undrew g1)).ext g2) m8⟩)
  case rest =>
   obtain ⟨gR, rfl, gx7, hg7, ng7, a7, n7, c7, a7', n7', c7', B7, kv7⟩ := hcut
   have hz_wc := gx7.out.size
   replace HE := hid (HE.out.trans gx7.out)
   replace HB_F := hid (HB_F.out.ext gx7.out)
   replace HB_A := hid (HB_A.out.ext gx7.out)
   replace HB_Z := hid (HB_Z.out.ext gx7.out)
   replace HB_M := hid (HB_M.out.ext gx7.out)
   replace HB_N := hid (HB_N.out.ext gx7.out)
   replace k5 := k5.ext gx7.out
   have HB_R := hid B7
   clear B7 HS HSN HNEW
   obtain ⟨c_35, c_36⟩ := HB_F.out.c2
   obtain ⟨c_37, c_38⟩ := HB_A.out.c2
   obtain ⟨c_39, c_40⟩ := HB_Z.out.c2
   obtain ⟨c_41, c_42, c_43, c_44⟩ := HB_M.out.c4
   obtain ⟨c_45, c_46, c_47⟩ := HB_N.out.c3
   obtain ⟨c_48, c_49, c_50⟩ := HB_R.out.c3
   go_wp2_with fail
   clear c_35 c_36 c_37 c_38 c_39 c_40 c_41 c_42 c_43 c_44 c_45 c_46 c_47 c_48 c_49 c_50
   refine (CSG.out _ _ kv7).mono ?_
   rintro e w8 ⟨rfl, g8⟩
   have hz_w8 := g8.size
   replace HE := hid (HE.out.trans g8)
   replace HB_F := hid (HB_F.out.ext g8)
   replace HB_A := hid (HB_A.out.ext g8)
   replace HB_Z := hid (HB_Z.out.ext g8)
   replace HB_M := hid (HB_M.out.ext g8)
   replace HB_N := hid (HB_N.out.ext g8)
   replace HB_R := hid (HB_R.out.ext g8)
   replace k5 := k5.ext g8
   replace kv7 := kv7.ext g8
   obtain ⟨c_51, c_52⟩ := HB_F.out.c2
   obtain ⟨c_53, c_54⟩ := HB_A.out.c2
   obtain ⟨c_55, c_56⟩ := HB_Z.out.c2
   obtain ⟨c_57, c_58, c_59, c_60⟩ := HB_M.out.c4
   obtain ⟨c_61, c_62, c_63⟩ := HB_N.out.c3
   obtain ⟨c_64, c_65, c_66⟩ := HB_R.out.c3
   go_wp2_with fail
   clear c_51 c_52 c_53 c_54 c_55 c_56 c_57 c_58 c_59 c_60 c_61 c_62 c_63 c_64 c_65 c_66
   refine (CX.out _ _ kv7).mono ?_
   rintro e w9 ⟨rfl, g9⟩
   have hz_w9 := g9.size
   replace HE := hid (HE.out.trans g9)
   replace HB_F := hid (HB_F.out.ext g9)
   replace HB_A := hid (HB_A.out.ext g9)
   replace HB_Z := hid (HB_Z.out.ext g9)
   replace HB_M := hid (HB_M.out.ext g9)
   replace HB_N := hid (HB_N.out.ext g9)
   replace HB_R := hid (HB_R.out.ext g9)
   replace k5 := k5.ext g9
   replace kv7 := kv7.ext g9
   obtain ⟨c_67, c_68⟩ := HB_Z.out.c2
   obtain ⟨f_69, f_70⟩ := HB_Z.out.f2
   go_wp2_with fail
   clear c_67 c_68 f_69 f_70
   obtain ⟨W10, hW10, g10, q10, B10, hy10, ho10⟩ := sto2 HE.out (by omega) HB_Z.out (by decide) (.int .u64 r0) (.int .u64 r1)
   rw [← hW10]
   clear hW10
   replace HE := hid g10
   replace HB_F := hid (ho10 _ _ _ (by omega) HB_F.out)
   replace HB_A := hid (ho10 _ _ _ (by omega) HB_A.out)
   replace HB_M := hid (ho10 _ _ _ (by omega) HB_M.out)
   replace HB_N := hid (ho10 _ _ _ (by omega) HB_N.out)
   replace HB_R := hid (ho10 _ _ _ (by omega) HB_R.out)
   replace HB_Z := hid B10
   replace k5 := k5.keep q10
   replace kv7 := kv7.keep q10
   obtain ⟨c_71, c_72⟩ := HB_Z.out.c2
   refine bodyPost_ret (v := .tuple #[.agg #[.int .u64 r0, .int .u64 r1], .int .i64 0]) (by simp [results, Tryz.results21, go_sem, c_71, c_72]) rfl ⟨rfl, HE.out⟩
set_option maxRecDepth 100000 in
set_option maxHeartbeats 4000000 in
theorem Next_same_d (E P n : Nat) (w : World) (hF : Fmt E P) (hn : n < 2 ^ (E + P)) (hk : wkind E P n ≤ 3) (hs : n = infw E P true) :
  Calls Tryz.prog 21 #[.agg #[.int .i64 (E : Nat), .int .i64 (P : Nat)], Word n, .bool false] w fun e w' => e = .returned (.tuple #[Word n, .int .i64 0]) ∧ Ext w w' := by
 obtain ⟨hE, hP, hb, hEP, hb1⟩ := fmt_bounds hF
 have hn8 : W128 n := w128_of hEP hn
 obtain ⟨i0, hi0⟩ : ∃ x : Nat, x = n / 18446744073709551616 := ⟨_, rfl⟩
 obtain ⟨i1, hi1⟩ : ∃ x : Nat, x = n % 18446744073709551616 := ⟨_, rfl⟩
 have ei : Word n = .agg #[.int .u64 i0, .int .u64 i1] := by unfold Word; rw [← hi0, ← hi1]
 obtain ⟨kd, hkd⟩ : ∃ x, x = wkind E P n := ⟨_, rfl⟩
 have CI : Hid (∀ w, Calls Tryz.prog 69 #[.agg #[.int .i64 (E : Nat), .int .i64 (P : Nat), .int .i64 0, .int .i64 (bias E : Nat)], .agg #[.int .u64 i0, .int .u64 i1]] w (LookPost kd (wn E P n) (wvalK E P (bias E) n) w)) := hid fun w => by
  rw [← ei, hkd]; exact look_c E P 0 (bias E) n w hF hb hn8
 have HW : Hid (withRes E P 0 [n] = .tuple #[.agg #[.int .i64 (E : Nat), .int .i64 (P : Nat), .int .i64 0, .int .i64 (bias E : Nat)], .int .i64 0]) := hid (by unfold withRes; rw [if_pos (fun x hx => by rw [List.mem_singleton] at hx; rw [hx]; exact hn)]; rfl)
 have hd : decide (4 ≤ kd) = false := decide_eq_false (by rw [hkd]; omega)
 obtain ⟨a0, a1, ea⟩ := Word.shape (infw E P true)
 have CIF : Hid (∀ w, Calls Tryz.prog 45 #[.agg #[.int .i64 (E : Nat), .int .i64 (P : Nat), .int .i64 0, .int .i64 (bias E : Nat)], .bool true] w fun e w' => e = .returned (.agg #[.int .u64 a0, .int .u64 a1]) ∧ Ext w w') := hid fun w => by
  have := infinite_c E P 0 (bias E) true w hF
  rwa [ea] at this
 obtain ⟨rfl, rfl⟩ : i0 = a0 ∧ i1 = a1 := by
  rw [hs, ea] at ei
  have h2 : ((a0 : Nat) : Int) = i0 ∧ ((a1 : Nat) : Int) = i1 := by simpa using ei
  omega
 rw [ei]
 have HF := hid hF; have HN := hid hn8; have HI0 := hid hi0; have HI1 := hid hi1
 clear hF hn hE hP hb hEP hb1 hn8 hi0 hi1 ei hkd hk hs ea
 obtain ⟨W0, hW0, g0, hz0, B_F, B_A, B_Z⟩ := pro3s w #[.int .i64 (E : Nat), .int .i64 (P : Nat)] #[.int .u64 i0, .int .u64 i1] #[.int .u64 0, .int .u64 0] 23 29 29
 have HE := hid g0
 have HB_F := hid B_F
 have HB_A := hid B_A
 have HB_Z := hid B_Z
 clear g0 B_F B_A B_Z 
 go_enter Tryz.func21, Tryz.ntmps21
 go_upto_region 1 with (fail)
 rw [← hW0]
 clear hW0
 obtain ⟨c_1, c_2⟩ := HB_F.out.c2
 obtain ⟨c_3, c_4⟩ := HB_A.out.c2
 obtain ⟨c_5, c_6⟩ := HB_Z.out.c2
 go_wp2_with fail
 clear c_1 c_2 c_3 c_4 c_5 c_6
 obtain ⟨W1, hW1, g1, hy1, B_R⟩ := pro1 W0 #[.int .u64 i0, .int .u64 i1] 29
 rw [← hW1]
 clear hW1
 have hz_W1 := g1.size
 replace HE := hid (HE.out.trans g1)
 replace HB_F := hid (HB_F.out.ext g1)
 replace HB_A := hid (HB_A.out.ext g1)
 replace HB_Z := hid (HB_Z.out.ext g1)
 have HB_R := hid B_R
 clear B_R
 have HWS : Hid (WSl W1 (.slice (some ⟨W0.heap.size, 0, none⟩) 1 1) [n]) := hid ⟨some ⟨W0.heap.size, 0, none⟩, W0.heap.size, 0, 1, rfl, Nat.le_refl _, by decide, fun _ => rfl, fun x hx => by
   rw [List.mem_singleton] at hx; rw [hx]; exact HN.out, fun i hi => by
   obtain rfl : i = 0 := by simpa using hi
   refine ⟨?_, ?_⟩
   ·have := HB_R.out.cell 0; rw [HI0.out] at this; exact this
   ·have := HB_R.out.cell 1; rw [HI1.out] at this; exact this⟩
 refine (with_good E P 0 _ [n] _ (by decide) HF.out HWS.out).mono ?_
 rintro e w2 ⟨rfl, g2⟩
 have hz_w2 := g2.size
 replace HE := hid (HE.out.trans g2)
 replace HB_F := hid (HB_F.out.ext g2)
 replace HB_A := hid (HB_A.out.ext g2)
 replace HB_Z := hid (HB_Z.out.ext g2)
 rw [HW.out]
 have gA := Ext.alloc w2 (.cells #[.int .i64 (E : Nat), .int .i64 (P : Nat), .int .i64 0, .int .i64 (bias E : Nat)] 81)
 obtain ⟨c_7, c_8⟩ := (HB_F.out.ext gA).c2
 obtain ⟨c_9, c_10⟩ := (HB_A.out.ext gA).c2
 obtain ⟨c_11, c_12⟩ := (HB_Z.out.ext gA).c2
 go_wp2_with fail
 clear gA c_7 c_8 c_9 c_10 c_11 c_12
 obtain ⟨W3, hW3, g3, hy3, B_M⟩ := pro1 w2 #[.int .i64 (E : Nat), .int .i64 (P : Nat), .int .i64 0, .int .i64 (bias E : Nat)] 81
 rw [← hW3]
 clear hW3
 have hz_W3 := g3.size
 replace HE := hid (HE.out.trans g3)
 replace HB_F := hid (HB_F.out.ext g3)
 replace HB_A := hid (HB_A.out.ext g3)
 replace HB_Z := hid (HB_Z.out.ext g3)
 have HB_M := hid B_M
 clear B_M
 generalize wn E P n = sg at *
 generalize wvalK E P (bias E) n = qv at *
 refine (CI.out _).mono ?_
 rintro e w4 ⟨v1, rfl, ⟨ng, a, k, c, a', k', c', rfl, kv⟩, g4⟩
 have hz_w4 := g4.size
 replace HE := hid (HE.out.trans g4)
 replace HB_F := hid (HB_F.out.ext g4)
 replace HB_A := hid (HB_A.out.ext g4)
 replace HB_Z := hid (HB_Z.out.ext g4)
 replace HB_M := hid (HB_M.out.ext g4)
 clear kv
 have hfd : ∀ W, (Instr.field 112 (.agg #[.int .i64 kd, .bool sg, .bool ng, .slice a k c, .slice a' k' c']) 0).run Tryz.prog W = .ok (.int .i64 kd) W := fun W => by kernel_rfl
 go_upto_region 6 with (fail)
 have HS : Hid (∀ w', Ext w4 w' → w'.cell? ⟨w.heap.size + 1, 0, none⟩ = some (.int .u64 i0) ∧ w'.cell? ⟨w.heap.size + 1, 1, none⟩ = some (.int .u64 i1) ∧ w'.cell? ⟨w2.heap.size, 0, none⟩ = some (.int .i64 (E : Nat)) ∧ w'.cell? ⟨w2.heap.size, 1, none⟩ = some (.int .i64 (P : Nat)) ∧ w'.cell? ⟨w2.heap.size, 2, none⟩ = some (.int .i64 0) ∧ w'.cell? ⟨w2.heap.size, 3, none⟩ = some (.int .i64 (bias E : Nat))) := hid fun w' h => ⟨(HB_A.out.ext h).cell 0, (HB_A.out.ext h).cell 1, (HB_M.out.ext h).cell 0, (HB_M.out.ext h).cell 1, (HB_M.out.ext h).cell 2, (HB_M.out.ext h).cell 3⟩
 have hb0 : Ext w4 w4.drew := Below.drew (Below.refl _ w4)
 refine wp_region_held_drew (S := fun w' => w'.cell? ⟨w.heap.size + 1, 0, none⟩ = some (.int .u64 i0) ∧ w'.cell? ⟨w.heap.size + 1, 1, none⟩ = some (.int .u64 i1) ∧ w'.cell? ⟨w2.heap.size, 0, none⟩ = some (.int .i64 (E : Nat)) ∧ w'.cell? ⟨w2.heap.size, 1, none⟩ = some (.int .i64 (P : Nat)) ∧ w'.cell? ⟨w2.heap.size, 2, none⟩ = some (.int .i64 0) ∧ w'.cell? ⟨w2.heap.size, 3, none⟩ = some (.int .i64 (bias E : Nat))) (by kernel_rfl) (HS.out _ hb0) (fun hHeld => ?_)
 refine wpAnyH_take (i := 0) (oi := { dst := some 32, op := Op.load 29 (Operand.tmp 4), type := 29, pos := "floats.go:390", after := #[], guard := none }) (v := ?_) rfl (by kernel_rfl) (by kernel_rfl) (by kernel_rfl) (fun _ _ _ h => h) (Or.inl ⟨by rfl, ?_⟩) (by assumption) ?_
 rotate_left
 ·intro w' hSw
  (try dsimp only at hSw)
  go_simp <;> with_reducible rfl
 try simp only [Act.put, List.setIfInBounds_toArray, List.set_cons_zero, List.set_cons_succ]
 refine wpAnyH_take (i := 1) (oi := { dst := some 33, op := Op.load 81 (Operand.tmp 8), type := 81, pos := "floats.go:390", after := #[], guard := none }) (v := ?_) rfl (by kernel_rfl) (by kernel_rfl) (by kernel_rfl) (fun _ _ _ h => h) (Or.inl ⟨by rfl, ?_⟩) (by assumption) ?_
 rotate_left
 ·intro w' hSw
  (try dsimp only at hSw)
  go_simp <;> with_reducible rfl
 try simp only [Act.put, List.setIfInBounds_toArray, List.set_cons_zero, List.set_cons_succ]
 refine wpAnyH_take (i := 2) (oi := { dst := some 34, op := Op.move (Operand.tmp 2), type := 4, pos := "floats.go:390", after := #[], guard := none }) (v := ?_) rfl (by kernel_rfl) (by kernel_rfl) (by kernel_rfl) (fun _ _ _ h => h) (Or.inl ⟨by rfl, ?_⟩) (by assumption) ?_
 rotate_left
 ·intro w' hSw
  (try dsimp only at hSw)
  go_simp <;> with_reducible rfl
 try simp only [Act.put, List.setIfInBounds_toArray, List.set_cons_zero, List.set_cons_succ]
 refine wpAnyH_take (i := 3) (oi := { dst := some 35, op := Op.unOp UnOp.not 4 (Operand.tmp 34), type := 4, pos := "floats.go:390", after := #[{ on := 2, ground := Ground.data }], guard := none }) (v := ?_) rfl (by kernel_rfl) (by kernel_rfl) (by kernel_rfl) (fun _ _ _ h => h) (Or.inl ⟨by rfl, ?_⟩) (by assumption) ?_
 rotate_left
 ·intro w' hSw
  (try dsimp only at hSw)
  go_simp <;> with_reducible rfl
 try simp only [Act.put, List.setIfInBounds_toArray, List.set_cons_zero, List.set_cons_succ]
 refine wpAnyH_ready (rs := [4]) (by kernel_rfl) (by simp) ?_
 refine AllReadyH.cons (o := { dst := some 36, op := Op.call { callee := Callee.value (Operand.func 45), args := #[Operand.tmp 33, Operand.tmp 35], argTypes := #[81, 4] }, type := 29, pos := "floats.go:390", after := #[{ on := 1, ground := Ground.data }, { on := 3, ground := Ground.data }], guard := none }) rfl (fun K hK => ?_) AllReadyH.nil
 go_simp
 refine (CIF.out _).mono ?_
 rintro e x13_1 ⟨rfl, g1⟩
 have hb1 : Ext w4 x13_1 := hb0.trans g1
 try dsimp only
 refine hK.out _ _ (HS.out _ hb1) ?_
 clear hHeld
 intro hHeld
 clear hK K
 try simp only [Act.put, List.setIfInBounds_toArray, List.set_cons_zero, List.set_cons_succ]
 refine wpAnyH_take (i := 5) (oi := { dst := some 37, op := Op.binOp BinOp.eql 29 (Operand.tmp 32) (Operand.tmp 36) 29, type := 4, pos := "floats.go:390", after := #[{ on := 0, ground := Ground.data }, { on := 4, ground := Ground.data }], guard := none }) (v := ?_) rfl (by kernel_rfl) (by kernel_rfl) (by kernel_rfl) (fun _ _ _ h => h) (Or.inl ⟨by rfl, ?_⟩) (by assumption) ?_
 rotate_left
 ·intro w' hSw
  (try dsimp only at hSw)
  go_simp <;> with_reducible rfl
 try simp only [Act.put, List.setIfInBounds_toArray, List.set_cons_zero, List.set_cons_succ]
 refine wpAnyH_take (i := 6) (oi := { dst := some 31, op := Op.assign (Operand.tmp 37), type := 4, pos := "floats.go:390", after := #[{ on := 5, ground := Ground.data }, { on := 4, ground := Ground.chain }], guard := none }) (v := ?_) rfl (by kernel_rfl) (by kernel_rfl) (by kernel_rfl) (fun _ _ _ h => h) (Or.inl ⟨by rfl, ?_⟩) (by assumption) ?_
 rotate_left
 ·intro w' hSw
  (try dsimp only at hSw)
  go_simp <;> with_reducible rfl
 try simp only [Act.put, List.setIfInBounds_toArray, List.set_cons_zero, List.set_cons_succ]
 refine wpAnyH_done (by kernel_rfl) ?_ _
 clear HS hHeld
 have hz_x13_1 := hb1.size
 replace HE := hid (HE.out.trans hb1)
 replace HB_F := hid (HB_F.out.ext hb1)
 replace HB_A := hid (HB_A.out.ext hb1)
 replace HB_Z := hid (HB_Z.out.ext hb1)
 replace HB_M := hid (HB_M.out.ext hb1)
 obtain ⟨c_14, c_15⟩ := HB_A.out.c2
 obtain ⟨c_16, c_17⟩ := HB_Z.out.c2
 obtain ⟨f_18, f_19⟩ := HB_Z.out.f2
 go_wp2_with fail
 clear c_14 c_15 c_16 c_17 f_18 f_19
 obtain ⟨W5, hW5, g5, q5, B5, hy5, ho5⟩ := sto2 HE.out (by omega) HB_Z.out (by decide) (.int .u64 i0) (.int .u64 i1)
 rw [← hW5]
 clear hW5
 replace HE := hid g5
 replace HB_F := hid (ho5 _ _ _ (by omega) HB_F.out)
 replace HB_A := hid (ho5 _ _ _ (by omega) HB_A.out)
 replace HB_M := hid (ho5 _ _ _ (by omega) HB_M.out)
 replace HB_Z := hid B5
 obtain ⟨c_20, c_21⟩ := HB_Z.out.c2
 refine bodyPost_ret (v := .tuple #[.agg #[.int .u64 i0, .int .u64 i1], .int .i64 0]) (by simp [results, Tryz.results21, go_sem, c_20, c_21]) rfl ⟨rfl, HE.out⟩
set_option maxRecDepth 100000 in
set_option maxHeartbeats 4000000 in
theorem Next_step_d (E P n : Nat) (w : World) (hF : Fmt E P) (hn : n < 2 ^ (E + P)) (hk : wkind E P n ≤ 3) (hs : n ≠ infw E P true) (htb : (rankZ E P n + (-1)).natAbs < 2 ^ 124) :
  Calls Tryz.prog 21 #[.agg #[.int .i64 (E : Nat), .int .i64 (P : Nat)], Word n, .bool false] w fun e w' => e = .returned (.tuple #[Word (rankW E P (rankZ E P n + (-1))), .int .i64 0]) ∧ Ext w w' := by
 obtain ⟨hE, hP, hb, hEP, hb1⟩ := fmt_bounds hF
 have hn8 : W128 n := w128_of hEP hn
 obtain ⟨i0, hi0⟩ : ∃ x : Nat, x = n / 18446744073709551616 := ⟨_, rfl⟩
 obtain ⟨i1, hi1⟩ : ∃ x : Nat, x = n % 18446744073709551616 := ⟨_, rfl⟩
 have ei : Word n = .agg #[.int .u64 i0, .int .u64 i1] := by unfold Word; rw [← hi0, ← hi1]
 obtain ⟨kd, hkd⟩ : ∃ x, x = wkind E P n := ⟨_, rfl⟩
 have CI : Hid (∀ w, Calls Tryz.prog 69 #[.agg #[.int .i64 (E : Nat), .int .i64 (P : Nat), .int .i64 0, .int .i64 (bias E : Nat)], .agg #[.int .u64 i0, .int .u64 i1]] w (LookPost kd (wn E P n) (wvalK E P (bias E) n) w)) := hid fun w => by
  rw [← ei, hkd]; exact look_c E P 0 (bias E) n w hF hb hn8
 have HW : Hid (withRes E P 0 [n] = .tuple #[.agg #[.int .i64 (E : Nat), .int .i64 (P : Nat), .int .i64 0, .int .i64 (bias E : Nat)], .int .i64 0]) := hid (by unfold withRes; rw [if_pos (fun x hx => by rw [List.mem_singleton] at hx; rw [hx]; exact hn)]; rfl)
 have hd : decide (4 ≤ kd) = false := decide_eq_false (by rw [hkd]; omega)
 obtain ⟨a0, a1, ea⟩ := Word.shape (infw E P true)
 have CIF : Hid (∀ w, Calls Tryz.prog 45 #[.agg #[.int .i64 (E : Nat), .int .i64 (P : Nat), .int .i64 0, .int .i64 (bias E : Nat)], .bool true] w fun e w' => e = .returned (.agg #[.int .u64 a0, .int .u64 a1]) ∧ Ext w w') := hid fun w => by
  have := infinite_c E P 0 (bias E) true w hF
  rwa [ea] at this
 have hne : (i0 ≠ a0) ∨ (i0 = a0 ∧ i1 ≠ a1) := by
  by_cases h0 : i0 = a0
  ·right; refine ⟨h0, fun h1 => hs ?_⟩
   have e2 : Word n = Word (infw E P true) := by rw [ei, ea, h0, h1]
   exact Word.inj e2
  ·left; exact h0
 obtain ⟨r0, r1, er⟩ := Word.shape (rankW E P (rankZ E P n + (-1)))
 have CK : Hid (∀ w, Calls Tryz.prog 70 #[.agg #[.int .i64 (E : Nat), .int .i64 (P : Nat), .int .i64 0, .int .i64 (bias E : Nat)], .agg #[.int .u64 i0, .int .u64 i1]] w fun e w' => ∃ v, e = .returned v ∧ NumV w' v ((rankZ E P n : Int) : Rat) ∧ Ext w w') := hid fun w => by
  have := rank_c E P 0 (bias E) n w hF hb hn8
  rwa [ei] at this
 have b0 := rankZ_lt (n := n) hEP
 obtain ⟨z, hz⟩ : ∃ z, z = rankZ E P n := ⟨_, rfl⟩
 rw [← hz] at CK b0 htb  er
 obtain ⟨t, ht⟩ : ∃ t, t = z + (-1) := ⟨_, rfl⟩
 rw [← ht] at htb  er
 have et : ((z : Int) : Rat) + (((-1) : Int) : Rat) = ((t : Int) : Rat) := by rw [ht, Rat.intCast_add]
 have tb : t.natAbs < 2 ^ 124 + 1 := by omega
 have CI1 : Hid (∀ w, _) := hid fun w => Int_c 1 w (by decide) (by decide)
 have CIm : Hid (∀ w, _) := hid fun w => Int_c (-1) w (by decide) (by decide)
 have CAD : Hid (∀ u v w, NumV w u ((z : Int) : Rat) → NumV w v (((-1) : Int) : Rat) → Calls Tryz.prog 83 #[u, v] w fun e w' => ∃ x, e = .returned x ∧ NumV w' x ((t : Int) : Rat) ∧ Ext w w') := hid fun u v w h k => by
  have := Add_c u v _ _ 124 w h k (SmQ.int (by decide) b0) (SmQ.int (by decide) (by decide)) (by decide)
  rwa [et] at this
 obtain ⟨sgn, hsgn⟩ : ∃ s, s = t.sign := ⟨_, rfl⟩
 have CSG : Hid (∀ v w, NumV w v ((t : Int) : Rat) → Calls Tryz.prog 27 #[v] w fun e w' => e = .returned (.int .i64 sgn) ∧ Ext w w') := hid fun v w h => by rw [hsgn]; exact sign_c v _ w h
 have CX : Hid (∀ v w, NumV w v ((t : Int) : Rat) → Calls Tryz.prog 84 #[.agg #[.int .i64 (E : Nat), .int .i64 (P : Nat), .int .i64 0, .int .i64 (bias E : Nat)], v] w fun e w' => e = .returned (.agg #[.int .u64 r0, .int .u64 r1]) ∧ Ext w w') := hid fun v w h => by
  have := ranked_c E P 0 (bias E) v t w hF h htb
  rwa [er] at this
 rw [← hz, ← ht, er]
 rw [ei]
 have HF := hid hF; have HN := hid hn8; have HI0 := hid hi0; have HI1 := hid hi1
 clear hF hn hE hP hb hEP hb1 hn8 hi0 hi1 ei hkd hk hs ea er hz ht et b0 tb hsgn htb
 obtain ⟨W0, hW0, g0, hz0, B_F, B_A, B_Z⟩ := pro3s w #[.int .i64 (E : Nat), .int .i64 (P : Nat)] #[.int .u64 i0, .int .u64 i1] #[.int .u64 0, .int .u64 0] 23 29 29
 have HE := hid g0
 have HB_F := hid B_F
 have HB_A := hid B_A
 have HB_Z := hid B_Z
 clear g0 B_F B_A B_Z 
 go_enter Tryz.func21, Tryz.ntmps21
 go_upto_region 1 with (fail)
 rw [← hW0]
 clear hW0
 obtain ⟨c_1, c_2⟩ := HB_F.out.c2
 obtain ⟨c_3, c_4⟩ := HB_A.out.c2
 obtain ⟨c_5, c_6⟩ := HB_Z.out.c2
 go_wp2_with fail
 clear c_1 c_2 c_3 c_4 c_5 c_6
 obtain ⟨W1, hW1, g1, hy1, B_R⟩ := pro1 W0 #[.int .u64 i0, .int .u64 i1] 29
 rw [← hW1]
 clear hW1
 have hz_W1 := g1.size
 replace HE := hid (HE.out.trans g1)
 replace HB_F := hid (HB_F.out.ext g1)
 replace HB_A := hid (HB_A.out.ext g1)
 replace HB_Z := hid (HB_Z.out.ext g1)
 have HB_R := hid B_R
 clear B_R
 have HWS : Hid (WSl W1 (.slice (some ⟨W0.heap.size, 0, none⟩) 1 1) [n]) := hid ⟨some ⟨W0.heap.size, 0, none⟩, W0.heap.size, 0, 1, rfl, Nat.le_refl _, by decide, fun _ => rfl, fun x hx => by
   rw [List.mem_singleton] at hx; rw [hx]; exact HN.out, fun i hi => by
   obtain rfl : i = 0 := by simpa using hi
   refine ⟨?_, ?_⟩
   ·have := HB_R.out.cell 0; rw [HI0.out] at this; exact this
   ·have := HB_R.out.cell 1; rw [HI1.out] at this; exact this⟩
 refine (with_good E P 0 _ [n] _ (by decide) HF.out HWS.out).mono ?_
 rintro e w2 ⟨rfl, g2⟩
 have hz_w2 := g2.size
 replace HE := hid (HE.out.trans g2)
 replace HB_F := hid (HB_F.out.ext g2)
 replace HB_A := hid (HB_A.out.ext g2)
 replace HB_Z := hid (HB_Z.out.ext g2)
 rw [HW.out]
 have gA := Ext.alloc w2 (.cells #[.int .i64 (E : Nat), .int .i64 (P : Nat), .int .i64 0, .int .i64 (bias E : Nat)] 81)
 obtain ⟨c_7, c_8⟩ := (HB_F.out.ext gA).c2
 obtain ⟨c_9, c_10⟩ := (HB_A.out.ext gA).c2
 obtain ⟨c_11, c_12⟩ := (HB_Z.out.ext gA).c2
 go_wp2_with fail
 clear gA c_7 c_8 c_9 c_10 c_11 c_12
 obtain ⟨W3, hW3, g3, hy3, B_M⟩ := pro1 w2 #[.int .i64 (E : Nat), .int .i64 (P : Nat), .int .i64 0, .int .i64 (bias E : Nat)] 81
 rw [← hW3]
 clear hW3
 have hz_W3 := g3.size
 replace HE := hid (HE.out.trans g3)
 replace HB_F := hid (HB_F.out.ext g3)
 replace HB_A := hid (HB_A.out.ext g3)
 replace HB_Z := hid (HB_Z.out.ext g3)
 have HB_M := hid B_M
 clear B_M
 generalize wn E P n = sg at *
 generalize wvalK E P (bias E) n = qv at *
 refine (CI.out _).mono ?_
 rintro e w4 ⟨v1, rfl, ⟨ng, a, k, c, a', k', c', rfl, kv⟩, g4⟩
 have hz_w4 := g4.size
 replace HE := hid (HE.out.trans g4)
 replace HB_F := hid (HB_F.out.ext g4)
 replace HB_A := hid (HB_A.out.ext g4)
 replace HB_Z := hid (HB_Z.out.ext g4)
 replace HB_M := hid (HB_M.out.ext g4)
 clear kv
 have hfd : ∀ W, (Instr.field 112 (.agg #[.int .i64 kd, .bool sg, .bool ng, .slice a k c, .slice a' k' c']) 0).run Tryz.prog W = .ok (.int .i64 kd) W := fun W => by kernel_rfl
 go_upto_region 6 with (fail)
 go_cut [31] (fun sv wx => sv = .bool false ∧ Hid (Ext w4 wx))
 case first =>
  rcases hne with h | ⟨h, h2⟩
  ·have hq : ¬ ((i0 : Nat) : Int) = (a0 : Int) := by omega
   clear h
   have HS : Hid (∀ w', Ext w4 w' → w'.cell? ⟨w.heap.size + 1, 0, none⟩ = some (.int .u64 i0) ∧ w'.cell? ⟨w.heap.size + 1, 1, none⟩ = some (.int .u64 i1) ∧ w'.cell? ⟨w2.heap.size, 0, none⟩ = some (.int .i64 (E : Nat)) ∧ w'.cell? ⟨w2.heap.size, 1, none⟩ = some (.int .i64 (P : Nat)) ∧ w'.cell? ⟨w2.heap.size, 2, none⟩ = some (.int .i64 0) ∧ w'.cell? ⟨w2.heap.size, 3, none⟩ = some (.int .i64 (bias E : Nat))) := hid fun w' h => ⟨(HB_A.out.ext h).cell 0, (HB_A.out.ext h).cell 1, (HB_M.out.ext h).cell 0, (HB_M.out.ext h).cell 1, (HB_M.out.ext h).cell 2, (HB_M.out.ext h).cell 3⟩
   have hb0 : Ext w4 w4.drew := Below.drew (Below.refl _ w4)
   refine wp_region_held_drew (S := fun w' => w'.cell? ⟨w.heap.size + 1, 0, none⟩ = some (.int .u64 i0) ∧ w'.cell? ⟨w.heap.size + 1, 1, none⟩ = some (.int .u64 i1) ∧ w'.cell? ⟨w2.heap.size, 0, none⟩ = some (.int .i64 (E : Nat)) ∧ w'.cell? ⟨w2.heap.size, 1, none⟩ = some (.int .i64 (P : Nat)) ∧ w'.cell? ⟨w2.heap.size, 2, none⟩ = some (.int .i64 0) ∧ w'.cell? ⟨w2.heap.size, 3, none⟩ = some (.int .i64 (bias E : Nat))) (by kernel_rfl) (HS.out _ hb0) (fun hHeld => ?_)
   refine wpAnyH_take (i := 0) (oi := { dst := some 32, op := Op.load 29 (Operand.tmp 4), type := 29, pos := "floats.go:390", after := #[], guard := none }) (v := ?_) rfl (by kernel_rfl) (by kernel_rfl) (by kernel_rfl) (fun _ _ _ h => h) (Or.inl ⟨by rfl, ?_⟩) (by assumption) ?_
   rotate_left
   ·intro w' hSw
    (try dsimp only at hSw)
    go_simp <;> with_reducible rfl
   try simp only [Act.put, List.setIfInBounds_toArray, List.set_cons_zero, List.set_cons_succ]
   refine wpAnyH_take (i := 1) (oi := { dst := some 33, op := Op.load 81 (Operand.tmp 8), type := 81, pos := "floats.go:390", after := #[], guard := none }) (v := ?_) rfl (by kernel_rfl) (by kernel_rfl) (by kernel_rfl) (fun _ _ _ h => h) (Or.inl ⟨by rfl, ?_⟩) (by assumption) ?_
   rotate_left
   ·intro w' hSw
    (try dsimp only at hSw)
    go_simp <;> with_reducible rfl
   try simp only [Act.put, List.setIfInBounds_toArray, List.set_cons_zero, List.set_cons_succ]
   refine wpAnyH_take (i := 2) (oi := { dst := some 34, op := Op.move (Operand.tmp 2), type := 4, pos := "floats.go:390", after := #[], guard := none }) (v := ?_) rfl (by kernel_rfl) (by kernel_rfl) (by kernel_rfl) (fun _ _ _ h => h) (Or.inl ⟨by rfl, ?_⟩) (by assumption) ?_
   rotate_left
   ·intro w' hSw
    (try dsimp only at hSw)
    go_simp <;> with_reducible rfl
   try simp only [Act.put, List.setIfInBounds_toArray, List.set_cons_zero, List.set_cons_succ]
   refine wpAnyH_take (i := 3) (oi := { dst := some 35, op := Op.unOp UnOp.not 4 (Operand.tmp 34), type := 4, pos := "floats.go:390", after := #[{ on := 2, ground := Ground.data }], guard := none }) (v := ?_) rfl (by kernel_rfl) (by kernel_rfl) (by kernel_rfl) (fun _ _ _ h => h) (Or.inl ⟨by rfl, ?_⟩) (by assumption) ?_
   rotate_left
   ·intro w' hSw
    (try dsimp only at hSw)
    go_simp <;> with_reducible rfl
   try simp only [Act.put, List.setIfInBounds_toArray, List.set_cons_zero, List.set_cons_succ]
   refine wpAnyH_ready (rs := [4]) (by kernel_rfl) (by simp) ?_
   refine AllReadyH.cons (o := { dst := some 36, op := Op.call { callee := Callee.value (Operand.func 45), args := #[Operand.tmp 33, Operand.tmp 35], argTypes := #[81, 4] }, type := 29, pos := "floats.go:390", after := #[{ on := 1, ground := Ground.data }, { on := 3, ground := Ground.data }], guard := none }) rfl (fun K hK => ?_) AllReadyH.nil
   go_simp
   refine (CIF.out _).mono ?_
   rintro e x13_1 ⟨rfl, g1⟩
   have hb1 : Ext w4 x13_1 := hb0.trans g1
   try dsimp only
   refine hK.out _ _ (HS.out _ hb1) ?_
   clear hHeld
   intro hHeld
   clear hK K
   try simp only [Act.put, List.setIfInBounds_toArray, List.set_cons_zero, List.set_cons_succ]
   refine wpAnyH_take (i := 5) (oi := { dst := some 37, op := Op.binOp BinOp.eql 29 (Operand.tmp 32) (Operand.tmp 36) 29, type := 4, pos := "floats.go:390", after := #[{ on := 0, ground := Ground.data }, { on := 4, ground := Ground.data }], guard := none }) (v := ?_) rfl (by kernel_rfl) (by kernel_rfl) (by kernel_rfl) (fun _ _ _ h => h) (Or.inl ⟨by rfl, ?_⟩) (by assumption) ?_
   rotate_left
   ·intro w' hSw
    (try dsimp only at hSw)
    go_simp <;> with_reducible rfl
   try simp only [Act.put, List.setIfInBounds_toArray, List.set_cons_zero, List.set_cons_succ]
   refine wpAnyH_take (i := 6) (oi := { dst := some 31, op := Op.assign (Operand.tmp 37), type := 4, pos := "floats.go:390", after := #[{ on := 5, ground := Ground.data }, { on := 4, ground := Ground.chain }], guard := none }) (v := ?_) rfl (by kernel_rfl) (by kernel_rfl) (by kernel_rfl) (fun _ _ _ h => h) (Or.inl ⟨by rfl, ?_⟩) (by assumption) ?_
   rotate_left
   ·intro w' hSw
    (try dsimp only at hSw)
    go_simp <;> with_reducible rfl
   try simp only [Act.put, List.setIfInBounds_toArray, List.set_cons_zero, List.set_cons_succ]
   refine wpAnyH_done (by kernel_rfl) ?_ _
   clear HS hHeld
   go_wp2_with fail
   go_meet
   exact ⟨rfl, hid hb1⟩
  ·subst h
   have hq : ¬ ((i1 : Nat) : Int) = (a1 : Int) := by omega
   clear h2
   have HS : Hid (∀ w', Ext w4 w' → w'.cell? ⟨w.heap.size + 1, 0, none⟩ = some (.int .u64 i0) ∧ w'.cell? ⟨w.heap.size + 1, 1, none⟩ = some (.int .u64 i1) ∧ w'.cell? ⟨w2.heap.size, 0, none⟩ = some (.int .i64 (E : Nat)) ∧ w'.cell? ⟨w2.heap.size, 1, none⟩ = some (.int .i64 (P : Nat)) ∧ w'.cell? ⟨w2.heap.size, 2, none⟩ = some (.int .i64 0) ∧ w'.cell? ⟨w2.heap.size, 3, none⟩ = some (.int .i64 (bias E : Nat))) := hid fun w' h => ⟨(HB_A.out.ext h).cell 0, (HB_A.out.ext h).cell 1, (HB_M.out.ext h).cell 0, (HB_M.out.ext h).cell 1, (HB_M.out.ext h).cell 2, (HB_M.out.ext h).cell 3⟩
   have hb0 : Ext w4 w4.drew := Below.drew (Below.refl _ w4)
   refine wp_region_held_drew (S := fun w' => w'.cell? ⟨w.heap.size + 1, 0, none⟩ = some (.int .u64 i0) ∧ w'.cell? ⟨w.heap.size + 1, 1, none⟩ = some (.int .u64 i1) ∧ w'.cell? ⟨w2.heap.size, 0, none⟩ = some (.int .i64 (E : Nat)) ∧ w'.cell? ⟨w2.heap.size, 1, none⟩ = some (.int .i64 (P : Nat)) ∧ w'.cell? ⟨w2.heap.size, 2, none⟩ = some (.int .i64 0) ∧ w'.cell? ⟨w2.heap.size, 3, none⟩ = some (.int .i64 (bias E : Nat))) (by kernel_rfl) (HS.out _ hb0) (fun hHeld => ?_)
   refine wpAnyH_take (i := 0) (oi := { dst := some 32, op := Op.load 29 (Operand.tmp 4), type := 29, pos := "floats.go:390", after := #[], guard := none }) (v := ?_) rfl (by kernel_rfl) (by kernel_rfl) (by kernel_rfl) (fun _ _ _ h => h) (Or.inl ⟨by rfl, ?_⟩) (by assumption) ?_
   rotate_left
   ·intro w' hSw
    (try dsimp only at hSw)
    go_simp <;> with_reducible rfl
   try simp only [Act.put, List.setIfInBounds_toArray, List.set_cons_zero, List.set_cons_succ]
   refine wpAnyH_take (i := 1) (oi := { dst := some 33, op := Op.load 81 (Operand.tmp 8), type := 81, pos := "floats.go:390", after := #[], guard := none }) (v := ?_) rfl (by kernel_rfl) (by kernel_rfl) (by kernel_rfl) (fun _ _ _ h => h) (Or.inl ⟨by rfl, ?_⟩) (by assumption) ?_
   rotate_left
   ·intro w' hSw
    (try dsimp only at hSw)
    go_simp <;> with_reducible rfl
   try simp only [Act.put, List.setIfInBounds_toArray, List.set_cons_zero, List.set_cons_succ]
   refine wpAnyH_take (i := 2) (oi := { dst := some 34, op := Op.move (Operand.tmp 2), type := 4, pos := "floats.go:390", after := #[], guard := none }) (v := ?_) rfl (by kernel_rfl) (by kernel_rfl) (by kernel_rfl) (fun _ _ _ h => h) (Or.inl ⟨by rfl, ?_⟩) (by assumption) ?_
   rotate_left
   ·intro w' hSw
    (try dsimp only at hSw)
    go_simp <;> with_reducible rfl
   try simp only [Act.put, List.setIfInBounds_toArray, List.set_cons_zero, List.set_cons_succ]
   refine wpAnyH_take (i := 3) (oi := { dst := some 35, op := Op.unOp UnOp.not 4 (Operand.tmp 34), type := 4, pos := "floats.go:390", after := #[{ on := 2, ground := Ground.data }], guard := none }) (v := ?_) rfl (by kernel_rfl) (by kernel_rfl) (by kernel_rfl) (fun _ _ _ h => h) (Or.inl ⟨by rfl, ?_⟩) (by assumption) ?_
   rotate_left
   ·intro w' hSw
    (try dsimp only at hSw)
    go_simp <;> with_reducible rfl
   try simp only [Act.put, List.setIfInBounds_toArray, List.set_cons_zero, List.set_cons_succ]
   refine wpAnyH_ready (rs := [4]) (by kernel_rfl) (by simp) ?_
   refine AllReadyH.cons (o := { dst := some 36, op := Op.call { callee := Callee.value (Operand.func 45), args := #[Operand.tmp 33, Operand.tmp 35], argTypes := #[81, 4] }, type := 29, pos := "floats.go:390", after := #[{ on := 1, ground := Ground.data }, { on := 3, ground := Ground.data }], guard := none }) rfl (fun K hK => ?_) AllReadyH.nil
   go_simp
   refine (CIF.out _).mono ?_
   rintro e x13_1 ⟨rfl, g1⟩
   have hb1 : Ext w4 x13_1 := hb0.trans g1
   try dsimp only
   refine hK.out _ _ (HS.out _ hb1) ?_
   clear hHeld
   intro hHeld
   clear hK K
   try simp only [Act.put, List.setIfInBounds_toArray, List.set_cons_zero, List.set_cons_succ]
   refine wpAnyH_take (i := 5) (oi := { dst := some 37, op := Op.binOp BinOp.eql 29 (Operand.tmp 32) (Operand.tmp 36) 29, type := 4, pos := "floats.go:390", after := #[{ on := 0, ground := Ground.data }, { on := 4, ground := Ground.data }], guard := none }) (v := ?_) rfl (by kernel_rfl) (by kernel_rfl) (by kernel_rfl) (fun _ _ _ h => h) (Or.inl ⟨by rfl, ?_⟩) (by assumption) ?_
   rotate_left
   ·intro w' hSw
    (try dsimp only at hSw)
    go_simp <;> with_reducible rfl
   try simp only [Act.put, List.setIfInBounds_toArray, List.set_cons_zero, List.set_cons_succ]
   refine wpAnyH_take (i := 6) (oi := { dst := some 31, op := Op.assign (Operand.tmp 37), type := 4, pos := "floats.go:390", after := #[{ on := 5, ground := Ground.data }, { on := 4, ground := Ground.chain }], guard := none }) (v := ?_) rfl (by kernel_rfl) (by kernel_rfl) (by kernel_rfl) (fun _ _ _ h => h) (Or.inl ⟨by rfl, ?_⟩) (by assumption) ?_
   rotate_left
   ·intro w' hSw
    (try dsimp only at hSw)
    go_simp <;> with_reducible rfl
   try simp only [Act.put, List.setIfInBounds_toArray, List.set_cons_zero, List.set_cons_succ]
   refine wpAnyH_done (by kernel_rfl) ?_ _
   clear HS hHeld
   go_wp2_with fail
   go_meet
   exact ⟨rfl, hid hb1⟩
 case rest =>
  obtain ⟨rfl, gx6⟩ := hcut
  clear hne
  have hz_wc := gx6.out.size
  replace HE := hid (HE.out.trans gx6.out)
  replace HB_F := hid (HB_F.out.ext gx6.out)
  replace HB_A := hid (HB_A.out.ext gx6.out)
  replace HB_Z := hid (HB_Z.out.ext gx6.out)
  replace HB_M := hid (HB_M.out.ext gx6.out)
  obtain ⟨c_13, c_14⟩ := HB_F.out.c2
  obtain ⟨c_15, c_16⟩ := HB_A.out.c2
  obtain ⟨c_17, c_18⟩ := HB_Z.out.c2
  obtain ⟨c_19, c_20, c_21, c_22⟩ := HB_M.out.c4
  go_wp2_with fail
  clear c_13 c_14 c_15 c_16 c_17 c_18 c_19 c_20 c_21 c_22
  refine (CI1.out _).mono ?_
  rintro e w5 ⟨v5, rfl, k5, g5⟩
  have hz_w5 := g5.size
  replace HE := hid (HE.out.trans g5)
  replace HB_F := hid (HB_F.out.ext g5)
  replace HB_A := hid (HB_A.out.ext g5)
  replace HB_Z := hid (HB_Z.out.ext g5)
  replace HB_M := hid (HB_M.out.ext g5)
  obtain ⟨ngq23, aq23, nq23, cq23, aq23', nq23', cq23', rfl⟩ := k5.shape
  have gA := Ext.alloc w5 (.cells #[.bool ngq23, .slice aq23 nq23 cq23, .slice aq23' nq23' cq23'] 40)
  obtain ⟨c_24, c_25⟩ := (HB_F.out.ext gA).c2
  obtain ⟨c_26, c_27⟩ := (HB_A.out.ext gA).c2
  obtain ⟨c_28, c_29⟩ := (HB_Z.out.ext gA).c2
  obtain ⟨c_30, c_31, c_32, c_33⟩ := (HB_M.out.ext gA).c4
  go_wp2_with fail
  clear gA c_24 c_25 c_26 c_27 c_28 c_29 c_30 c_31 c_32 c_33
  obtain ⟨W6, hW6, g6, hy6, B_N⟩ := pro1 w5 #[.bool ngq23, .slice aq23 nq23 cq23, .slice aq23' nq23' cq23'] 40
  rw [← hW6]
  clear hW6
  have hz_W6 := g6.size
  replace HE := hid (HE.out.trans g6)
  replace HB_F := hid (HB_F.out.ext g6)
  replace HB_A := hid (HB_A.out.ext g6)
  replace HB_Z := hid (HB_Z.out.ext g6)
  replace HB_M := hid (HB_M.out.ext g6)
  replace k5 := k5.ext g6
  have HB_N := hid B_N
  clear B_N
  refine (CIm.out _).mono ?_
  rintro e w7 ⟨v6, rfl, k6, g7⟩
  have hz_w7 := g7.size
  replace HE := hid (HE.out.trans g7)
  replace HB_F := hid (HB_F.out.ext g7)
  replace HB_A := hid (HB_A.out.ext g7)
  replace HB_Z := hid (HB_Z.out.ext g7)
  replace HB_M := hid (HB_M.out.ext g7)
  replace HB_N := hid (HB_N.out.ext g7)
  replace k5 := k5.ext g7
  obtain ⟨ng6, a6, n6, c6, a6', n6', c6', rfl⟩ := k6.shape
  obtain ⟨c_34, c_35, c_36⟩ := HB_N.out.c3
  obtain ⟨f_37, f_38, f_39⟩ := HB_N.out.f3
  go_upto_region 11 with (fail)
  clear c_34 c_35 c_36 f_37 f_38 f_39
  obtain ⟨W8, hW8, g8, q8, B8, hy8, ho8⟩ := sto3 HE.out (by omega) HB_N.out (by decide) (.bool ng6) (.slice a6 n6 c6) (.slice a6' n6' c6')
  rw [← hW8]
  clear hW8
  replace HE := hid g8
  replace HB_F := hid (ho8 _ _ _ (by omega) HB_F.out)
  replace HB_A := hid (ho8 _ _ _ (by omega) HB_A.out)
  replace HB_Z := hid (ho8 _ _ _ (by omega) HB_Z.out)
  replace HB_M := hid (ho8 _ _ _ (by omega) HB_M.out)
  replace HB_N := hid B8
  replace k5 := k5.keep q8
  replace k6 := k6.keep q8
  have HS : Hid (∀ w', Ext W8 w' → w'.cell? ⟨w2.heap.size, 0, none⟩ = some (.int .i64 (E : Nat)) ∧ w'.cell? ⟨w2.heap.size, 1, none⟩ = some (.int .i64 (P : Nat)) ∧ w'.cell? ⟨w2.heap.size, 2, none⟩ = some (.int .i64 0) ∧ w'.cell? ⟨w2.heap.size, 3, none⟩ = some (.int .i64 (bias E : Nat)) ∧ w'.cell? ⟨w.heap.size + 1, 0, none⟩ = some (.int .u64 i0) ∧ w'.cell? ⟨w.heap.size + 1, 1, none⟩ = some (.int .u64 i1) ∧ w'.cell? ⟨w5.heap.size, 0, none⟩ = some (.bool ng6) ∧ w'.cell? ⟨w5.heap.size, 1, none⟩ = some (.slice a6 n6 c6) ∧ w'.cell? ⟨w5.heap.size, 2, none⟩ = some (.slice a6' n6' c6')) := hid fun w' h => ⟨(HB_M.out.ext h).cell 0, (HB_M.out.ext h).cell 1, (HB_M.out.ext h).cell 2, (HB_M.out.ext h).cell 3, (HB_A.out.ext h).cell 0, (HB_A.out.ext h).cell 1, (HB_N.out.ext h).cell 0, (HB_N.out.ext h).cell 1, (HB_N.out.ext h).cell 2⟩
  have hlt_M : w2.heap.size < W8.heap.size := cell_lt HB_M.out
  have hlt_A : w.heap.size + 1 < W8.heap.size := cell_lt HB_A.out
  have hlt_N : w5.heap.size < W8.heap.size := cell_lt HB_N.out
  have HSN : Hid (∀ (g : Nat) (v0 v1 v2 : Value) (w' : World), W8.heap.size ≤ g → Ext W8 w' → (((w'.setCell ⟨g, 0, none⟩ v0).setCell ⟨g, 1, none⟩ v1).setCell ⟨g, 2, none⟩ v2).cell? ⟨w2.heap.size, 0, none⟩ = some (.int .i64 (E : Nat)) ∧ (((w'.setCell ⟨g, 0, none⟩ v0).setCell ⟨g, 1, none⟩ v1).setCell ⟨g, 2, none⟩ v2).cell? ⟨w2.heap.size, 1, none⟩ = some (.int .i64 (P : Nat)) ∧ (((w'.setCell ⟨g, 0, none⟩ v0).setCell ⟨g, 1, none⟩ v1).setCell ⟨g, 2, none⟩ v2).cell? ⟨w2.heap.size, 2, none⟩ = some (.int .i64 0) ∧ (((w'.setCell ⟨g, 0, none⟩ v0).setCell ⟨g, 1, none⟩ v1).setCell ⟨g, 2, none⟩ v2).cell? ⟨w2.heap.size, 3, none⟩ = some (.int .i64 (bias E : Nat)) ∧ (((w'.setCell ⟨g, 0, none⟩ v0).setCell ⟨g, 1, none⟩ v1).setCell ⟨g, 2, none⟩ v2).cell? ⟨w.heap.size + 1, 0, none⟩ = some (.int .u64 i0) ∧ (((w'.setCell ⟨g, 0, none⟩ v0).setCell ⟨g, 1, none⟩ v1).setCell ⟨g, 2, none⟩ v2).cell? ⟨w.heap.size + 1, 1, none⟩ = some (.int .u64 i1) ∧ (((w'.setCell ⟨g, 0, none⟩ v0).setCell ⟨g, 1, none⟩ v1).setCell ⟨g, 2, none⟩ v2).cell? ⟨w5.heap.size, 0, none⟩ = some (.bool ng6) ∧ (((w'.setCell ⟨g, 0, none⟩ v0).setCell ⟨g, 1, none⟩ v1).setCell ⟨g, 2, none⟩ v2).cell? ⟨w5.heap.size, 1, none⟩ = some (.slice a6 n6 c6) ∧ (((w'.setCell ⟨g, 0, none⟩ v0).setCell ⟨g, 1, none⟩ v1).setCell ⟨g, 2, none⟩ v2).cell? ⟨w5.heap.size, 2, none⟩ = some (.slice a6' n6' c6')) := hid fun g v0 v1 v2 w' hg h => ⟨(cell_other (show w2.heap.size ≠ g by omega) (cell_other (show w2.heap.size ≠ g by omega) (cell_other (show w2.heap.size ≠ g by omega) ((HB_M.out.ext h).cell 0)))), (cell_other (show w2.heap.size ≠ g by omega) (cell_other (show w2.heap.size ≠ g by omega) (cell_other (show w2.heap.size ≠ g by omega) ((HB_M.out.ext h).cell 1)))), (cell_other (show w2.heap.size ≠ g by omega) (cell_other (show w2.heap.size ≠ g by omega) (cell_other (show w2.heap.size ≠ g by omega) ((HB_M.out.ext h).cell 2)))), (cell_other (show w2.heap.size ≠ g by omega) (cell_other (show w2.heap.size ≠ g by omega) (cell_other (show w2.heap.size ≠ g by omega) ((HB_M.out.ext h).cell 3)))), (cell_other (show w.heap.size + 1 ≠ g by omega) (cell_other (show w.heap.size + 1 ≠ g by omega) (cell_other (show w.heap.size + 1 ≠ g by omega) ((HB_A.out.ext h).cell 0)))), (cell_other (show w.heap.size + 1 ≠ g by omega) (cell_other (show w.heap.size + 1 ≠ g by omega) (cell_other (show w.heap.size + 1 ≠ g by omega) ((HB_A.out.ext h).cell 1)))), (cell_other (show w5.heap.size ≠ g by omega) (cell_other (show w5.heap.size ≠ g by omega) (cell_other (show w5.heap.size ≠ g by omega) ((HB_N.out.ext h).cell 0)))), (cell_other (show w5.heap.size ≠ g by omega) (cell_other (show w5.heap.size ≠ g by omega) (cell_other (show w5.heap.size ≠ g by omega) ((HB_N.out.ext h).cell 1)))), (cell_other (show w5.heap.size ≠ g by omega) (cell_other (show w5.heap.size ≠ g by omega) (cell_other (show w5.heap.size ≠ g by omega) ((HB_N.out.ext h).cell 2))))⟩
  clear hlt_M hlt_A hlt_N
  have hb0 : Ext W8 W8.drew := Below.drew (Below.refl _ W8)
  have HNEW := hid newFacts
  go_cut [11] (fun sv wx => ∃ g : Nat, sv = .pointer (some ⟨g, 0, none⟩) ∧ Hid (Ext W8 wx) ∧ W8.heap.size ≤ g ∧ NumBox wx g (((t : Int) : Rat)))
  case first =>
   go_region_held3 (fun w' => w'.cell? ⟨w2.heap.size, 0, none⟩ = some (.int .i64 (E : Nat)) ∧ w'.cell? ⟨w2.heap.size, 1, none⟩ = some (.int .i64 (P : Nat)) ∧ w'.cell? ⟨w2.heap.size, 2, none⟩ = some (.int .i64 0) ∧ w'.cell? ⟨w2.heap.size, 3, none⟩ = some (.int .i64 (bias E : Nat)) ∧ w'.cell? ⟨w.heap.size + 1, 0, none⟩ = some (.int .u64 i0) ∧ w'.cell? ⟨w.heap.size + 1, 1, none⟩ = some (.int .u64 i1) ∧ w'.cell? ⟨w5.heap.size, 0, none⟩ = some (.bool ng6) ∧ w'.cell? ⟨w5.heap.size, 1, none⟩ = some (.slice a6 n6 c6) ∧ w'.cell? ⟨w5.heap.size, 2, none⟩ = some (.slice a6' n6' c6'))
     (first | exact HS.out _ (by assumption) | exact HS.out _ (Ext.trans (by assumption) (Ext.alloc _ _)) | exact HSN.out _ _ _ _ _ (by first | omega | (simp only [World.size_drew]; omega)) (by assumption) | exact HSN.out _ _ _ _ _ (by first | omega | (simp only [World.size_drew]; omega)) (Ext.trans (by assumption) (Ext.alloc _ _)))
    (first
      | (go_at_call 70; (with_reducible refine (CK.out _).mono ?_); rintro e x40_1 ⟨v7, rfl, m7, g1⟩; have hb1 : Ext W8 x40_1 := (by first | exact hb0.trans g1 | exact (hb0.trans (Ext.alloc _ _)).trans g1); have hs1 := hb1.size)
      | (go_at_call 83; (with_reducible refine (CAD.out _ _ _ (by first | exact m7 | exact (m7).ext (Ext.alloc _ _)) (by first | exact k6.ext hb1 | exact (k6.ext hb1).ext (Ext.alloc _ _))).mono ?_); rintro e x40_2 ⟨v8, rfl, m8, g2⟩; have hb2 : Ext W8 x40_2 := (by first | exact hb1.trans g2 | exact (hb1.trans (Ext.alloc _ _)).trans g2); have hs2 := hb2.size; obtain ⟨ng8, a8, n8, c8, a8', n8', c8', rfl⟩ := m8.shape; (first | (have yy := HNEW.out _ _ g2; (try simp only [World.size_drew] at yy); obtain ⟨y0, y1, y2, y3, y4, y5⟩ := yy) | (have yy := HNEW.out _ _ ((Ext.undrew g1).trans g2); (try simp only [World.size_drew] at yy); obtain ⟨y0, y1, y2, y3, y4, y5⟩ := yy) | (obtain ⟨y0, y1, y2, y3, y4, y5⟩ := HNEW.out x40_2 _ (Below.refl _ _)))))
   all_goals (go_wp2_with fail; go_meet; first | exact ⟨_, rfl, newNum0 hb2 m8⟩ | exact ⟨_, rfl, newNum hb2 (by first | omega | (simp only [World.size_drew]; omega)) ((Box.new _ _ _).ext g2) m8⟩ | exact ⟨_, rfl, newNum hb2 (by first | omega | (simp only [World.size_drew]; omega)) (((Box.new _ _ _).ext (Ext.undrew g1)).ext g2) m8⟩)
  case rest =>
   obtain ⟨gR, rfl, gx9, hg9, ng9, a9, n9, c9, a9', n9', c9', B9, kv9⟩ := hcut
   have hz_wc := gx9.out.size
   replace HE := hid (HE.out.trans gx9.out)
   replace HB_F := hid (HB_F.out.ext gx9.out)
   replace HB_A := hid (HB_A.out.ext gx9.out)
   replace HB_Z := hid (HB_Z.out.ext gx9.out)
   replace HB_M := hid (HB_M.out.ext gx9.out)
   replace HB_N := hid (HB_N.out.ext gx9.out)
   replace k5 := k5.ext gx9.out
   replace k6 := k6.ext gx9.out
   have HB_R := hid B9
   clear B9 HS HSN HNEW
   obtain ⟨c_41, c_42⟩ := HB_F.out.c2
   obtain ⟨c_43, c_44⟩ := HB_A.out.c2
   obtain ⟨c_45, c_46⟩ := HB_Z.out.c2
   obtain ⟨c_47, c_48, c_49, c_50⟩ := HB_M.out.c4
   obtain ⟨c_51, c_52, c_53⟩ := HB_N.out.c3
   obtain ⟨c_54, c_55, c_56⟩ := HB_R.out.c3
   go_wp2_with fail
   clear c_41 c_42 c_43 c_44 c_45 c_46 c_47 c_48 c_49 c_50 c_51 c_52 c_53 c_54 c_55 c_56
   refine (CSG.out _ _ kv9).mono ?_
   rintro e w10 ⟨rfl, g10⟩
   have hz_w10 := g10.size
   replace HE := hid (HE.out.trans g10)
   replace HB_F := hid (HB_F.out.ext g10)
   replace HB_A := hid (HB_A.out.ext g10)
   replace HB_Z := hid (HB_Z.out.ext g10)
   replace HB_M := hid (HB_M.out.ext g10)
   replace HB_N := hid (HB_N.out.ext g10)
   replace HB_R := hid (HB_R.out.ext g10)
   replace k5 := k5.ext g10
   replace k6 := k6.ext g10
   replace kv9 := kv9.ext g10
   by_cases h0 : sgn = 0
   ·subst h0
    obtain ⟨c_57, c_58⟩ := HB_F.out.c2
    obtain ⟨c_59, c_60⟩ := HB_A.out.c2
    obtain ⟨c_61, c_62⟩ := HB_Z.out.c2
    obtain ⟨c_63, c_64, c_65, c_66⟩ := HB_M.out.c4
    obtain ⟨c_67, c_68, c_69⟩ := HB_N.out.c3
    obtain ⟨c_70, c_71, c_72⟩ := HB_R.out.c3
    go_wp2_with fail
    clear c_57 c_58 c_59 c_60 c_61 c_62 c_63 c_64 c_65 c_66 c_67 c_68 c_69 c_70 c_71 c_72
    refine (CX.out _ _ kv9).mono ?_
    rintro e w11 ⟨rfl, g11⟩
    have hz_w11 := g11.size
    replace HE := hid (HE.out.trans g11)
    replace HB_F := hid (HB_F.out.ext g11)
    replace HB_A := hid (HB_A.out.ext g11)
    replace HB_Z := hid (HB_Z.out.ext g11)
    replace HB_M := hid (HB_M.out.ext g11)
    replace HB_N := hid (HB_N.out.ext g11)
    replace HB_R := hid (HB_R.out.ext g11)
    replace k5 := k5.ext g11
    replace k6 := k6.ext g11
    replace kv9 := kv9.ext g11
    obtain ⟨c_73, c_74⟩ := HB_Z.out.c2
    obtain ⟨f_75, f_76⟩ := HB_Z.out.f2
    go_wp2_with fail
    clear c_73 c_74 f_75 f_76
    obtain ⟨W12, hW12, g12, q12, B12, hy12, ho12⟩ := sto2 HE.out (by omega) HB_Z.out (by decide) (.int .u64 r0) (.int .u64 r1)
    rw [← hW12]
    clear hW12
    replace HE := hid g12
    replace HB_F := hid (ho12 _ _ _ (by omega) HB_F.out)
    replace HB_A := hid (ho12 _ _ _ (by omega) HB_A.out)
    replace HB_M := hid (ho12 _ _ _ (by omega) HB_M.out)
    replace HB_N := hid (ho12 _ _ _ (by omega) HB_N.out)
    replace HB_R := hid (ho12 _ _ _ (by omega) HB_R.out)
    replace HB_Z := hid B12
    replace k5 := k5.keep q12
    replace k6 := k6.keep q12
    replace kv9 := kv9.keep q12
    obtain ⟨c_77, c_78⟩ := HB_Z.out.c2
    refine bodyPost_ret (v := .tuple #[.agg #[.int .u64 r0, .int .u64 r1], .int .i64 0]) (by simp [results, Tryz.results21, go_sem, c_77, c_78]) rfl ⟨rfl, HE.out⟩
   ·have hsz : (sgn == 0) = false := beq_eq_false_iff_ne.2 h0
    clear h0
    obtain ⟨c_57, c_58⟩ := HB_F.out.c2
    obtain ⟨c_59, c_60⟩ := HB_A.out.c2
    obtain ⟨c_61, c_62⟩ := HB_Z.out.c2
    obtain ⟨c_63, c_64, c_65, c_66⟩ := HB_M.out.c4
    obtain ⟨c_67, c_68, c_69⟩ := HB_N.out.c3
    obtain ⟨c_70, c_71, c_72⟩ := HB_R.out.c3
    go_wp2_with fail
    clear c_57 c_58 c_59 c_60 c_61 c_62 c_63 c_64 c_65 c_66 c_67 c_68 c_69 c_70 c_71 c_72
    refine (CX.out _ _ kv9).mono ?_
    rintro e w11 ⟨rfl, g11⟩
    have hz_w11 := g11.size
    replace HE := hid (HE.out.trans g11)
    replace HB_F := hid (HB_F.out.ext g11)
    replace HB_A := hid (HB_A.out.ext g11)
    replace HB_Z := hid (HB_Z.out.ext g11)
    replace HB_M := hid (HB_M.out.ext g11)
    replace HB_N := hid (HB_N.out.ext g11)
    replace HB_R := hid (HB_R.out.ext g11)
    replace k5 := k5.ext g11
    replace k6 := k6.ext g11
    replace kv9 := kv9.ext g11
    obtain ⟨c_73, c_74⟩ := HB_Z.out.c2
    obtain ⟨f_75, f_76⟩ := HB_Z.out.f2
    go_wp2_with fail
    clear c_73 c_74 f_75 f_76
    obtain ⟨W12, hW12, g12, q12, B12, hy12, ho12⟩ := sto2 HE.out (by omega) HB_Z.out (by decide) (.int .u64 r0) (.int .u64 r1)
    rw [← hW12]
    clear hW12
    replace HE := hid g12
    replace HB_F := hid (ho12 _ _ _ (by omega) HB_F.out)
    replace HB_A := hid (ho12 _ _ _ (by omega) HB_A.out)
    replace HB_M := hid (ho12 _ _ _ (by omega) HB_M.out)
    replace HB_N := hid (ho12 _ _ _ (by omega) HB_N.out)
    replace HB_R := hid (ho12 _ _ _ (by omega) HB_R.out)
    replace HB_Z := hid B12
    replace k5 := k5.keep q12
    replace k6 := k6.keep q12
    replace kv9 := kv9.keep q12
    obtain ⟨c_77, c_78⟩ := HB_Z.out.c2
    refine bodyPost_ret (v := .tuple #[.agg #[.int .u64 r0, .int .u64 r1], .int .i64 0]) (by simp [results, Tryz.results21, go_sem, c_77, c_78]) rfl ⟨rfl, HE.out⟩
set_option maxRecDepth 100000 in
set_option maxHeartbeats 4000000 in
theorem Nth_word (E P : Nat) (x : Value) (q : Rat) (k zx : Int) (w : World) (hF : Fmt E P) (hx : NumV w x q) (hk : 0 ≤ k) (hk2 : k < 9223372036854775808) (bx : zx.natAbs < 2 ^ 124) (CA : Hid (∀ v w, NumV w v q → Tabs w → Calls Tryz.prog 98 #[.agg #[.int .i64 (E : Nat), .int .i64 (P : Nat), .int .i64 0, .int .i64 (bias E : Nat)], v, .int .i64 3] w fun e w' => ∃ v, e = .returned v ∧ NumV w' v ((zx : Int) : Rat) ∧ Ext w w')) (hT : Tabs w) (hb : zx + k < rankZ E P (infw E P false)) (htb : (zx + k).natAbs < 2 ^ 124) :
  Calls Tryz.prog 40 #[.agg #[.int .i64 (E : Nat), .int .i64 (P : Nat)], x, .int .i64 k] w fun e w' => e = .returned (.tuple #[Word (rankW E P (zx + k)), .int .i64 0]) ∧ Ext w w' := by
 obtain ⟨hE, hP, hb0, hEP, hb1⟩ := fmt_bounds hF
 obtain ⟨ng, a, n, c, a', n', c', rfl⟩ := hx.shape
 have CW := hid (fun w => with_nil E P w hF)
 have hd0 : decide (k < 0) = false := decide_eq_false (by omega)
 obtain ⟨zi, hzi⟩ : ∃ z, z = rankZ E P (infw E P false) := ⟨_, rfl⟩
 rw [← hzi] at hb
 have bi : zi.natAbs < 2 ^ 124 := by rw [hzi]; exact rankZ_lt hEP
 have i8 : W128 (infw E P false) := Nat.lt_trans (infw_lt hF false) (by decide)
 obtain ⟨a0, a1, ea⟩ := Word.shape (infw E P false)
 have CIF : Hid (∀ w, Calls Tryz.prog 45 #[.agg #[.int .i64 (E : Nat), .int .i64 (P : Nat), .int .i64 0, .int .i64 (bias E : Nat)], .bool false] w fun e w' => e = .returned (.agg #[.int .u64 a0, .int .u64 a1]) ∧ Ext w w') := hid fun w => by
  have := infinite_c E P 0 (bias E) false w hF
  rwa [ea] at this
 have CK : Hid (∀ w, Calls Tryz.prog 70 #[.agg #[.int .i64 (E : Nat), .int .i64 (P : Nat), .int .i64 0, .int .i64 (bias E : Nat)], .agg #[.int .u64 a0, .int .u64 a1]] w fun e w' => ∃ v, e = .returned v ∧ NumV w' v ((zi : Int) : Rat) ∧ Ext w w') := hid fun w => by
  have := rank_c E P 0 (bias E) (infw E P false) w hF hb0 i8
  rwa [ea, ← hzi] at this
 obtain ⟨t, ht⟩ : ∃ t, t = zx + k := ⟨_, rfl⟩
 rw [← ht] at hb htb
 have et : ((zx : Int) : Rat) + ((k : Int) : Rat) = ((t : Int) : Rat) := by rw [ht, Rat.intCast_add]
 have kb : k.natAbs < 2 ^ 124 := by omega
 have sk : SmQ 124 ((k : Int) : Rat) := SmQ.int (by decide) kb
 have sx : SmQ 124 ((zx : Int) : Rat) := SmQ.int (by decide) bx
 have st : SmQ 249 ((t : Int) : Rat) := by rw [← et]; exact sx.add sk
 have CI1 : Hid (∀ w, _) := hid fun w => Int_c k w (by omega) hk2
 have CAD : Hid (∀ u v w, NumV w u ((zx : Int) : Rat) → NumV w v ((k : Int) : Rat) → Calls Tryz.prog 83 #[u, v] w fun e w' => ∃ x, e = .returned x ∧ NumV w' x ((t : Int) : Rat) ∧ Ext w w') := hid fun u v w h j => by
  have := Add_c u v _ _ 124 w h j sx sk (by decide)
  rwa [et] at this
 obtain ⟨cc, hcc⟩ : ∃ s, s = cmpQ ((t : Int) : Rat) ((zi : Int) : Rat) := ⟨_, rfl⟩
 have CCM : Hid (∀ u v w, NumV w u ((t : Int) : Rat) → NumV w v ((zi : Int) : Rat) → Calls Tryz.prog 19 #[u, v] w fun e w' => e = .returned (.int .i64 cc) ∧ Ext w w') := hid fun u v w h j => by
  rw [hcc]; exact Cmp_c u v _ _ 249 w h j st ((SmQ.int (K := 124) (by decide) bi).mono (by decide)) (by decide)
 have hcv : cc < 0 ↔ t < zi := by rw [hcc, cmpQ_lt, Rat.intCast_lt_intCast]
 have hd : decide (0 ≤ cc) = false := decide_eq_false (by have := hcv.2 hb; omega)
 obtain ⟨r0, r1, er⟩ := Word.shape (rankW E P t)
 have CX : Hid (∀ v w, NumV w v ((t : Int) : Rat) → Calls Tryz.prog 84 #[.agg #[.int .i64 (E : Nat), .int .i64 (P : Nat), .int .i64 0, .int .i64 (bias E : Nat)], v] w fun e w' => e = .returned (.agg #[.int .u64 r0, .int .u64 r1]) ∧ Ext w w') := hid fun v w h => by
  have := ranked_c E P 0 (bias E) v t w hF h htb
  rwa [er] at this
 rw [← ht, er]
 have HX := hid hx; have HT := hid hT
 clear hF hx hk hk2 bx hb hT hE hP hb0 hEP hb1 hzi bi i8 ea ht et kb sk sx st hcc hcv htb er
 obtain ⟨W0, hW0, g0, hz0, B_F, B_X, B_Z⟩ := pro3s w #[.int .i64 (E : Nat), .int .i64 (P : Nat)] #[.bool ng, .slice a n c, .slice a' n' c'] #[.int .u64 0, .int .u64 0] 23 40 29
 have HE := hid g0
 have HB_F := hid B_F
 have HB_X := hid B_X
 have HB_Z := hid B_Z
 clear g0 B_F B_X B_Z 
 go_enter Tryz.func40, Tryz.ntmps40
 go_upto_region 1 with (fail)
 rw [← hW0]
 clear hW0
 have kx := HX.out.ext HE.out
 obtain ⟨c_1, c_2⟩ := HB_F.out.c2
 obtain ⟨c_3, c_4, c_5⟩ := HB_X.out.c3
 obtain ⟨c_6, c_7⟩ := HB_Z.out.c2
 go_wp2_with fail
 clear c_1 c_2 c_3 c_4 c_5 c_6 c_7
 refine (CW.out _).mono ?_
 rintro e w1 ⟨rfl, g1⟩
 have hz_w1 := g1.size
 replace HE := hid (HE.out.trans g1)
 replace HB_F := hid (HB_F.out.ext g1)
 replace HB_X := hid (HB_X.out.ext g1)
 replace HB_Z := hid (HB_Z.out.ext g1)
 replace kx := kx.ext g1
 have gA := Ext.alloc w1 (.cells #[.int .i64 (E : Nat), .int .i64 (P : Nat), .int .i64 0, .int .i64 (bias E : Nat)] 81)
 obtain ⟨c_8, c_9⟩ := (HB_F.out.ext gA).c2
 obtain ⟨c_10, c_11, c_12⟩ := (HB_X.out.ext gA).c3
 obtain ⟨c_13, c_14⟩ := (HB_Z.out.ext gA).c2
 go_wp2_with fail
 clear gA c_8 c_9 c_10 c_11 c_12 c_13 c_14
 obtain ⟨W2, hW2, g2, hy2, B_M⟩ := pro1 w1 #[.int .i64 (E : Nat), .int .i64 (P : Nat), .int .i64 0, .int .i64 (bias E : Nat)] 81
 rw [← hW2]
 clear hW2
 have hz_W2 := g2.size
 replace HE := hid (HE.out.trans g2)
 replace HB_F := hid (HB_F.out.ext g2)
 replace HB_X := hid (HB_X.out.ext g2)
 replace HB_Z := hid (HB_Z.out.ext g2)
 replace kx := kx.ext g2
 have HB_M := hid B_M
 clear B_M
 refine (CA.out _ _ kx (HT.out.ext HE.out)).mono ?_
 rintro e w3 ⟨v2, rfl, k2, g3⟩
 have hz_w3 := g3.size
 replace HE := hid (HE.out.trans g3)
 replace HB_F := hid (HB_F.out.ext g3)
 replace HB_X := hid (HB_X.out.ext g3)
 replace HB_Z := hid (HB_Z.out.ext g3)
 replace HB_M := hid (HB_M.out.ext g3)
 replace kx := kx.ext g3
 obtain ⟨c_15, c_16⟩ := HB_F.out.c2
 obtain ⟨c_17, c_18, c_19⟩ := HB_X.out.c3
 obtain ⟨c_20, c_21⟩ := HB_Z.out.c2
 obtain ⟨c_22, c_23, c_24, c_25⟩ := HB_M.out.c4
 go_wp2_with fail
 clear c_15 c_16 c_17 c_18 c_19 c_20 c_21 c_22 c_23 c_24 c_25
 refine (CI1.out _).mono ?_
 rintro e w4 ⟨v3, rfl, k3, g4⟩
 have hz_w4 := g4.size
 replace HE := hid (HE.out.trans g4)
 replace HB_F := hid (HB_F.out.ext g4)
 replace HB_X := hid (HB_X.out.ext g4)
 replace HB_Z := hid (HB_Z.out.ext g4)
 replace HB_M := hid (HB_M.out.ext g4)
 replace kx := kx.ext g4
 replace k2 := k2.ext g4
 obtain ⟨c_26, c_27⟩ := HB_F.out.c2
 obtain ⟨c_28, c_29, c_30⟩ := HB_X.out.c3
 obtain ⟨c_31, c_32⟩ := HB_Z.out.c2
 obtain ⟨c_33, c_34, c_35, c_36⟩ := HB_M.out.c4
 go_wp2_with fail
 clear c_26 c_27 c_28 c_29 c_30 c_31 c_32 c_33 c_34 c_35 c_36
 refine (CAD.out _ _ _ k2 k3).mono ?_
 rintro e w5 ⟨v4, rfl, k4, g5⟩
 have hz_w5 := g5.size
 replace HE := hid (HE.out.trans g5)
 replace HB_F := hid (HB_F.out.ext g5)
 replace HB_X := hid (HB_X.out.ext g5)
 replace HB_Z := hid (HB_Z.out.ext g5)
 replace HB_M := hid (HB_M.out.ext g5)
 replace kx := kx.ext g5
 replace k2 := k2.ext g5
 replace k3 := k3.ext g5
 obtain ⟨ngq37, aq37, nq37, cq37, aq37', nq37', cq37', rfl⟩ := k4.shape
 go_upto_region 7 with (fail)
 obtain ⟨W6, hW6, g6, hy6, B_N⟩ := pro1 w5 #[.bool ngq37, .slice aq37 nq37 cq37, .slice aq37' nq37' cq37'] 40
 rw [← hW6]
 clear hW6
 have hz_W6 := g6.size
 replace HE := hid (HE.out.trans g6)
 replace HB_F := hid (HB_F.out.ext g6)
 replace HB_X := hid (HB_X.out.ext g6)
 replace HB_Z := hid (HB_Z.out.ext g6)
 replace HB_M := hid (HB_M.out.ext g6)
 replace kx := kx.ext g6
 replace k2 := k2.ext g6
 replace k3 := k3.ext g6
 replace k4 := k4.ext g6
 have HB_N := hid B_N
 clear B_N
 have HS : Hid (∀ w', Ext W6 w' → w'.cell? ⟨w5.heap.size, 0, none⟩ = some (.bool ngq37) ∧ w'.cell? ⟨w5.heap.size, 1, none⟩ = some (.slice aq37 nq37 cq37) ∧ w'.cell? ⟨w5.heap.size, 2, none⟩ = some (.slice aq37' nq37' cq37') ∧ w'.cell? ⟨w1.heap.size, 0, none⟩ = some (.int .i64 (E : Nat)) ∧ w'.cell? ⟨w1.heap.size, 1, none⟩ = some (.int .i64 (P : Nat)) ∧ w'.cell? ⟨w1.heap.size, 2, none⟩ = some (.int .i64 0) ∧ w'.cell? ⟨w1.heap.size, 3, none⟩ = some (.int .i64 (bias E : Nat))) := hid fun w' h => ⟨(HB_N.out.ext h).cell 0, (HB_N.out.ext h).cell 1, (HB_N.out.ext h).cell 2, (HB_M.out.ext h).cell 0, (HB_M.out.ext h).cell 1, (HB_M.out.ext h).cell 2, (HB_M.out.ext h).cell 3⟩
 have hb0 : Ext W6 W6.drew := Below.drew (Below.refl _ W6)
 refine wp_region_held_drew (S := fun w' => w'.cell? ⟨w5.heap.size, 0, none⟩ = some (.bool ngq37) ∧ w'.cell? ⟨w5.heap.size, 1, none⟩ = some (.slice aq37 nq37 cq37) ∧ w'.cell? ⟨w5.heap.size, 2, none⟩ = some (.slice aq37' nq37' cq37') ∧ w'.cell? ⟨w1.heap.size, 0, none⟩ = some (.int .i64 (E : Nat)) ∧ w'.cell? ⟨w1.heap.size, 1, none⟩ = some (.int .i64 (P : Nat)) ∧ w'.cell? ⟨w1.heap.size, 2, none⟩ = some (.int .i64 0) ∧ w'.cell? ⟨w1.heap.size, 3, none⟩ = some (.int .i64 (bias E : Nat))) (by kernel_rfl) (HS.out _ hb0) (fun hHeld => ?_)
 refine wpAnyH_take (i := 0) (oi := { dst := some 31, op := Op.load 40 (Operand.tmp 10), type := 40, pos := "floats.go:476", after := #[], guard := none }) (v := ?_) rfl (by kernel_rfl) (by kernel_rfl) (by kernel_rfl) (fun _ _ _ h => h) (Or.inl ⟨by rfl, ?_⟩) (by assumption) ?_
 rotate_left
 ·intro w' hSw
  (try dsimp only at hSw)
  go_simp <;> with_reducible rfl
 try simp only [Act.put, List.setIfInBounds_toArray, List.set_cons_zero, List.set_cons_succ]
 refine wpAnyH_take (i := 1) (oi := { dst := some 32, op := Op.load 81 (Operand.tmp 8), type := 81, pos := "floats.go:476", after := #[], guard := none }) (v := ?_) rfl (by kernel_rfl) (by kernel_rfl) (by kernel_rfl) (fun _ _ _ h => h) (Or.inl ⟨by rfl, ?_⟩) (by assumption) ?_
 rotate_left
 ·intro w' hSw
  (try dsimp only at hSw)
  go_simp <;> with_reducible rfl
 try simp only [Act.put, List.setIfInBounds_toArray, List.set_cons_zero, List.set_cons_succ]
 refine wpAnyH_take (i := 2) (oi := { dst := some 33, op := Op.load 81 (Operand.tmp 8), type := 81, pos := "floats.go:476", after := #[], guard := none }) (v := ?_) rfl (by kernel_rfl) (by kernel_rfl) (by kernel_rfl) (fun _ _ _ h => h) (Or.inl ⟨by rfl, ?_⟩) (by assumption) ?_
 rotate_left
 ·intro w' hSw
  (try dsimp only at hSw)
  go_simp <;> with_reducible rfl
 try simp only [Act.put, List.setIfInBounds_toArray, List.set_cons_zero, List.set_cons_succ]
 refine wpAnyH_ready (rs := [3]) (by kernel_rfl) (by simp) ?_
 refine AllReadyH.cons (o := { dst := some 34, op := Op.call { callee := Callee.value (Operand.func 45), args := #[Operand.tmp 33, Operand.const (Value.bool false)], argTypes := #[81, 4] }, type := 29, pos := "floats.go:476", after := #[{ on := 2, ground := Ground.data }], guard := none }) rfl (fun K hK => ?_) AllReadyH.nil
 go_simp
 refine (CIF.out _).mono ?_
 rintro e x38_1 ⟨rfl, g1⟩
 have hb1 : Ext W6 x38_1 := hb0.trans g1
 try dsimp only
 refine hK.out _ _ (HS.out _ hb1) ?_
 clear hHeld
 intro hHeld
 clear hK K
 try simp only [Act.put, List.setIfInBounds_toArray, List.set_cons_zero, List.set_cons_succ]
 refine wpAnyH_ready (rs := [4]) (by kernel_rfl) (by simp) ?_
 refine AllReadyH.cons (o := { dst := some 35, op := Op.call { callee := Callee.value (Operand.func 70), args := #[Operand.tmp 32, Operand.tmp 34], argTypes := #[81, 29] }, type := 40, pos := "floats.go:476", after := #[{ on := 1, ground := Ground.data }, { on := 3, ground := Ground.data }, { on := 3, ground := Ground.chain }], guard := none }) rfl (fun K hK => ?_) AllReadyH.nil
 go_simp
 refine (CK.out _).mono ?_
 rintro e x38_2 ⟨v5, rfl, k5, g2⟩
 have hb2 : Ext W6 x38_2 := hb1.trans g2
 try dsimp only
 refine hK.out _ _ (HS.out _ hb2) ?_
 clear hHeld
 intro hHeld
 clear hK K
 try simp only [Act.put, List.setIfInBounds_toArray, List.set_cons_zero, List.set_cons_succ]
 refine wpAnyH_ready (rs := [5]) (by kernel_rfl) (by simp) ?_
 refine AllReadyH.cons (o := { dst := some 36, op := Op.call { callee := Callee.value (Operand.func 19), args := #[Operand.tmp 31, Operand.tmp 35], argTypes := #[40, 40] }, type := 3, pos := "floats.go:476", after := #[{ on := 0, ground := Ground.data }, { on := 4, ground := Ground.data }, { on := 4, ground := Ground.chain }], guard := none }) rfl (fun K hK => ?_) AllReadyH.nil
 go_simp
 refine (CCM.out _ _ _ (k4.ext hb2) k5).mono ?_
 rintro e x38_3 ⟨rfl, g3⟩
 have hb3 : Ext W6 x38_3 := hb2.trans g3
 try dsimp only
 refine hK.out _ _ (HS.out _ hb3) ?_
 clear hHeld
 intro hHeld
 clear hK K
 try simp only [Act.put, List.setIfInBounds_toArray, List.set_cons_zero, List.set_cons_succ]
 refine wpAnyH_take (i := 6) (oi := { dst := some 37, op := Op.binOp BinOp.geq 3 (Operand.tmp 36) (Operand.const (Value.int IntKind.i64 0)) 3, type := 4, pos := "floats.go:476", after := #[{ on := 5, ground := Ground.data }], guard := none }) (v := ?_) rfl (by kernel_rfl) (by kernel_rfl) (by kernel_rfl) (fun _ _ _ h => h) (Or.inl ⟨by rfl, ?_⟩) (by assumption) ?_
 rotate_left
 ·intro w' hSw
  (try dsimp only at hSw)
  go_simp <;> with_reducible rfl
 try simp only [Act.put, List.setIfInBounds_toArray, List.set_cons_zero, List.set_cons_succ]
 refine wpAnyH_done (by kernel_rfl) ?_ _
 clear HS hHeld
 have hz_x38_3 := hb3.size
 replace HE := hid (HE.out.trans hb3)
 replace HB_F := hid (HB_F.out.ext hb3)
 replace HB_X := hid (HB_X.out.ext hb3)
 replace HB_Z := hid (HB_Z.out.ext hb3)
 replace HB_M := hid (HB_M.out.ext hb3)
 replace HB_N := hid (HB_N.out.ext hb3)
 replace kx := kx.ext hb3
 replace k2 := k2.ext hb3
 replace k3 := k3.ext hb3
 replace k4 := k4.ext hb3
 obtain ⟨c_39, c_40⟩ := HB_F.out.c2
 obtain ⟨c_41, c_42, c_43⟩ := HB_X.out.c3
 obtain ⟨c_44, c_45⟩ := HB_Z.out.c2
 obtain ⟨c_46, c_47, c_48, c_49⟩ := HB_M.out.c4
 obtain ⟨c_50, c_51, c_52⟩ := HB_N.out.c3
 go_wp2_with fail
 clear c_39 c_40 c_41 c_42 c_43 c_44 c_45 c_46 c_47 c_48 c_49 c_50 c_51 c_52
 refine (CX.out _ _ k4).mono ?_
 rintro e w7 ⟨rfl, g7⟩
 have hz_w7 := g7.size
 replace HE := hid (HE.out.trans g7)
 replace HB_F := hid (HB_F.out.ext g7)
 replace HB_X := hid (HB_X.out.ext g7)
 replace HB_Z := hid (HB_Z.out.ext g7)
 replace HB_M := hid (HB_M.out.ext g7)
 replace HB_N := hid (HB_N.out.ext g7)
 replace kx := kx.ext g7
 replace k2 := k2.ext g7
 replace k3 := k3.ext g7
 replace k4 := k4.ext g7
 obtain ⟨c_53, c_54⟩ := HB_Z.out.c2
 obtain ⟨f_55, f_56⟩ := HB_Z.out.f2
 go_wp2_with fail
 clear c_53 c_54 f_55 f_56
 obtain ⟨W8, hW8, g8, q8, B8, hy8, ho8⟩ := sto2 HE.out (by omega) HB_Z.out (by decide) (.int .u64 r0) (.int .u64 r1)
 rw [← hW8]
 clear hW8
 replace HE := hid g8
 replace HB_F := hid (ho8 _ _ _ (by omega) HB_F.out)
 replace HB_X := hid (ho8 _ _ _ (by omega) HB_X.out)
 replace HB_M := hid (ho8 _ _ _ (by omega) HB_M.out)
 replace HB_N := hid (ho8 _ _ _ (by omega) HB_N.out)
 replace HB_Z := hid B8
 replace kx := kx.keep q8
 replace k2 := k2.keep q8
 replace k3 := k3.keep q8
 replace k4 := k4.keep q8
 obtain ⟨c_57, c_58⟩ := HB_Z.out.c2
 refine bodyPost_ret (v := .tuple #[.agg #[.int .u64 r0, .int .u64 r1], .int .i64 0]) (by simp [results, Tryz.results40, go_sem, c_57, c_58]) rfl ⟨rfl, HE.out⟩
end Go.Proofs.YtopmjkkjlagfcaaGreatDoor
