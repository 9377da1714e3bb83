/- floats: Div (of operands that are no NaN), Sqrt (over the contract of root). -/
import Derived.Test.YtpdjenblkgaffaaGreatDoorM42
import Derived.Test.YtpdjenblkgaffaaGreatDoorK01
import Derived.Test.YtpdjenblkgaffaaGreatDoorM39
namespace Go.Proofs.YtpdjenblkgaffaaGreatDoor
open Go.RowKit Vn

set_option maxRecDepth 100000 in
set_option maxHeartbeats 4000000 in
theorem Div_good (E P m i j ki kj : Nat) (l : Int) (K : Nat) (w : World) (hF : Fmt E P) (hm : m ≤ 4) (hi : i < 2 ^ (E + P)) (hj : j < 2 ^ (E + P)) (hki : wkind E P i = ki) (hkj : wkind E P j = kj) (ki3 : ki ≤ 3) (kj3 : kj ≤ 3) (ki1 : 1 ≤ ki) (kj1 : 1 ≤ kj) (si : SmQ K (wvalK E P (bias E) i)) (sj : SmQ K (wvalK E P (bias E) j)) (hK : K ≤ 5000) (hy0 : kj = 2 → wvalK E P (bias E) j ≠ 0) (hl : wvalK E P (bias E) i / wvalK E P (bias E) j ≠ 0 → IsLog (absQ (wvalK E P (bias E) i / wvalK E P (bias E) j)) l) (hT : Tabs w) :
   Calls Tryz.prog 22 #[.agg #[.int .i64 (E : Nat), .int .i64 (P : Nat)], .int .i64 (m : Nat), Word i, Word j] w fun e w' => RoundPost (divR E P (bias E) m ki (wn E P i) (wvalK E P (bias E) i) kj (wn E P j) (wvalK E P (bias E) j) l) 0 w e w' := by
  obtain ⟨i0, i1, ei⟩ := Word.shape i
  obtain ⟨j0, j1, ej⟩ := Word.shape j
  obtain ⟨r, hr⟩ : ∃ r, r = divR E P (bias E) m ki (wn E P i) (wvalK E P (bias E) i) kj (wn E P j) (wvalK E P (bias E) j) l := ⟨_, rfl⟩
  obtain ⟨r0, r1, er⟩ := Word.shape r.1
  have CO : Hid (∀ w, Tabs w → Calls Tryz.prog 53 #[.agg #[.int .i64 (E : Nat), .int .i64 (P : Nat)], .int .i64 (m : Nat), .agg #[.int .u64 i0, .int .u64 i1], .agg #[.int .u64 j0, .int .u64 j1], .func (.func 54) #[] #[]] w fun e w' => e = .returned (.tuple #[.agg #[.int .u64 r0, .int .u64 r1], .int .i64 (r.2 : Nat), .int .i64 0]) ∧ Ext w w') := hid fun w hT => by
    have := operate_c E P m i j 54 ki kj r w hF hm hi hj hki hkj ki3 kj3 hT (enters_of Tryz.func54 (by kernel_rfl) rfl) (hid fun x y w hx hy hT => by rw [hr]; exact mdiv_c E P (bias E) m x y _ _ _ _ _ _ l K w hF hm rfl hx hy (by omega) (by omega) si sj hK (fun h => hy0 (by omega)) hl hT)
    rw [ei, ej] at this
    unfold RoundPost at this
    rwa [er] at this
  rw [← hr, ei, ej]
  unfold RoundPost
  rw [er]
  have HT := hid hT
  clear hF hm hi hj hki hkj si sj hy0 hl hT ei ej er hr
  obtain ⟨W0, hW0, g0, hz0, B_F, B_A, B_B, B_Z⟩ := pro4s w #[.int .i64 (E : Nat), .int .i64 (P : Nat)] #[.int .u64 i0, .int .u64 i1] #[.int .u64 j0, .int .u64 j1] #[.int .u64 0, .int .u64 0] 23 26 26 26
  have HE := hid g0
  have HB_F := hid B_F
  have HB_A := hid B_A
  have HB_B := hid B_B
  have HB_Z := hid B_Z
  clear g0 B_F B_A B_B B_Z 
  go_enter Tryz.func22, Tryz.ntmps22
  go_upto_region 1 with (fail)
  rw [← hW0]
  clear hW0
  obtain ⟨c_1, c_2⟩ := HB_F.out.c2
  obtain ⟨c_3, c_4⟩ := HB_A.out.c2
  obtain ⟨c_5, c_6⟩ := HB_B.out.c2
  obtain ⟨c_7, c_8⟩ := HB_Z.out.c2
  go_wp2_with fail
  clear c_1 c_2 c_3 c_4 c_5 c_6 c_7 c_8
  refine (CO.out _ (HT.out.ext HE.out)).mono ?_
  rintro e w1 ⟨rfl, g1⟩
  have hz_w1 := g1.size
  replace HE := hid (HE.out.trans g1)
  replace HB_F := hid (HB_F.out.ext g1)
  replace HB_A := hid (HB_A.out.ext g1)
  replace HB_B := hid (HB_B.out.ext g1)
  replace HB_Z := hid (HB_Z.out.ext g1)
  obtain ⟨c_9, c_10⟩ := HB_F.out.c2
  obtain ⟨c_11, c_12⟩ := HB_A.out.c2
  obtain ⟨c_13, c_14⟩ := HB_B.out.c2
  obtain ⟨c_15, c_16⟩ := HB_Z.out.c2
  obtain ⟨f_17, f_18⟩ := HB_Z.out.f2
  go_wp2_with fail
  clear c_9 c_10 c_11 c_12 c_13 c_14 c_15 c_16 f_17 f_18
  obtain ⟨W2, hW2, g2, q2, B2, hy2, ho2⟩ := sto2 HE.out (by omega) HB_Z.out (by decide) (.int .u64 r0) (.int .u64 r1)
  rw [← hW2]
  clear hW2
  replace HE := hid g2
  replace HB_F := hid (ho2 _ _ _ (by omega) HB_F.out)
  replace HB_A := hid (ho2 _ _ _ (by omega) HB_A.out)
  replace HB_B := hid (ho2 _ _ _ (by omega) HB_B.out)
  replace HB_Z := hid B2
  obtain ⟨c_19, c_20⟩ := HB_Z.out.c2
  refine bodyPost_ret (v := .tuple #[.agg #[.int .u64 r0, .int .u64 r1], .int .i64 (r.2 : Nat), .int .i64 0]) (by simp [results, Tryz.results22, go_sem, c_19, c_20]) rfl ⟨rfl, HE.out⟩

/-- the word and the flags of a square root, over those of root. -/
def sqrtR (E P n : Nat) (k : Nat) (neg : Bool) (rt : Nat × Nat) : Nat × Nat := if 4 ≤ k then (nanw E P, if k = 5 then 1 else 0) else if k = 1 ∨ (k = 3 ∧ neg = false) then (n, 0) else if neg = true then (nanw E P, 1) else rt
set_option maxRecDepth 100000 in
set_option maxHeartbeats 4000000 in
theorem Sqrt_1 (E P m n : Nat) (w : World) (hF : Fmt E P) (hm : m ≤ 4) (hn : n < 2 ^ (E + P)) (hk : wkind E P n = 1) :
   Calls Tryz.prog 23 #[.agg #[.int .i64 (E : Nat), .int .i64 (P : Nat)], .int .i64 (m : Nat), Word n] w fun e w' => RoundPost ((n, 0)) 0 w e w' := by
  obtain ⟨hE, hP, hb, hEP, hb1⟩ := fmt_bounds hF
  have hp : 2 ^ (E + P) ≤ 2 ^ 124 := Nat.pow_le_pow_right (by decide) hEP
  have hn8 : W128 n := by show n < 2 ^ 128; omega
  obtain ⟨i0, hi0⟩ : ∃ x : Nat, x = n / 18446744073709551616 := ⟨_, rfl⟩
  obtain ⟨i1, hi1⟩ : ∃ x : Nat, x = n % 18446744073709551616 := ⟨_, rfl⟩
  have ei : Word n = .agg #[.int .u64 i0, .int .u64 i1] := by unfold Word; rw [← hi0, ← hi1]
  obtain ⟨ni, hni⟩ : ∃ x, x = wn E P n := ⟨_, rfl⟩
  obtain ⟨qi, hqi⟩ : ∃ x, x = wvalK E P (bias E) n := ⟨_, rfl⟩
  have CI : Hid (∀ w, Calls Tryz.prog 36 #[.agg #[.int .i64 (E : Nat), .int .i64 (P : Nat), .int .i64 (m : Nat), .int .i64 (bias E : Nat)], .agg #[.int .u64 i0, .int .u64 i1]] w (LookPost 1 ni qi w)) := hid fun w => by
    have := look_c E P m (bias E) n w hF hb hn8
    rw [hk, ← hni, ← hqi, ei] at this
    exact this
  have HW : Hid (withRes E P m [n] = .tuple #[.agg #[.int .i64 (E : Nat), .int .i64 (P : Nat), .int .i64 (m : Nat), .int .i64 (bias E : Nat)], .int .i64 0]) := hid (by unfold withRes; rw [if_pos (fun x hx => by rw [List.mem_singleton] at hx; rw [hx]; exact hn)])
  obtain ⟨s0, s1, es⟩ := Word.shape (nanw E P)
  rw [ei]
  have HF := hid hF; have HM := hid hm; have HN := hid hn8; have HI0 := hid hi0; have HI1 := hid hi1; have Es := hid es; have Ei := hid ei
  clear hF hm hn hk hE hP hb hEP hb1 hp hn8 hi0 hi1 ei es hni hqi
  obtain ⟨W0, hW0, g0, hz0, B_F, B_A, B_Z⟩ := pro3s w #[.int .i64 (E : Nat), .int .i64 (P : Nat)] #[.int .u64 i0, .int .u64 i1] #[.int .u64 0, .int .u64 0] 23 26 26
  have HE := hid g0
  have HB_F := hid B_F
  have HB_A := hid B_A
  have HB_Z := hid B_Z
  clear g0 B_F B_A B_Z 
  go_enter Tryz.func23, Tryz.ntmps23
  go_upto_region 1 with (fail)
  rw [← hW0]
  clear hW0
  obtain ⟨c_1, c_2⟩ := HB_F.out.c2
  obtain ⟨c_3, c_4⟩ := HB_A.out.c2
  obtain ⟨c_5, c_6⟩ := HB_Z.out.c2
  go_wp2_with fail
  clear c_1 c_2 c_3 c_4 c_5 c_6
  obtain ⟨W1, hW1, g1, hy1, B_R⟩ := pro1 W0 #[.int .u64 i0, .int .u64 i1] 26
  rw [← hW1]
  clear hW1
  have hz_W1 := g1.size
  replace HE := hid (HE.out.trans g1)
  replace HB_F := hid (HB_F.out.ext g1)
  replace HB_A := hid (HB_A.out.ext g1)
  replace HB_Z := hid (HB_Z.out.ext g1)
  have HB_R := hid B_R
  clear B_R
  have HWS : Hid (WSl W1 (.slice (some ⟨W0.heap.size, 0, none⟩) 1 1) [n]) := hid ⟨some ⟨W0.heap.size, 0, none⟩, W0.heap.size, 0, 1, rfl, Nat.le_refl _, by decide, fun _ => rfl, fun x hx => by
      rw [List.mem_singleton] at hx; rw [hx]; exact HN.out, fun i hi => by
      obtain rfl : i = 0 := by simpa using hi
      refine ⟨?_, ?_⟩
      · have := HB_R.out.cell 0; rw [HI0.out] at this; exact this
      · have := HB_R.out.cell 1; rw [HI1.out] at this; exact this⟩
  refine (with_good E P m _ [n] _ HM.out HF.out HWS.out).mono ?_
  rintro e w2 ⟨rfl, g2⟩
  have hz_w2 := g2.size
  replace HE := hid (HE.out.trans g2)
  replace HB_F := hid (HB_F.out.ext g2)
  replace HB_A := hid (HB_A.out.ext g2)
  replace HB_Z := hid (HB_Z.out.ext g2)
  rw [HW.out]
  have gA := Ext.alloc w2 (.cells #[.int .i64 (E : Nat), .int .i64 (P : Nat), .int .i64 (m : Nat), .int .i64 (bias E : Nat)] 63)
  obtain ⟨c_7, c_8⟩ := (HB_F.out.ext gA).c2
  obtain ⟨c_9, c_10⟩ := (HB_A.out.ext gA).c2
  obtain ⟨c_11, c_12⟩ := (HB_Z.out.ext gA).c2
  go_wp2_with fail
  clear gA c_7 c_8 c_9 c_10 c_11 c_12
  obtain ⟨W3, hW3, g3, hy3, B_M⟩ := pro1 w2 #[.int .i64 (E : Nat), .int .i64 (P : Nat), .int .i64 (m : Nat), .int .i64 (bias E : Nat)] 63
  rw [← hW3]
  clear hW3
  have hz_W3 := g3.size
  replace HE := hid (HE.out.trans g3)
  replace HB_F := hid (HB_F.out.ext g3)
  replace HB_A := hid (HB_A.out.ext g3)
  replace HB_Z := hid (HB_Z.out.ext g3)
  have HB_M := hid B_M
  clear B_M
  refine (CI.out _).mono ?_
  rintro e w4 ⟨v1, rfl, ⟨ng, a, n1, c, a', n1', c', rfl, kv⟩, g4⟩
  have hz_w4 := g4.size
  replace HE := hid (HE.out.trans g4)
  replace HB_F := hid (HB_F.out.ext g4)
  replace HB_A := hid (HB_A.out.ext g4)
  replace HB_Z := hid (HB_Z.out.ext g4)
  replace HB_M := hid (HB_M.out.ext g4)
  have gA := Ext.alloc w4 (.cells #[.int .i64 1, .bool ni, .bool ng, .slice a n1 c, .slice a' n1' c'] 74)
  obtain ⟨c_13, c_14, c_15, c_16⟩ := (HB_M.out.ext gA).c4
  go_wp2_with fail
  clear gA c_13 c_14 c_15 c_16
  obtain ⟨W5, hW5, g5, hy5, B_X, B_S⟩ := pro2s w4 #[.int .i64 1, .bool ni, .bool ng, .slice a n1 c, .slice a' n1' c'] #[.int .i64 1, .bool ni, .bool ng, .slice a n1 c, .slice a' n1' c'] 74 74
  rw [← hW5]
  clear hW5
  have hz_W5 := g5.size
  replace HE := hid (HE.out.trans g5)
  replace HB_F := hid (HB_F.out.ext g5)
  replace HB_A := hid (HB_A.out.ext g5)
  replace HB_Z := hid (HB_Z.out.ext g5)
  replace HB_M := hid (HB_M.out.ext g5)
  replace kv := kv.ext g5
  have HB_X := hid B_X
  have HB_S := hid B_S
  clear B_X B_S
  have HOS : Hid (OSl W5 (.slice (some ⟨w4.heap.size + 1, 0, none⟩) 1 1) [1]) := hid ⟨some ⟨w4.heap.size + 1, 0, none⟩, w4.heap.size + 1, 0, 1, rfl, Nat.le_refl _, by decide, fun _ => rfl, fun x hx => by
      rw [List.mem_singleton] at hx; rw [hx]; decide, fun i hi => by
      obtain rfl : i = 0 := by simpa using hi
      exact ⟨ni, ng, a, n1, c, a', n1', c', HB_S.out.cell 0, HB_S.out.cell 1, HB_S.out.cell 2, HB_S.out.cell 3, HB_S.out.cell 4⟩⟩
  have CSP : Hid (SpecPost E P [1] W5 = fun e w' => e = .returned (.tuple #[.agg #[.int .u64 s0, .int .u64 s1], .int .i64 0, .bool false]) ∧ Ext W5 w') := hid (by funext e w'; unfold SpecPost; rw [Es.out, show anyNan [1] = false from by decide]; rfl)
  have CSS := special_c E P m (bias E) _ [1] W5 HF.out HOS.out
  rw [CSP.out] at CSS
  refine (CSS).mono ?_
  rintro e w6 ⟨rfl, g6⟩
  have hz_w6 := g6.size
  replace HE := hid (HE.out.trans g6)
  replace HB_F := hid (HB_F.out.ext g6)
  replace HB_A := hid (HB_A.out.ext g6)
  replace HB_Z := hid (HB_Z.out.ext g6)
  replace HB_M := hid (HB_M.out.ext g6)
  replace HB_X := hid (HB_X.out.ext g6)
  replace kv := kv.ext g6
  clear CSS CSP HOS HWS
  obtain ⟨c_17, c_18⟩ := HB_Z.out.c2
  obtain ⟨f_19, f_20⟩ := HB_Z.out.f2
  go_upto_region 8 with (fail)
  clear c_17 c_18 f_19 f_20
  obtain ⟨W7, hW7, g7, q7, B7, hy7, ho7⟩ := sto2 HE.out (by omega) HB_Z.out (by decide) (.int .u64 s0) (.int .u64 s1)
  rw [← hW7]
  clear hW7
  replace HE := hid g7
  replace HB_F := hid (ho7 _ _ _ (by omega) HB_F.out)
  replace HB_A := hid (ho7 _ _ _ (by omega) HB_A.out)
  replace HB_M := hid (ho7 _ _ _ (by omega) HB_M.out)
  replace HB_X := hid (ho7 _ _ _ (by omega) HB_X.out)
  replace HB_Z := hid B7
  replace kv := kv.keep q7
  obtain ⟨c_21, c_22, c_23, c_24, c_25⟩ := HB_X.out.c5
  obtain ⟨c_26, c_27⟩ := HB_A.out.c2
  obtain ⟨c_28, c_29⟩ := HB_Z.out.c2
  obtain ⟨f_30, f_31⟩ := HB_Z.out.f2
  go_wp2_with fail
  clear c_21 c_22 c_23 c_24 c_25 c_26 c_27 c_28 c_29 f_30 f_31
  obtain ⟨W8, hW8, g8, q8, B8, hy8, ho8⟩ := sto2 HE.out (by omega) HB_Z.out (by decide) (.int .u64 i0) (.int .u64 i1)
  rw [← hW8]
  clear hW8
  replace HE := hid g8
  replace HB_F := hid (ho8 _ _ _ (by omega) HB_F.out)
  replace HB_A := hid (ho8 _ _ _ (by omega) HB_A.out)
  replace HB_M := hid (ho8 _ _ _ (by omega) HB_M.out)
  replace HB_X := hid (ho8 _ _ _ (by omega) HB_X.out)
  replace HB_Z := hid B8
  replace kv := kv.keep q8
  obtain ⟨W9, hW9, g9, q9, B9, hy9, ho9⟩ := sto2 HE.out (by omega) HB_Z.out (by decide) (.int .u64 i0) (.int .u64 i1)
  rw [← hW9]
  clear hW9
  replace HE := hid g9
  replace HB_F := hid (ho9 _ _ _ (by omega) HB_F.out)
  replace HB_A := hid (ho9 _ _ _ (by omega) HB_A.out)
  replace HB_M := hid (ho9 _ _ _ (by omega) HB_M.out)
  replace HB_X := hid (ho9 _ _ _ (by omega) HB_X.out)
  replace HB_Z := hid B9
  replace kv := kv.keep q9
  unfold RoundPost
  obtain ⟨c_32, c_33⟩ := HB_Z.out.c2
  refine bodyPost_ret (v := .tuple #[.agg #[.int .u64 i0, .int .u64 i1], .int .i64 0, .int .i64 0]) (by simp [results, Tryz.results23, go_sem, c_32, c_33]) rfl ⟨by rw [Ei.out]; rfl, HE.out⟩
set_option maxRecDepth 100000 in
set_option maxHeartbeats 4000000 in
theorem Sqrt_2p (E P m n : Nat) (rt : Nat × Nat) (w : World) (hF : Fmt E P) (hm : m ≤ 4) (hn : n < 2 ^ (E + P)) (hk : wkind E P n = 2) (hs : wn E P n = false) (CR : Hid (∀ v w, NumV w v (wvalK E P (bias E) n) → Tabs w → Calls Tryz.prog 56 #[.agg #[.int .i64 (E : Nat), .int .i64 (P : Nat), .int .i64 (m : Nat), .int .i64 (bias E : Nat)], v] w (EndPost rt w))) (hT : Tabs w) :
   Calls Tryz.prog 23 #[.agg #[.int .i64 (E : Nat), .int .i64 (P : Nat)], .int .i64 (m : Nat), Word n] w fun e w' => RoundPost (rt) 0 w e w' := by
  obtain ⟨hE, hP, hb, hEP, hb1⟩ := fmt_bounds hF
  have hp : 2 ^ (E + P) ≤ 2 ^ 124 := Nat.pow_le_pow_right (by decide) hEP
  have hn8 : W128 n := by show n < 2 ^ 128; omega
  obtain ⟨i0, hi0⟩ : ∃ x : Nat, x = n / 18446744073709551616 := ⟨_, rfl⟩
  obtain ⟨i1, hi1⟩ : ∃ x : Nat, x = n % 18446744073709551616 := ⟨_, rfl⟩
  have ei : Word n = .agg #[.int .u64 i0, .int .u64 i1] := by unfold Word; rw [← hi0, ← hi1]
  obtain ⟨ni, hni⟩ : ∃ x, x = wn E P n := ⟨_, rfl⟩
  obtain ⟨qi, hqi⟩ : ∃ x, x = wvalK E P (bias E) n := ⟨_, rfl⟩
  have CI : Hid (∀ w, Calls Tryz.prog 36 #[.agg #[.int .i64 (E : Nat), .int .i64 (P : Nat), .int .i64 (m : Nat), .int .i64 (bias E : Nat)], .agg #[.int .u64 i0, .int .u64 i1]] w (LookPost 2 false qi w)) := hid fun w => by
    have := look_c E P m (bias E) n w hF hb hn8
    rw [hk, hs, ← hqi, ei] at this
    exact this
  have HW : Hid (withRes E P m [n] = .tuple #[.agg #[.int .i64 (E : Nat), .int .i64 (P : Nat), .int .i64 (m : Nat), .int .i64 (bias E : Nat)], .int .i64 0]) := hid (by unfold withRes; rw [if_pos (fun x hx => by rw [List.mem_singleton] at hx; rw [hx]; exact hn)])
  obtain ⟨s0, s1, es⟩ := Word.shape (nanw E P)
  have CR2 : Hid (∀ v w, NumV w v qi → Tabs w → _) := hid fun v w h hT => CR.out v w (by rw [← hqi]; exact h) hT
  have HT := hid hT
  obtain ⟨r0, r1, er⟩ := Word.shape rt.1
  have Er := hid er
  clear CR hT er
  rw [ei]
  have HF := hid hF; have HM := hid hm; have HN := hid hn8; have HI0 := hid hi0; have HI1 := hid hi1; have Es := hid es; have Ei := hid ei
  clear hF hm hn hk hE hP hb hEP hb1 hp hn8 hi0 hi1 ei es hni hqi hs
  obtain ⟨W0, hW0, g0, hz0, B_F, B_A, B_Z⟩ := pro3s w #[.int .i64 (E : Nat), .int .i64 (P : Nat)] #[.int .u64 i0, .int .u64 i1] #[.int .u64 0, .int .u64 0] 23 26 26
  have HE := hid g0
  have HB_F := hid B_F
  have HB_A := hid B_A
  have HB_Z := hid B_Z
  clear g0 B_F B_A B_Z 
  go_enter Tryz.func23, Tryz.ntmps23
  go_upto_region 1 with (fail)
  rw [← hW0]
  clear hW0
  obtain ⟨c_1, c_2⟩ := HB_F.out.c2
  obtain ⟨c_3, c_4⟩ := HB_A.out.c2
  obtain ⟨c_5, c_6⟩ := HB_Z.out.c2
  go_wp2_with fail
  clear c_1 c_2 c_3 c_4 c_5 c_6
  obtain ⟨W1, hW1, g1, hy1, B_R⟩ := pro1 W0 #[.int .u64 i0, .int .u64 i1] 26
  rw [← hW1]
  clear hW1
  have hz_W1 := g1.size
  replace HE := hid (HE.out.trans g1)
  replace HB_F := hid (HB_F.out.ext g1)
  replace HB_A := hid (HB_A.out.ext g1)
  replace HB_Z := hid (HB_Z.out.ext g1)
  have HB_R := hid B_R
  clear B_R
  have HWS : Hid (WSl W1 (.slice (some ⟨W0.heap.size, 0, none⟩) 1 1) [n]) := hid ⟨some ⟨W0.heap.size, 0, none⟩, W0.heap.size, 0, 1, rfl, Nat.le_refl _, by decide, fun _ => rfl, fun x hx => by
      rw [List.mem_singleton] at hx; rw [hx]; exact HN.out, fun i hi => by
      obtain rfl : i = 0 := by simpa using hi
      refine ⟨?_, ?_⟩
      · have := HB_R.out.cell 0; rw [HI0.out] at this; exact this
      · have := HB_R.out.cell 1; rw [HI1.out] at this; exact this⟩
  refine (with_good E P m _ [n] _ HM.out HF.out HWS.out).mono ?_
  rintro e w2 ⟨rfl, g2⟩
  have hz_w2 := g2.size
  replace HE := hid (HE.out.trans g2)
  replace HB_F := hid (HB_F.out.ext g2)
  replace HB_A := hid (HB_A.out.ext g2)
  replace HB_Z := hid (HB_Z.out.ext g2)
  rw [HW.out]
  have gA := Ext.alloc w2 (.cells #[.int .i64 (E : Nat), .int .i64 (P : Nat), .int .i64 (m : Nat), .int .i64 (bias E : Nat)] 63)
  obtain ⟨c_7, c_8⟩ := (HB_F.out.ext gA).c2
  obtain ⟨c_9, c_10⟩ := (HB_A.out.ext gA).c2
  obtain ⟨c_11, c_12⟩ := (HB_Z.out.ext gA).c2
  go_wp2_with fail
  clear gA c_7 c_8 c_9 c_10 c_11 c_12
  obtain ⟨W3, hW3, g3, hy3, B_M⟩ := pro1 w2 #[.int .i64 (E : Nat), .int .i64 (P : Nat), .int .i64 (m : Nat), .int .i64 (bias E : Nat)] 63
  rw [← hW3]
  clear hW3
  have hz_W3 := g3.size
  replace HE := hid (HE.out.trans g3)
  replace HB_F := hid (HB_F.out.ext g3)
  replace HB_A := hid (HB_A.out.ext g3)
  replace HB_Z := hid (HB_Z.out.ext g3)
  have HB_M := hid B_M
  clear B_M
  refine (CI.out _).mono ?_
  rintro e w4 ⟨v1, rfl, ⟨ng, a, n1, c, a', n1', c', rfl, kv⟩, g4⟩
  have hz_w4 := g4.size
  replace HE := hid (HE.out.trans g4)
  replace HB_F := hid (HB_F.out.ext g4)
  replace HB_A := hid (HB_A.out.ext g4)
  replace HB_Z := hid (HB_Z.out.ext g4)
  replace HB_M := hid (HB_M.out.ext g4)
  have gA := Ext.alloc w4 (.cells #[.int .i64 2, .bool false, .bool ng, .slice a n1 c, .slice a' n1' c'] 74)
  obtain ⟨c_13, c_14, c_15, c_16⟩ := (HB_M.out.ext gA).c4
  go_wp2_with fail
  clear gA c_13 c_14 c_15 c_16
  obtain ⟨W5, hW5, g5, hy5, B_X, B_S⟩ := pro2s w4 #[.int .i64 2, .bool false, .bool ng, .slice a n1 c, .slice a' n1' c'] #[.int .i64 2, .bool false, .bool ng, .slice a n1 c, .slice a' n1' c'] 74 74
  rw [← hW5]
  clear hW5
  have hz_W5 := g5.size
  replace HE := hid (HE.out.trans g5)
  replace HB_F := hid (HB_F.out.ext g5)
  replace HB_A := hid (HB_A.out.ext g5)
  replace HB_Z := hid (HB_Z.out.ext g5)
  replace HB_M := hid (HB_M.out.ext g5)
  replace kv := kv.ext g5
  have HB_X := hid B_X
  have HB_S := hid B_S
  clear B_X B_S
  have HOS : Hid (OSl W5 (.slice (some ⟨w4.heap.size + 1, 0, none⟩) 1 1) [2]) := hid ⟨some ⟨w4.heap.size + 1, 0, none⟩, w4.heap.size + 1, 0, 1, rfl, Nat.le_refl _, by decide, fun _ => rfl, fun x hx => by
      rw [List.mem_singleton] at hx; rw [hx]; decide, fun i hi => by
      obtain rfl : i = 0 := by simpa using hi
      exact ⟨false, ng, a, n1, c, a', n1', c', HB_S.out.cell 0, HB_S.out.cell 1, HB_S.out.cell 2, HB_S.out.cell 3, HB_S.out.cell 4⟩⟩
  have CSP : Hid (SpecPost E P [2] W5 = fun e w' => e = .returned (.tuple #[.agg #[.int .u64 s0, .int .u64 s1], .int .i64 0, .bool false]) ∧ Ext W5 w') := hid (by funext e w'; unfold SpecPost; rw [Es.out, show anyNan [2] = false from by decide]; rfl)
  have CSS := special_c E P m (bias E) _ [2] W5 HF.out HOS.out
  rw [CSP.out] at CSS
  refine (CSS).mono ?_
  rintro e w6 ⟨rfl, g6⟩
  have hz_w6 := g6.size
  replace HE := hid (HE.out.trans g6)
  replace HB_F := hid (HB_F.out.ext g6)
  replace HB_A := hid (HB_A.out.ext g6)
  replace HB_Z := hid (HB_Z.out.ext g6)
  replace HB_M := hid (HB_M.out.ext g6)
  replace HB_X := hid (HB_X.out.ext g6)
  replace kv := kv.ext g6
  clear CSS CSP HOS HWS
  obtain ⟨c_17, c_18⟩ := HB_Z.out.c2
  obtain ⟨f_19, f_20⟩ := HB_Z.out.f2
  go_upto_region 8 with (fail)
  clear c_17 c_18 f_19 f_20
  obtain ⟨W7, hW7, g7, q7, B7, hy7, ho7⟩ := sto2 HE.out (by omega) HB_Z.out (by decide) (.int .u64 s0) (.int .u64 s1)
  rw [← hW7]
  clear hW7
  replace HE := hid g7
  replace HB_F := hid (ho7 _ _ _ (by omega) HB_F.out)
  replace HB_A := hid (ho7 _ _ _ (by omega) HB_A.out)
  replace HB_M := hid (ho7 _ _ _ (by omega) HB_M.out)
  replace HB_X := hid (ho7 _ _ _ (by omega) HB_X.out)
  replace HB_Z := hid B7
  replace kv := kv.keep q7
  obtain ⟨c_21, c_22, c_23, c_24, c_25⟩ := HB_X.out.c5
  obtain ⟨c_26, c_27, c_28, c_29⟩ := HB_M.out.c4
  go_wp2_with fail
  clear c_21 c_22 c_23 c_24 c_25 c_26 c_27 c_28 c_29
  unfold EndPost at CR2
  refine (CR2.out _ _ kv (HT.out.ext HE.out)).mono ?_
  rintro e w8 ⟨rfl, g8⟩
  have hz_w8 := g8.size
  replace HE := hid (HE.out.trans g8)
  replace HB_F := hid (HB_F.out.ext g8)
  replace HB_A := hid (HB_A.out.ext g8)
  replace HB_Z := hid (HB_Z.out.ext g8)
  replace HB_M := hid (HB_M.out.ext g8)
  replace HB_X := hid (HB_X.out.ext g8)
  replace kv := kv.ext g8
  rw [Er.out]
  obtain ⟨c_30, c_31⟩ := HB_Z.out.c2
  obtain ⟨f_32, f_33⟩ := HB_Z.out.f2
  go_wp2_with fail
  clear c_30 c_31 f_32 f_33
  obtain ⟨W9, hW9, g9, q9, B9, hy9, ho9⟩ := sto2 HE.out (by omega) HB_Z.out (by decide) (.int .u64 r0) (.int .u64 r1)
  rw [← hW9]
  clear hW9
  replace HE := hid g9
  replace HB_F := hid (ho9 _ _ _ (by omega) HB_F.out)
  replace HB_A := hid (ho9 _ _ _ (by omega) HB_A.out)
  replace HB_M := hid (ho9 _ _ _ (by omega) HB_M.out)
  replace HB_X := hid (ho9 _ _ _ (by omega) HB_X.out)
  replace HB_Z := hid B9
  replace kv := kv.keep q9
  obtain ⟨W10, hW10, g10, q10, B10, hy10, ho10⟩ := sto2 HE.out (by omega) HB_Z.out (by decide) (.int .u64 r0) (.int .u64 r1)
  rw [← hW10]
  clear hW10
  replace HE := hid g10
  replace HB_F := hid (ho10 _ _ _ (by omega) HB_F.out)
  replace HB_A := hid (ho10 _ _ _ (by omega) HB_A.out)
  replace HB_M := hid (ho10 _ _ _ (by omega) HB_M.out)
  replace HB_X := hid (ho10 _ _ _ (by omega) HB_X.out)
  replace HB_Z := hid B10
  replace kv := kv.keep q10
  unfold RoundPost
  obtain ⟨c_34, c_35⟩ := HB_Z.out.c2
  refine bodyPost_ret (v := .tuple #[.agg #[.int .u64 r0, .int .u64 r1], .int .i64 (rt.2 : Nat), .int .i64 0]) (by simp [results, Tryz.results23, go_sem, c_34, c_35]) rfl ⟨by rw [Er.out], HE.out⟩
set_option maxRecDepth 100000 in
set_option maxHeartbeats 4000000 in
theorem Sqrt_2n (E P m n : Nat) (w : World) (hF : Fmt E P) (hm : m ≤ 4) (hn : n < 2 ^ (E + P)) (hk : wkind E P n = 2) (hs : wn E P n = true) :
   Calls Tryz.prog 23 #[.agg #[.int .i64 (E : Nat), .int .i64 (P : Nat)], .int .i64 (m : Nat), Word n] w fun e w' => RoundPost ((nanw E P, 1)) 0 w e w' := by
  obtain ⟨hE, hP, hb, hEP, hb1⟩ := fmt_bounds hF
  have hp : 2 ^ (E + P) ≤ 2 ^ 124 := Nat.pow_le_pow_right (by decide) hEP
  have hn8 : W128 n := by show n < 2 ^ 128; omega
  obtain ⟨i0, hi0⟩ : ∃ x : Nat, x = n / 18446744073709551616 := ⟨_, rfl⟩
  obtain ⟨i1, hi1⟩ : ∃ x : Nat, x = n % 18446744073709551616 := ⟨_, rfl⟩
  have ei : Word n = .agg #[.int .u64 i0, .int .u64 i1] := by unfold Word; rw [← hi0, ← hi1]
  obtain ⟨ni, hni⟩ : ∃ x, x = wn E P n := ⟨_, rfl⟩
  obtain ⟨qi, hqi⟩ : ∃ x, x = wvalK E P (bias E) n := ⟨_, rfl⟩
  have CI : Hid (∀ w, Calls Tryz.prog 36 #[.agg #[.int .i64 (E : Nat), .int .i64 (P : Nat), .int .i64 (m : Nat), .int .i64 (bias E : Nat)], .agg #[.int .u64 i0, .int .u64 i1]] w (LookPost 2 true qi w)) := hid fun w => by
    have := look_c E P m (bias E) n w hF hb hn8
    rw [hk, hs, ← hqi, ei] at this
    exact this
  have HW : Hid (withRes E P m [n] = .tuple #[.agg #[.int .i64 (E : Nat), .int .i64 (P : Nat), .int .i64 (m : Nat), .int .i64 (bias E : Nat)], .int .i64 0]) := hid (by unfold withRes; rw [if_pos (fun x hx => by rw [List.mem_singleton] at hx; rw [hx]; exact hn)])
  obtain ⟨s0, s1, es⟩ := Word.shape (nanw E P)
  have CV : Hid (∀ w, Calls Tryz.prog 55 #[.agg #[.int .i64 (E : Nat), .int .i64 (P : Nat), .int .i64 (m : Nat), .int .i64 (bias E : Nat)]] w fun e w' => e = .returned (.tuple #[.agg #[.int .u64 s0, .int .u64 s1], .int .i64 1]) ∧ Ext w w') := hid fun w => by
    have := invalid_c E P m (bias E) w hF
    rwa [es] at this
  rw [ei]
  have HF := hid hF; have HM := hid hm; have HN := hid hn8; have HI0 := hid hi0; have HI1 := hid hi1; have Es := hid es; have Ei := hid ei
  clear hF hm hn hk hE hP hb hEP hb1 hp hn8 hi0 hi1 ei es hni hqi hs
  obtain ⟨W0, hW0, g0, hz0, B_F, B_A, B_Z⟩ := pro3s w #[.int .i64 (E : Nat), .int .i64 (P : Nat)] #[.int .u64 i0, .int .u64 i1] #[.int .u64 0, .int .u64 0] 23 26 26
  have HE := hid g0
  have HB_F := hid B_F
  have HB_A := hid B_A
  have HB_Z := hid B_Z
  clear g0 B_F B_A B_Z 
  go_enter Tryz.func23, Tryz.ntmps23
  go_upto_region 1 with (fail)
  rw [← hW0]
  clear hW0
  obtain ⟨c_1, c_2⟩ := HB_F.out.c2
  obtain ⟨c_3, c_4⟩ := HB_A.out.c2
  obtain ⟨c_5, c_6⟩ := HB_Z.out.c2
  go_wp2_with fail
  clear c_1 c_2 c_3 c_4 c_5 c_6
  obtain ⟨W1, hW1, g1, hy1, B_R⟩ := pro1 W0 #[.int .u64 i0, .int .u64 i1] 26
  rw [← hW1]
  clear hW1
  have hz_W1 := g1.size
  replace HE := hid (HE.out.trans g1)
  replace HB_F := hid (HB_F.out.ext g1)
  replace HB_A := hid (HB_A.out.ext g1)
  replace HB_Z := hid (HB_Z.out.ext g1)
  have HB_R := hid B_R
  clear B_R
  have HWS : Hid (WSl W1 (.slice (some ⟨W0.heap.size, 0, none⟩) 1 1) [n]) := hid ⟨some ⟨W0.heap.size, 0, none⟩, W0.heap.size, 0, 1, rfl, Nat.le_refl _, by decide, fun _ => rfl, fun x hx => by
      rw [List.mem_singleton] at hx; rw [hx]; exact HN.out, fun i hi => by
      obtain rfl : i = 0 := by simpa using hi
      refine ⟨?_, ?_⟩
      · have := HB_R.out.cell 0; rw [HI0.out] at this; exact this
      · have := HB_R.out.cell 1; rw [HI1.out] at this; exact this⟩
  refine (with_good E P m _ [n] _ HM.out HF.out HWS.out).mono ?_
  rintro e w2 ⟨rfl, g2⟩
  have hz_w2 := g2.size
  replace HE := hid (HE.out.trans g2)
  replace HB_F := hid (HB_F.out.ext g2)
  replace HB_A := hid (HB_A.out.ext g2)
  replace HB_Z := hid (HB_Z.out.ext g2)
  rw [HW.out]
  have gA := Ext.alloc w2 (.cells #[.int .i64 (E : Nat), .int .i64 (P : Nat), .int .i64 (m : Nat), .int .i64 (bias E : Nat)] 63)
  obtain ⟨c_7, c_8⟩ := (HB_F.out.ext gA).c2
  obtain ⟨c_9, c_10⟩ := (HB_A.out.ext gA).c2
  obtain ⟨c_11, c_12⟩ := (HB_Z.out.ext gA).c2
  go_wp2_with fail
  clear gA c_7 c_8 c_9 c_10 c_11 c_12
  obtain ⟨W3, hW3, g3, hy3, B_M⟩ := pro1 w2 #[.int .i64 (E : Nat), .int .i64 (P : Nat), .int .i64 (m : Nat), .int .i64 (bias E : Nat)] 63
  rw [← hW3]
  clear hW3
  have hz_W3 := g3.size
  replace HE := hid (HE.out.trans g3)
  replace HB_F := hid (HB_F.out.ext g3)
  replace HB_A := hid (HB_A.out.ext g3)
  replace HB_Z := hid (HB_Z.out.ext g3)
  have HB_M := hid B_M
  clear B_M
  refine (CI.out _).mono ?_
  rintro e w4 ⟨v1, rfl, ⟨ng, a, n1, c, a', n1', c', rfl, kv⟩, g4⟩
  have hz_w4 := g4.size
  replace HE := hid (HE.out.trans g4)
  replace HB_F := hid (HB_F.out.ext g4)
  replace HB_A := hid (HB_A.out.ext g4)
  replace HB_Z := hid (HB_Z.out.ext g4)
  replace HB_M := hid (HB_M.out.ext g4)
  have gA := Ext.alloc w4 (.cells #[.int .i64 2, .bool true, .bool ng, .slice a n1 c, .slice a' n1' c'] 74)
  obtain ⟨c_13, c_14, c_15, c_16⟩ := (HB_M.out.ext gA).c4
  go_wp2_with fail
  clear gA c_13 c_14 c_15 c_16
  obtain ⟨W5, hW5, g5, hy5, B_X, B_S⟩ := pro2s w4 #[.int .i64 2, .bool true, .bool ng, .slice a n1 c, .slice a' n1' c'] #[.int .i64 2, .bool true, .bool ng, .slice a n1 c, .slice a' n1' c'] 74 74
  rw [← hW5]
  clear hW5
  have hz_W5 := g5.size
  replace HE := hid (HE.out.trans g5)
  replace HB_F := hid (HB_F.out.ext g5)
  replace HB_A := hid (HB_A.out.ext g5)
  replace HB_Z := hid (HB_Z.out.ext g5)
  replace HB_M := hid (HB_M.out.ext g5)
  replace kv := kv.ext g5
  have HB_X := hid B_X
  have HB_S := hid B_S
  clear B_X B_S
  have HOS : Hid (OSl W5 (.slice (some ⟨w4.heap.size + 1, 0, none⟩) 1 1) [2]) := hid ⟨some ⟨w4.heap.size + 1, 0, none⟩, w4.heap.size + 1, 0, 1, rfl, Nat.le_refl _, by decide, fun _ => rfl, fun x hx => by
      rw [List.mem_singleton] at hx; rw [hx]; decide, fun i hi => by
      obtain rfl : i = 0 := by simpa using hi
      exact ⟨true, ng, a, n1, c, a', n1', c', HB_S.out.cell 0, HB_S.out.cell 1, HB_S.out.cell 2, HB_S.out.cell 3, HB_S.out.cell 4⟩⟩
  have CSP : Hid (SpecPost E P [2] W5 = fun e w' => e = .returned (.tuple #[.agg #[.int .u64 s0, .int .u64 s1], .int .i64 0, .bool false]) ∧ Ext W5 w') := hid (by funext e w'; unfold SpecPost; rw [Es.out, show anyNan [2] = false from by decide]; rfl)
  have CSS := special_c E P m (bias E) _ [2] W5 HF.out HOS.out
  rw [CSP.out] at CSS
  refine (CSS).mono ?_
  rintro e w6 ⟨rfl, g6⟩
  have hz_w6 := g6.size
  replace HE := hid (HE.out.trans g6)
  replace HB_F := hid (HB_F.out.ext g6)
  replace HB_A := hid (HB_A.out.ext g6)
  replace HB_Z := hid (HB_Z.out.ext g6)
  replace HB_M := hid (HB_M.out.ext g6)
  replace HB_X := hid (HB_X.out.ext g6)
  replace kv := kv.ext g6
  clear CSS CSP HOS HWS
  obtain ⟨c_17, c_18⟩ := HB_Z.out.c2
  obtain ⟨f_19, f_20⟩ := HB_Z.out.f2
  go_upto_region 8 with (fail)
  clear c_17 c_18 f_19 f_20
  obtain ⟨W7, hW7, g7, q7, B7, hy7, ho7⟩ := sto2 HE.out (by omega) HB_Z.out (by decide) (.int .u64 s0) (.int .u64 s1)
  rw [← hW7]
  clear hW7
  replace HE := hid g7
  replace HB_F := hid (ho7 _ _ _ (by omega) HB_F.out)
  replace HB_A := hid (ho7 _ _ _ (by omega) HB_A.out)
  replace HB_M := hid (ho7 _ _ _ (by omega) HB_M.out)
  replace HB_X := hid (ho7 _ _ _ (by omega) HB_X.out)
  replace HB_Z := hid B7
  replace kv := kv.keep q7
  obtain ⟨c_21, c_22, c_23, c_24, c_25⟩ := HB_X.out.c5
  obtain ⟨c_26, c_27, c_28, c_29⟩ := HB_M.out.c4
  go_wp2_with fail
  clear c_21 c_22 c_23 c_24 c_25 c_26 c_27 c_28 c_29
  refine (CV.out _).mono ?_
  rintro e w8 ⟨rfl, g8⟩
  have hz_w8 := g8.size
  replace HE := hid (HE.out.trans g8)
  replace HB_F := hid (HB_F.out.ext g8)
  replace HB_A := hid (HB_A.out.ext g8)
  replace HB_Z := hid (HB_Z.out.ext g8)
  replace HB_M := hid (HB_M.out.ext g8)
  replace HB_X := hid (HB_X.out.ext g8)
  replace kv := kv.ext g8
  obtain ⟨c_30, c_31⟩ := HB_Z.out.c2
  obtain ⟨f_32, f_33⟩ := HB_Z.out.f2
  go_wp2_with fail
  clear c_30 c_31 f_32 f_33
  obtain ⟨W9, hW9, g9, q9, B9, hy9, ho9⟩ := sto2 HE.out (by omega) HB_Z.out (by decide) (.int .u64 s0) (.int .u64 s1)
  rw [← hW9]
  clear hW9
  replace HE := hid g9
  replace HB_F := hid (ho9 _ _ _ (by omega) HB_F.out)
  replace HB_A := hid (ho9 _ _ _ (by omega) HB_A.out)
  replace HB_M := hid (ho9 _ _ _ (by omega) HB_M.out)
  replace HB_X := hid (ho9 _ _ _ (by omega) HB_X.out)
  replace HB_Z := hid B9
  replace kv := kv.keep q9
  obtain ⟨W10, hW10, g10, q10, B10, hy10, ho10⟩ := sto2 HE.out (by omega) HB_Z.out (by decide) (.int .u64 s0) (.int .u64 s1)
  rw [← hW10]
  clear hW10
  replace HE := hid g10
  replace HB_F := hid (ho10 _ _ _ (by omega) HB_F.out)
  replace HB_A := hid (ho10 _ _ _ (by omega) HB_A.out)
  replace HB_M := hid (ho10 _ _ _ (by omega) HB_M.out)
  replace HB_X := hid (ho10 _ _ _ (by omega) HB_X.out)
  replace HB_Z := hid B10
  replace kv := kv.keep q10
  unfold RoundPost
  obtain ⟨c_34, c_35⟩ := HB_Z.out.c2
  refine bodyPost_ret (v := .tuple #[.agg #[.int .u64 s0, .int .u64 s1], .int .i64 1, .int .i64 0]) (by simp [results, Tryz.results23, go_sem, c_34, c_35]) rfl ⟨by rw [Es.out]; rfl, HE.out⟩
set_option maxRecDepth 100000 in
set_option maxHeartbeats 4000000 in
theorem Sqrt_3p (E P m n : Nat) (w : World) (hF : Fmt E P) (hm : m ≤ 4) (hn : n < 2 ^ (E + P)) (hk : wkind E P n = 3) (hs : wn E P n = false) :
   Calls Tryz.prog 23 #[.agg #[.int .i64 (E : Nat), .int .i64 (P : Nat)], .int .i64 (m : Nat), Word n] w fun e w' => RoundPost ((n, 0)) 0 w e w' := by
  obtain ⟨hE, hP, hb, hEP, hb1⟩ := fmt_bounds hF
  have hp : 2 ^ (E + P) ≤ 2 ^ 124 := Nat.pow_le_pow_right (by decide) hEP
  have hn8 : W128 n := by show n < 2 ^ 128; omega
  obtain ⟨i0, hi0⟩ : ∃ x : Nat, x = n / 18446744073709551616 := ⟨_, rfl⟩
  obtain ⟨i1, hi1⟩ : ∃ x : Nat, x = n % 18446744073709551616 := ⟨_, rfl⟩
  have ei : Word n = .agg #[.int .u64 i0, .int .u64 i1] := by unfold Word; rw [← hi0, ← hi1]
  obtain ⟨ni, hni⟩ : ∃ x, x = wn E P n := ⟨_, rfl⟩
  obtain ⟨qi, hqi⟩ : ∃ x, x = wvalK E P (bias E) n := ⟨_, rfl⟩
  have CI : Hid (∀ w, Calls Tryz.prog 36 #[.agg #[.int .i64 (E : Nat), .int .i64 (P : Nat), .int .i64 (m : Nat), .int .i64 (bias E : Nat)], .agg #[.int .u64 i0, .int .u64 i1]] w (LookPost 3 false qi w)) := hid fun w => by
    have := look_c E P m (bias E) n w hF hb hn8
    rw [hk, hs, ← hqi, ei] at this
    exact this
  have HW : Hid (withRes E P m [n] = .tuple #[.agg #[.int .i64 (E : Nat), .int .i64 (P : Nat), .int .i64 (m : Nat), .int .i64 (bias E : Nat)], .int .i64 0]) := hid (by unfold withRes; rw [if_pos (fun x hx => by rw [List.mem_singleton] at hx; rw [hx]; exact hn)])
  obtain ⟨s0, s1, es⟩ := Word.shape (nanw E P)
  rw [ei]
  have HF := hid hF; have HM := hid hm; have HN := hid hn8; have HI0 := hid hi0; have HI1 := hid hi1; have Es := hid es; have Ei := hid ei
  clear hF hm hn hk hE hP hb hEP hb1 hp hn8 hi0 hi1 ei es hni hqi hs
  obtain ⟨W0, hW0, g0, hz0, B_F, B_A, B_Z⟩ := pro3s w #[.int .i64 (E : Nat), .int .i64 (P : Nat)] #[.int .u64 i0, .int .u64 i1] #[.int .u64 0, .int .u64 0] 23 26 26
  have HE := hid g0
  have HB_F := hid B_F
  have HB_A := hid B_A
  have HB_Z := hid B_Z
  clear g0 B_F B_A B_Z 
  go_enter Tryz.func23, Tryz.ntmps23
  go_upto_region 1 with (fail)
  rw [← hW0]
  clear hW0
  obtain ⟨c_1, c_2⟩ := HB_F.out.c2
  obtain ⟨c_3, c_4⟩ := HB_A.out.c2
  obtain ⟨c_5, c_6⟩ := HB_Z.out.c2
  go_wp2_with fail
  clear c_1 c_2 c_3 c_4 c_5 c_6
  obtain ⟨W1, hW1, g1, hy1, B_R⟩ := pro1 W0 #[.int .u64 i0, .int .u64 i1] 26
  rw [← hW1]
  clear hW1
  have hz_W1 := g1.size
  replace HE := hid (HE.out.trans g1)
  replace HB_F := hid (HB_F.out.ext g1)
  replace HB_A := hid (HB_A.out.ext g1)
  replace HB_Z := hid (HB_Z.out.ext g1)
  have HB_R := hid B_R
  clear B_R
  have HWS : Hid (WSl W1 (.slice (some ⟨W0.heap.size, 0, none⟩) 1 1) [n]) := hid ⟨some ⟨W0.heap.size, 0, none⟩, W0.heap.size, 0, 1, rfl, Nat.le_refl _, by decide, fun _ => rfl, fun x hx => by
      rw [List.mem_singleton] at hx; rw [hx]; exact HN.out, fun i hi => by
      obtain rfl : i = 0 := by simpa using hi
      refine ⟨?_, ?_⟩
      · have := HB_R.out.cell 0; rw [HI0.out] at this; exact this
      · have := HB_R.out.cell 1; rw [HI1.out] at this; exact this⟩
  refine (with_good E P m _ [n] _ HM.out HF.out HWS.out).mono ?_
  rintro e w2 ⟨rfl, g2⟩
  have hz_w2 := g2.size
  replace HE := hid (HE.out.trans g2)
  replace HB_F := hid (HB_F.out.ext g2)
  replace HB_A := hid (HB_A.out.ext g2)
  replace HB_Z := hid (HB_Z.out.ext g2)
  rw [HW.out]
  have gA := Ext.alloc w2 (.cells #[.int .i64 (E : Nat), .int .i64 (P : Nat), .int .i64 (m : Nat), .int .i64 (bias E : Nat)] 63)
  obtain ⟨c_7, c_8⟩ := (HB_F.out.ext gA).c2
  obtain ⟨c_9, c_10⟩ := (HB_A.out.ext gA).c2
  obtain ⟨c_11, c_12⟩ := (HB_Z.out.ext gA).c2
  go_wp2_with fail
  clear gA c_7 c_8 c_9 c_10 c_11 c_12
  obtain ⟨W3, hW3, g3, hy3, B_M⟩ := pro1 w2 #[.int .i64 (E : Nat), .int .i64 (P : Nat), .int .i64 (m : Nat), .int .i64 (bias E : Nat)] 63
  rw [← hW3]
  clear hW3
  have hz_W3 := g3.size
  replace HE := hid (HE.out.trans g3)
  replace HB_F := hid (HB_F.out.ext g3)
  replace HB_A := hid (HB_A.out.ext g3)
  replace HB_Z := hid (HB_Z.out.ext g3)
  have HB_M := hid B_M
  clear B_M
  refine (CI.out _).mono ?_
  rintro e w4 ⟨v1, rfl, ⟨ng, a, n1, c, a', n1', c', rfl, kv⟩, g4⟩
  have hz_w4 := g4.size
  replace HE := hid (HE.out.trans g4)
  replace HB_F := hid (HB_F.out.ext g4)
  replace HB_A := hid (HB_A.out.ext g4)
  replace HB_Z := hid (HB_Z.out.ext g4)
  replace HB_M := hid (HB_M.out.ext g4)
  have gA := Ext.alloc w4 (.cells #[.int .i64 3, .bool false, .bool ng, .slice a n1 c, .slice a' n1' c'] 74)
  obtain ⟨c_13, c_14, c_15, c_16⟩ := (HB_M.out.ext gA).c4
  go_wp2_with fail
  clear gA c_13 c_14 c_15 c_16
  obtain ⟨W5, hW5, g5, hy5, B_X, B_S⟩ := pro2s w4 #[.int .i64 3, .bool false, .bool ng, .slice a n1 c, .slice a' n1' c'] #[.int .i64 3, .bool false, .bool ng, .slice a n1 c, .slice a' n1' c'] 74 74
  rw [← hW5]
  clear hW5
  have hz_W5 := g5.size
  replace HE := hid (HE.out.trans g5)
  replace HB_F := hid (HB_F.out.ext g5)
  replace HB_A := hid (HB_A.out.ext g5)
  replace HB_Z := hid (HB_Z.out.ext g5)
  replace HB_M := hid (HB_M.out.ext g5)
  replace kv := kv.ext g5
  have HB_X := hid B_X
  have HB_S := hid B_S
  clear B_X B_S
  have HOS : Hid (OSl W5 (.slice (some ⟨w4.heap.size + 1, 0, none⟩) 1 1) [3]) := hid ⟨some ⟨w4.heap.size + 1, 0, none⟩, w4.heap.size + 1, 0, 1, rfl, Nat.le_refl _, by decide, fun _ => rfl, fun x hx => by
      rw [List.mem_singleton] at hx; rw [hx]; decide, fun i hi => by
      obtain rfl : i = 0 := by simpa using hi
      exact ⟨false, ng, a, n1, c, a', n1', c', HB_S.out.cell 0, HB_S.out.cell 1, HB_S.out.cell 2, HB_S.out.cell 3, HB_S.out.cell 4⟩⟩
  have CSP : Hid (SpecPost E P [3] W5 = fun e w' => e = .returned (.tuple #[.agg #[.int .u64 s0, .int .u64 s1], .int .i64 0, .bool false]) ∧ Ext W5 w') := hid (by funext e w'; unfold SpecPost; rw [Es.out, show anyNan [3] = false from by decide]; rfl)
  have CSS := special_c E P m (bias E) _ [3] W5 HF.out HOS.out
  rw [CSP.out] at CSS
  refine (CSS).mono ?_
  rintro e w6 ⟨rfl, g6⟩
  have hz_w6 := g6.size
  replace HE := hid (HE.out.trans g6)
  replace HB_F := hid (HB_F.out.ext g6)
  replace HB_A := hid (HB_A.out.ext g6)
  replace HB_Z := hid (HB_Z.out.ext g6)
  replace HB_M := hid (HB_M.out.ext g6)
  replace HB_X := hid (HB_X.out.ext g6)
  replace kv := kv.ext g6
  clear CSS CSP HOS HWS
  obtain ⟨c_17, c_18⟩ := HB_Z.out.c2
  obtain ⟨f_19, f_20⟩ := HB_Z.out.f2
  go_upto_region 8 with (fail)
  clear c_17 c_18 f_19 f_20
  obtain ⟨W7, hW7, g7, q7, B7, hy7, ho7⟩ := sto2 HE.out (by omega) HB_Z.out (by decide) (.int .u64 s0) (.int .u64 s1)
  rw [← hW7]
  clear hW7
  replace HE := hid g7
  replace HB_F := hid (ho7 _ _ _ (by omega) HB_F.out)
  replace HB_A := hid (ho7 _ _ _ (by omega) HB_A.out)
  replace HB_M := hid (ho7 _ _ _ (by omega) HB_M.out)
  replace HB_X := hid (ho7 _ _ _ (by omega) HB_X.out)
  replace HB_Z := hid B7
  replace kv := kv.keep q7
  obtain ⟨c_21, c_22, c_23, c_24, c_25⟩ := HB_X.out.c5
  obtain ⟨c_26, c_27⟩ := HB_A.out.c2
  obtain ⟨c_28, c_29⟩ := HB_Z.out.c2
  obtain ⟨f_30, f_31⟩ := HB_Z.out.f2
  go_wp2_with fail
  clear c_21 c_22 c_23 c_24 c_25 c_26 c_27 c_28 c_29 f_30 f_31
  obtain ⟨W8, hW8, g8, q8, B8, hy8, ho8⟩ := sto2 HE.out (by omega) HB_Z.out (by decide) (.int .u64 i0) (.int .u64 i1)
  rw [← hW8]
  clear hW8
  replace HE := hid g8
  replace HB_F := hid (ho8 _ _ _ (by omega) HB_F.out)
  replace HB_A := hid (ho8 _ _ _ (by omega) HB_A.out)
  replace HB_M := hid (ho8 _ _ _ (by omega) HB_M.out)
  replace HB_X := hid (ho8 _ _ _ (by omega) HB_X.out)
  replace HB_Z := hid B8
  replace kv := kv.keep q8
  obtain ⟨W9, hW9, g9, q9, B9, hy9, ho9⟩ := sto2 HE.out (by omega) HB_Z.out (by decide) (.int .u64 i0) (.int .u64 i1)
  rw [← hW9]
  clear hW9
  replace HE := hid g9
  replace HB_F := hid (ho9 _ _ _ (by omega) HB_F.out)
  replace HB_A := hid (ho9 _ _ _ (by omega) HB_A.out)
  replace HB_M := hid (ho9 _ _ _ (by omega) HB_M.out)
  replace HB_X := hid (ho9 _ _ _ (by omega) HB_X.out)
  replace HB_Z := hid B9
  replace kv := kv.keep q9
  unfold RoundPost
  obtain ⟨c_32, c_33⟩ := HB_Z.out.c2
  refine bodyPost_ret (v := .tuple #[.agg #[.int .u64 i0, .int .u64 i1], .int .i64 0, .int .i64 0]) (by simp [results, Tryz.results23, go_sem, c_32, c_33]) rfl ⟨by rw [Ei.out]; rfl, HE.out⟩
set_option maxRecDepth 100000 in
set_option maxHeartbeats 4000000 in
theorem Sqrt_3n (E P m n : Nat) (w : World) (hF : Fmt E P) (hm : m ≤ 4) (hn : n < 2 ^ (E + P)) (hk : wkind E P n = 3) (hs : wn E P n = true) :
   Calls Tryz.prog 23 #[.agg #[.int .i64 (E : Nat), .int .i64 (P : Nat)], .int .i64 (m : Nat), Word n] w fun e w' => RoundPost ((nanw E P, 1)) 0 w e w' := by
  obtain ⟨hE, hP, hb, hEP, hb1⟩ := fmt_bounds hF
  have hp : 2 ^ (E + P) ≤ 2 ^ 124 := Nat.pow_le_pow_right (by decide) hEP
  have hn8 : W128 n := by show n < 2 ^ 128; omega
  obtain ⟨i0, hi0⟩ : ∃ x : Nat, x = n / 18446744073709551616 := ⟨_, rfl⟩
  obtain ⟨i1, hi1⟩ : ∃ x : Nat, x = n % 18446744073709551616 := ⟨_, rfl⟩
  have ei : Word n = .agg #[.int .u64 i0, .int .u64 i1] := by unfold Word; rw [← hi0, ← hi1]
  obtain ⟨ni, hni⟩ : ∃ x, x = wn E P n := ⟨_, rfl⟩
  obtain ⟨qi, hqi⟩ : ∃ x, x = wvalK E P (bias E) n := ⟨_, rfl⟩
  have CI : Hid (∀ w, Calls Tryz.prog 36 #[.agg #[.int .i64 (E : Nat), .int .i64 (P : Nat), .int .i64 (m : Nat), .int .i64 (bias E : Nat)], .agg #[.int .u64 i0, .int .u64 i1]] w (LookPost 3 true qi w)) := hid fun w => by
    have := look_c E P m (bias E) n w hF hb hn8
    rw [hk, hs, ← hqi, ei] at this
    exact this
  have HW : Hid (withRes E P m [n] = .tuple #[.agg #[.int .i64 (E : Nat), .int .i64 (P : Nat), .int .i64 (m : Nat), .int .i64 (bias E : Nat)], .int .i64 0]) := hid (by unfold withRes; rw [if_pos (fun x hx => by rw [List.mem_singleton] at hx; rw [hx]; exact hn)])
  obtain ⟨s0, s1, es⟩ := Word.shape (nanw E P)
  have CV : Hid (∀ w, Calls Tryz.prog 55 #[.agg #[.int .i64 (E : Nat), .int .i64 (P : Nat), .int .i64 (m : Nat), .int .i64 (bias E : Nat)]] w fun e w' => e = .returned (.tuple #[.agg #[.int .u64 s0, .int .u64 s1], .int .i64 1]) ∧ Ext w w') := hid fun w => by
    have := invalid_c E P m (bias E) w hF
    rwa [es] at this
  rw [ei]
  have HF := hid hF; have HM := hid hm; have HN := hid hn8; have HI0 := hid hi0; have HI1 := hid hi1; have Es := hid es; have Ei := hid ei
  clear hF hm hn hk hE hP hb hEP hb1 hp hn8 hi0 hi1 ei es hni hqi hs
  obtain ⟨W0, hW0, g0, hz0, B_F, B_A, B_Z⟩ := pro3s w #[.int .i64 (E : Nat), .int .i64 (P : Nat)] #[.int .u64 i0, .int .u64 i1] #[.int .u64 0, .int .u64 0] 23 26 26
  have HE := hid g0
  have HB_F := hid B_F
  have HB_A := hid B_A
  have HB_Z := hid B_Z
  clear g0 B_F B_A B_Z 
  go_enter Tryz.func23, Tryz.ntmps23
  go_upto_region 1 with (fail)
  rw [← hW0]
  clear hW0
  obtain ⟨c_1, c_2⟩ := HB_F.out.c2
  obtain ⟨c_3, c_4⟩ := HB_A.out.c2
  obtain ⟨c_5, c_6⟩ := HB_Z.out.c2
  go_wp2_with fail
  clear c_1 c_2 c_3 c_4 c_5 c_6
  obtain ⟨W1, hW1, g1, hy1, B_R⟩ := pro1 W0 #[.int .u64 i0, .int .u64 i1] 26
  rw [← hW1]
  clear hW1
  have hz_W1 := g1.size
  replace HE := hid (HE.out.trans g1)
  replace HB_F := hid (HB_F.out.ext g1)
  replace HB_A := hid (HB_A.out.ext g1)
  replace HB_Z := hid (HB_Z.out.ext g1)
  have HB_R := hid B_R
  clear B_R
  have HWS : Hid (WSl W1 (.slice (some ⟨W0.heap.size, 0, none⟩) 1 1) [n]) := hid ⟨some ⟨W0.heap.size, 0, none⟩, W0.heap.size, 0, 1, rfl, Nat.le_refl _, by decide, fun _ => rfl, fun x hx => by
      rw [List.mem_singleton] at hx; rw [hx]; exact HN.out, fun i hi => by
      obtain rfl : i = 0 := by simpa using hi
      refine ⟨?_, ?_⟩
      · have := HB_R.out.cell 0; rw [HI0.out] at this; exact this
      · have := HB_R.out.cell 1; rw [HI1.out] at this; exact this⟩
  refine (with_good E P m _ [n] _ HM.out HF.out HWS.out).mono ?_
  rintro e w2 ⟨rfl, g2⟩
  have hz_w2 := g2.size
  replace HE := hid (HE.out.trans g2)
  replace HB_F := hid (HB_F.out.ext g2)
  replace HB_A := hid (HB_A.out.ext g2)
  replace HB_Z := hid (HB_Z.out.ext g2)
  rw [HW.out]
  have gA := Ext.alloc w2 (.cells #[.int .i64 (E : Nat), .int .i64 (P : Nat), .int .i64 (m : Nat), .int .i64 (bias E : Nat)] 63)
  obtain ⟨c_7, c_8⟩ := (HB_F.out.ext gA).c2
  obtain ⟨c_9, c_10⟩ := (HB_A.out.ext gA).c2
  obtain ⟨c_11, c_12⟩ := (HB_Z.out.ext gA).c2
  go_wp2_with fail
  clear gA c_7 c_8 c_9 c_10 c_11 c_12
  obtain ⟨W3, hW3, g3, hy3, B_M⟩ := pro1 w2 #[.int .i64 (E : Nat), .int .i64 (P : Nat), .int .i64 (m : Nat), .int .i64 (bias E : Nat)] 63
  rw [← hW3]
  clear hW3
  have hz_W3 := g3.size
  replace HE := hid (HE.out.trans g3)
  replace HB_F := hid (HB_F.out.ext g3)
  replace HB_A := hid (HB_A.out.ext g3)
  replace HB_Z := hid (HB_Z.out.ext g3)
  have HB_M := hid B_M
  clear B_M
  refine (CI.out _).mono ?_
  rintro e w4 ⟨v1, rfl, ⟨ng, a, n1, c, a', n1', c', rfl, kv⟩, g4⟩
  have hz_w4 := g4.size
  replace HE := hid (HE.out.trans g4)
  replace HB_F := hid (HB_F.out.ext g4)
  replace HB_A := hid (HB_A.out.ext g4)
  replace HB_Z := hid (HB_Z.out.ext g4)
  replace HB_M := hid (HB_M.out.ext g4)
  have gA := Ext.alloc w4 (.cells #[.int .i64 3, .bool true, .bool ng, .slice a n1 c, .slice a' n1' c'] 74)
  obtain ⟨c_13, c_14, c_15, c_16⟩ := (HB_M.out.ext gA).c4
  go_wp2_with fail
  clear gA c_13 c_14 c_15 c_16
  obtain ⟨W5, hW5, g5, hy5, B_X, B_S⟩ := pro2s w4 #[.int .i64 3, .bool true, .bool ng, .slice a n1 c, .slice a' n1' c'] #[.int .i64 3, .bool true, .bool ng, .slice a n1 c, .slice a' n1' c'] 74 74
  rw [← hW5]
  clear hW5
  have hz_W5 := g5.size
  replace HE := hid (HE.out.trans g5)
  replace HB_F := hid (HB_F.out.ext g5)
  replace HB_A := hid (HB_A.out.ext g5)
  replace HB_Z := hid (HB_Z.out.ext g5)
  replace HB_M := hid (HB_M.out.ext g5)
  replace kv := kv.ext g5
  have HB_X := hid B_X
  have HB_S := hid B_S
  clear B_X B_S
  have HOS : Hid (OSl W5 (.slice (some ⟨w4.heap.size + 1, 0, none⟩) 1 1) [3]) := hid ⟨some ⟨w4.heap.size + 1, 0, none⟩, w4.heap.size + 1, 0, 1, rfl, Nat.le_refl _, by decide, fun _ => rfl, fun x hx => by
      rw [List.mem_singleton] at hx; rw [hx]; decide, fun i hi => by
      obtain rfl : i = 0 := by simpa using hi
      exact ⟨true, ng, a, n1, c, a', n1', c', HB_S.out.cell 0, HB_S.out.cell 1, HB_S.out.cell 2, HB_S.out.cell 3, HB_S.out.cell 4⟩⟩
  have CSP : Hid (SpecPost E P [3] W5 = fun e w' => e = .returned (.tuple #[.agg #[.int .u64 s0, .int .u64 s1], .int .i64 0, .bool false]) ∧ Ext W5 w') := hid (by funext e w'; unfold SpecPost; rw [Es.out, show anyNan [3] = false from by decide]; rfl)
  have CSS := special_c E P m (bias E) _ [3] W5 HF.out HOS.out
  rw [CSP.out] at CSS
  refine (CSS).mono ?_
  rintro e w6 ⟨rfl, g6⟩
  have hz_w6 := g6.size
  replace HE := hid (HE.out.trans g6)
  replace HB_F := hid (HB_F.out.ext g6)
  replace HB_A := hid (HB_A.out.ext g6)
  replace HB_Z := hid (HB_Z.out.ext g6)
  replace HB_M := hid (HB_M.out.ext g6)
  replace HB_X := hid (HB_X.out.ext g6)
  replace kv := kv.ext g6
  clear CSS CSP HOS HWS
  obtain ⟨c_17, c_18⟩ := HB_Z.out.c2
  obtain ⟨f_19, f_20⟩ := HB_Z.out.f2
  go_upto_region 8 with (fail)
  clear c_17 c_18 f_19 f_20
  obtain ⟨W7, hW7, g7, q7, B7, hy7, ho7⟩ := sto2 HE.out (by omega) HB_Z.out (by decide) (.int .u64 s0) (.int .u64 s1)
  rw [← hW7]
  clear hW7
  replace HE := hid g7
  replace HB_F := hid (ho7 _ _ _ (by omega) HB_F.out)
  replace HB_A := hid (ho7 _ _ _ (by omega) HB_A.out)
  replace HB_M := hid (ho7 _ _ _ (by omega) HB_M.out)
  replace HB_X := hid (ho7 _ _ _ (by omega) HB_X.out)
  replace HB_Z := hid B7
  replace kv := kv.keep q7
  obtain ⟨c_21, c_22, c_23, c_24, c_25⟩ := HB_X.out.c5
  obtain ⟨c_26, c_27, c_28, c_29⟩ := HB_M.out.c4
  go_wp2_with fail
  clear c_21 c_22 c_23 c_24 c_25 c_26 c_27 c_28 c_29
  refine (CV.out _).mono ?_
  rintro e w8 ⟨rfl, g8⟩
  have hz_w8 := g8.size
  replace HE := hid (HE.out.trans g8)
  replace HB_F := hid (HB_F.out.ext g8)
  replace HB_A := hid (HB_A.out.ext g8)
  replace HB_Z := hid (HB_Z.out.ext g8)
  replace HB_M := hid (HB_M.out.ext g8)
  replace HB_X := hid (HB_X.out.ext g8)
  replace kv := kv.ext g8
  obtain ⟨c_30, c_31⟩ := HB_Z.out.c2
  obtain ⟨f_32, f_33⟩ := HB_Z.out.f2
  go_wp2_with fail
  clear c_30 c_31 f_32 f_33
  obtain ⟨W9, hW9, g9, q9, B9, hy9, ho9⟩ := sto2 HE.out (by omega) HB_Z.out (by decide) (.int .u64 s0) (.int .u64 s1)
  rw [← hW9]
  clear hW9
  replace HE := hid g9
  replace HB_F := hid (ho9 _ _ _ (by omega) HB_F.out)
  replace HB_A := hid (ho9 _ _ _ (by omega) HB_A.out)
  replace HB_M := hid (ho9 _ _ _ (by omega) HB_M.out)
  replace HB_X := hid (ho9 _ _ _ (by omega) HB_X.out)
  replace HB_Z := hid B9
  replace kv := kv.keep q9
  obtain ⟨W10, hW10, g10, q10, B10, hy10, ho10⟩ := sto2 HE.out (by omega) HB_Z.out (by decide) (.int .u64 s0) (.int .u64 s1)
  rw [← hW10]
  clear hW10
  replace HE := hid g10
  replace HB_F := hid (ho10 _ _ _ (by omega) HB_F.out)
  replace HB_A := hid (ho10 _ _ _ (by omega) HB_A.out)
  replace HB_M := hid (ho10 _ _ _ (by omega) HB_M.out)
  replace HB_X := hid (ho10 _ _ _ (by omega) HB_X.out)
  replace HB_Z := hid B10
  replace kv := kv.keep q10
  unfold RoundPost
  obtain ⟨c_34, c_35⟩ := HB_Z.out.c2
  refine bodyPost_ret (v := .tuple #[.agg #[.int .u64 s0, .int .u64 s1], .int .i64 1, .int .i64 0]) (by simp [results, Tryz.results23, go_sem, c_34, c_35]) rfl ⟨by rw [Es.out]; rfl, HE.out⟩
set_option maxRecDepth 100000 in
set_option maxHeartbeats 4000000 in
theorem Sqrt_4 (E P m n : Nat) (w : World) (hF : Fmt E P) (hm : m ≤ 4) (hn : n < 2 ^ (E + P)) (hk : wkind E P n = 4) :
   Calls Tryz.prog 23 #[.agg #[.int .i64 (E : Nat), .int .i64 (P : Nat)], .int .i64 (m : Nat), Word n] w fun e w' => RoundPost ((nanw E P, 0)) 0 w e w' := by
  obtain ⟨hE, hP, hb, hEP, hb1⟩ := fmt_bounds hF
  have hp : 2 ^ (E + P) ≤ 2 ^ 124 := Nat.pow_le_pow_right (by decide) hEP
  have hn8 : W128 n := by show n < 2 ^ 128; omega
  obtain ⟨i0, hi0⟩ : ∃ x : Nat, x = n / 18446744073709551616 := ⟨_, rfl⟩
  obtain ⟨i1, hi1⟩ : ∃ x : Nat, x = n % 18446744073709551616 := ⟨_, rfl⟩
  have ei : Word n = .agg #[.int .u64 i0, .int .u64 i1] := by unfold Word; rw [← hi0, ← hi1]
  obtain ⟨ni, hni⟩ : ∃ x, x = wn E P n := ⟨_, rfl⟩
  obtain ⟨qi, hqi⟩ : ∃ x, x = wvalK E P (bias E) n := ⟨_, rfl⟩
  have CI : Hid (∀ w, Calls Tryz.prog 36 #[.agg #[.int .i64 (E : Nat), .int .i64 (P : Nat), .int .i64 (m : Nat), .int .i64 (bias E : Nat)], .agg #[.int .u64 i0, .int .u64 i1]] w (LookPost 4 ni qi w)) := hid fun w => by
    have := look_c E P m (bias E) n w hF hb hn8
    rw [hk, ← hni, ← hqi, ei] at this
    exact this
  have HW : Hid (withRes E P m [n] = .tuple #[.agg #[.int .i64 (E : Nat), .int .i64 (P : Nat), .int .i64 (m : Nat), .int .i64 (bias E : Nat)], .int .i64 0]) := hid (by unfold withRes; rw [if_pos (fun x hx => by rw [List.mem_singleton] at hx; rw [hx]; exact hn)])
  obtain ⟨s0, s1, es⟩ := Word.shape (nanw E P)
  rw [ei]
  have HF := hid hF; have HM := hid hm; have HN := hid hn8; have HI0 := hid hi0; have HI1 := hid hi1; have Es := hid es; have Ei := hid ei
  clear hF hm hn hk hE hP hb hEP hb1 hp hn8 hi0 hi1 ei es hni hqi
  obtain ⟨W0, hW0, g0, hz0, B_F, B_A, B_Z⟩ := pro3s w #[.int .i64 (E : Nat), .int .i64 (P : Nat)] #[.int .u64 i0, .int .u64 i1] #[.int .u64 0, .int .u64 0] 23 26 26
  have HE := hid g0
  have HB_F := hid B_F
  have HB_A := hid B_A
  have HB_Z := hid B_Z
  clear g0 B_F B_A B_Z 
  go_enter Tryz.func23, Tryz.ntmps23
  go_upto_region 1 with (fail)
  rw [← hW0]
  clear hW0
  obtain ⟨c_1, c_2⟩ := HB_F.out.c2
  obtain ⟨c_3, c_4⟩ := HB_A.out.c2
  obtain ⟨c_5, c_6⟩ := HB_Z.out.c2
  go_wp2_with fail
  clear c_1 c_2 c_3 c_4 c_5 c_6
  obtain ⟨W1, hW1, g1, hy1, B_R⟩ := pro1 W0 #[.int .u64 i0, .int .u64 i1] 26
  rw [← hW1]
  clear hW1
  have hz_W1 := g1.size
  replace HE := hid (HE.out.trans g1)
  replace HB_F := hid (HB_F.out.ext g1)
  replace HB_A := hid (HB_A.out.ext g1)
  replace HB_Z := hid (HB_Z.out.ext g1)
  have HB_R := hid B_R
  clear B_R
  have HWS : Hid (WSl W1 (.slice (some ⟨W0.heap.size, 0, none⟩) 1 1) [n]) := hid ⟨some ⟨W0.heap.size, 0, none⟩, W0.heap.size, 0, 1, rfl, Nat.le_refl _, by decide, fun _ => rfl, fun x hx => by
      rw [List.mem_singleton] at hx; rw [hx]; exact HN.out, fun i hi => by
      obtain rfl : i = 0 := by simpa using hi
      refine ⟨?_, ?_⟩
      · have := HB_R.out.cell 0; rw [HI0.out] at this; exact this
      · have := HB_R.out.cell 1; rw [HI1.out] at this; exact this⟩
  refine (with_good E P m _ [n] _ HM.out HF.out HWS.out).mono ?_
  rintro e w2 ⟨rfl, g2⟩
  have hz_w2 := g2.size
  replace HE := hid (HE.out.trans g2)
  replace HB_F := hid (HB_F.out.ext g2)
  replace HB_A := hid (HB_A.out.ext g2)
  replace HB_Z := hid (HB_Z.out.ext g2)
  rw [HW.out]
  have gA := Ext.alloc w2 (.cells #[.int .i64 (E : Nat), .int .i64 (P : Nat), .int .i64 (m : Nat), .int .i64 (bias E : Nat)] 63)
  obtain ⟨c_7, c_8⟩ := (HB_F.out.ext gA).c2
  obtain ⟨c_9, c_10⟩ := (HB_A.out.ext gA).c2
  obtain ⟨c_11, c_12⟩ := (HB_Z.out.ext gA).c2
  go_wp2_with fail
  clear gA c_7 c_8 c_9 c_10 c_11 c_12
  obtain ⟨W3, hW3, g3, hy3, B_M⟩ := pro1 w2 #[.int .i64 (E : Nat), .int .i64 (P : Nat), .int .i64 (m : Nat), .int .i64 (bias E : Nat)] 63
  rw [← hW3]
  clear hW3
  have hz_W3 := g3.size
  replace HE := hid (HE.out.trans g3)
  replace HB_F := hid (HB_F.out.ext g3)
  replace HB_A := hid (HB_A.out.ext g3)
  replace HB_Z := hid (HB_Z.out.ext g3)
  have HB_M := hid B_M
  clear B_M
  refine (CI.out _).mono ?_
  rintro e w4 ⟨v1, rfl, ⟨ng, a, n1, c, a', n1', c', rfl, kv⟩, g4⟩
  have hz_w4 := g4.size
  replace HE := hid (HE.out.trans g4)
  replace HB_F := hid (HB_F.out.ext g4)
  replace HB_A := hid (HB_A.out.ext g4)
  replace HB_Z := hid (HB_Z.out.ext g4)
  replace HB_M := hid (HB_M.out.ext g4)
  have gA := Ext.alloc w4 (.cells #[.int .i64 4, .bool ni, .bool ng, .slice a n1 c, .slice a' n1' c'] 74)
  obtain ⟨c_13, c_14, c_15, c_16⟩ := (HB_M.out.ext gA).c4
  go_wp2_with fail
  clear gA c_13 c_14 c_15 c_16
  obtain ⟨W5, hW5, g5, hy5, B_X, B_S⟩ := pro2s w4 #[.int .i64 4, .bool ni, .bool ng, .slice a n1 c, .slice a' n1' c'] #[.int .i64 4, .bool ni, .bool ng, .slice a n1 c, .slice a' n1' c'] 74 74
  rw [← hW5]
  clear hW5
  have hz_W5 := g5.size
  replace HE := hid (HE.out.trans g5)
  replace HB_F := hid (HB_F.out.ext g5)
  replace HB_A := hid (HB_A.out.ext g5)
  replace HB_Z := hid (HB_Z.out.ext g5)
  replace HB_M := hid (HB_M.out.ext g5)
  replace kv := kv.ext g5
  have HB_X := hid B_X
  have HB_S := hid B_S
  clear B_X B_S
  have HOS : Hid (OSl W5 (.slice (some ⟨w4.heap.size + 1, 0, none⟩) 1 1) [4]) := hid ⟨some ⟨w4.heap.size + 1, 0, none⟩, w4.heap.size + 1, 0, 1, rfl, Nat.le_refl _, by decide, fun _ => rfl, fun x hx => by
      rw [List.mem_singleton] at hx; rw [hx]; decide, fun i hi => by
      obtain rfl : i = 0 := by simpa using hi
      exact ⟨ni, ng, a, n1, c, a', n1', c', HB_S.out.cell 0, HB_S.out.cell 1, HB_S.out.cell 2, HB_S.out.cell 3, HB_S.out.cell 4⟩⟩
  have CSP : Hid (SpecPost E P [4] W5 = fun e w' => e = .returned (.tuple #[.agg #[.int .u64 s0, .int .u64 s1], .int .i64 0, .bool true]) ∧ Ext W5 w') := hid (by funext e w'; unfold SpecPost; rw [Es.out, show anyNan [4] = true from by decide]; rfl)
  have CSS := special_c E P m (bias E) _ [4] W5 HF.out HOS.out
  rw [CSP.out] at CSS
  refine (CSS).mono ?_
  rintro e w6 ⟨rfl, g6⟩
  have hz_w6 := g6.size
  replace HE := hid (HE.out.trans g6)
  replace HB_F := hid (HB_F.out.ext g6)
  replace HB_A := hid (HB_A.out.ext g6)
  replace HB_Z := hid (HB_Z.out.ext g6)
  replace HB_M := hid (HB_M.out.ext g6)
  replace HB_X := hid (HB_X.out.ext g6)
  replace kv := kv.ext g6
  clear CSS CSP HOS HWS
  obtain ⟨c_17, c_18⟩ := HB_Z.out.c2
  obtain ⟨f_19, f_20⟩ := HB_Z.out.f2
  go_wp2_with fail
  clear c_17 c_18 f_19 f_20
  obtain ⟨W7, hW7, g7, q7, B7, hy7, ho7⟩ := sto2 HE.out (by omega) HB_Z.out (by decide) (.int .u64 s0) (.int .u64 s1)
  rw [← hW7]
  clear hW7
  replace HE := hid g7
  replace HB_F := hid (ho7 _ _ _ (by omega) HB_F.out)
  replace HB_A := hid (ho7 _ _ _ (by omega) HB_A.out)
  replace HB_M := hid (ho7 _ _ _ (by omega) HB_M.out)
  replace HB_X := hid (ho7 _ _ _ (by omega) HB_X.out)
  replace HB_Z := hid B7
  replace kv := kv.keep q7
  obtain ⟨W8, hW8, g8, q8, B8, hy8, ho8⟩ := sto2 HE.out (by omega) HB_Z.out (by decide) (.int .u64 s0) (.int .u64 s1)
  rw [← hW8]
  clear hW8
  replace HE := hid g8
  replace HB_F := hid (ho8 _ _ _ (by omega) HB_F.out)
  replace HB_A := hid (ho8 _ _ _ (by omega) HB_A.out)
  replace HB_M := hid (ho8 _ _ _ (by omega) HB_M.out)
  replace HB_X := hid (ho8 _ _ _ (by omega) HB_X.out)
  replace HB_Z := hid B8
  replace kv := kv.keep q8
  unfold RoundPost
  obtain ⟨c_21, c_22⟩ := HB_Z.out.c2
  refine bodyPost_ret (v := .tuple #[.agg #[.int .u64 s0, .int .u64 s1], .int .i64 0, .int .i64 0]) (by simp [results, Tryz.results23, go_sem, c_21, c_22]) rfl ⟨by rw [Es.out]; rfl, HE.out⟩
set_option maxRecDepth 100000 in
set_option maxHeartbeats 4000000 in
theorem Sqrt_5 (E P m n : Nat) (w : World) (hF : Fmt E P) (hm : m ≤ 4) (hn : n < 2 ^ (E + P)) (hk : wkind E P n = 5) :
   Calls Tryz.prog 23 #[.agg #[.int .i64 (E : Nat), .int .i64 (P : Nat)], .int .i64 (m : Nat), Word n] w fun e w' => RoundPost ((nanw E P, 1)) 0 w e w' := by
  obtain ⟨hE, hP, hb, hEP, hb1⟩ := fmt_bounds hF
  have hp : 2 ^ (E + P) ≤ 2 ^ 124 := Nat.pow_le_pow_right (by decide) hEP
  have hn8 : W128 n := by show n < 2 ^ 128; omega
  obtain ⟨i0, hi0⟩ : ∃ x : Nat, x = n / 18446744073709551616 := ⟨_, rfl⟩
  obtain ⟨i1, hi1⟩ : ∃ x : Nat, x = n % 18446744073709551616 := ⟨_, rfl⟩
  have ei : Word n = .agg #[.int .u64 i0, .int .u64 i1] := by unfold Word; rw [← hi0, ← hi1]
  obtain ⟨ni, hni⟩ : ∃ x, x = wn E P n := ⟨_, rfl⟩
  obtain ⟨qi, hqi⟩ : ∃ x, x = wvalK E P (bias E) n := ⟨_, rfl⟩
  have CI : Hid (∀ w, Calls Tryz.prog 36 #[.agg #[.int .i64 (E : Nat), .int .i64 (P : Nat), .int .i64 (m : Nat), .int .i64 (bias E : Nat)], .agg #[.int .u64 i0, .int .u64 i1]] w (LookPost 5 ni qi w)) := hid fun w => by
    have := look_c E P m (bias E) n w hF hb hn8
    rw [hk, ← hni, ← hqi, ei] at this
    exact this
  have HW : Hid (withRes E P m [n] = .tuple #[.agg #[.int .i64 (E : Nat), .int .i64 (P : Nat), .int .i64 (m : Nat), .int .i64 (bias E : Nat)], .int .i64 0]) := hid (by unfold withRes; rw [if_pos (fun x hx => by rw [List.mem_singleton] at hx; rw [hx]; exact hn)])
  obtain ⟨s0, s1, es⟩ := Word.shape (nanw E P)
  rw [ei]
  have HF := hid hF; have HM := hid hm; have HN := hid hn8; have HI0 := hid hi0; have HI1 := hid hi1; have Es := hid es; have Ei := hid ei
  clear hF hm hn hk hE hP hb hEP hb1 hp hn8 hi0 hi1 ei es hni hqi
  obtain ⟨W0, hW0, g0, hz0, B_F, B_A, B_Z⟩ := pro3s w #[.int .i64 (E : Nat), .int .i64 (P : Nat)] #[.int .u64 i0, .int .u64 i1] #[.int .u64 0, .int .u64 0] 23 26 26
  have HE := hid g0
  have HB_F := hid B_F
  have HB_A := hid B_A
  have HB_Z := hid B_Z
  clear g0 B_F B_A B_Z 
  go_enter Tryz.func23, Tryz.ntmps23
  go_upto_region 1 with (fail)
  rw [← hW0]
  clear hW0
  obtain ⟨c_1, c_2⟩ := HB_F.out.c2
  obtain ⟨c_3, c_4⟩ := HB_A.out.c2
  obtain ⟨c_5, c_6⟩ := HB_Z.out.c2
  go_wp2_with fail
  clear c_1 c_2 c_3 c_4 c_5 c_6
  obtain ⟨W1, hW1, g1, hy1, B_R⟩ := pro1 W0 #[.int .u64 i0, .int .u64 i1] 26
  rw [← hW1]
  clear hW1
  have hz_W1 := g1.size
  replace HE := hid (HE.out.trans g1)
  replace HB_F := hid (HB_F.out.ext g1)
  replace HB_A := hid (HB_A.out.ext g1)
  replace HB_Z := hid (HB_Z.out.ext g1)
  have HB_R := hid B_R
  clear B_R
  have HWS : Hid (WSl W1 (.slice (some ⟨W0.heap.size, 0, none⟩) 1 1) [n]) := hid ⟨some ⟨W0.heap.size, 0, none⟩, W0.heap.size, 0, 1, rfl, Nat.le_refl _, by decide, fun _ => rfl, fun x hx => by
      rw [List.mem_singleton] at hx; rw [hx]; exact HN.out, fun i hi => by
      obtain rfl : i = 0 := by simpa using hi
      refine ⟨?_, ?_⟩
      · have := HB_R.out.cell 0; rw [HI0.out] at this; exact this
      · have := HB_R.out.cell 1; rw [HI1.out] at this; exact this⟩
  refine (with_good E P m _ [n] _ HM.out HF.out HWS.out).mono ?_
  rintro e w2 ⟨rfl, g2⟩
  have hz_w2 := g2.size
  replace HE := hid (HE.out.trans g2)
  replace HB_F := hid (HB_F.out.ext g2)
  replace HB_A := hid (HB_A.out.ext g2)
  replace HB_Z := hid (HB_Z.out.ext g2)
  rw [HW.out]
  have gA := Ext.alloc w2 (.cells #[.int .i64 (E : Nat), .int .i64 (P : Nat), .int .i64 (m : Nat), .int .i64 (bias E : Nat)] 63)
  obtain ⟨c_7, c_8⟩ := (HB_F.out.ext gA).c2
  obtain ⟨c_9, c_10⟩ := (HB_A.out.ext gA).c2
  obtain ⟨c_11, c_12⟩ := (HB_Z.out.ext gA).c2
  go_wp2_with fail
  clear gA c_7 c_8 c_9 c_10 c_11 c_12
  obtain ⟨W3, hW3, g3, hy3, B_M⟩ := pro1 w2 #[.int .i64 (E : Nat), .int .i64 (P : Nat), .int .i64 (m : Nat), .int .i64 (bias E : Nat)] 63
  rw [← hW3]
  clear hW3
  have hz_W3 := g3.size
  replace HE := hid (HE.out.trans g3)
  replace HB_F := hid (HB_F.out.ext g3)
  replace HB_A := hid (HB_A.out.ext g3)
  replace HB_Z := hid (HB_Z.out.ext g3)
  have HB_M := hid B_M
  clear B_M
  refine (CI.out _).mono ?_
  rintro e w4 ⟨v1, rfl, ⟨ng, a, n1, c, a', n1', c', rfl, kv⟩, g4⟩
  have hz_w4 := g4.size
  replace HE := hid (HE.out.trans g4)
  replace HB_F := hid (HB_F.out.ext g4)
  replace HB_A := hid (HB_A.out.ext g4)
  replace HB_Z := hid (HB_Z.out.ext g4)
  replace HB_M := hid (HB_M.out.ext g4)
  have gA := Ext.alloc w4 (.cells #[.int .i64 5, .bool ni, .bool ng, .slice a n1 c, .slice a' n1' c'] 74)
  obtain ⟨c_13, c_14, c_15, c_16⟩ := (HB_M.out.ext gA).c4
  go_wp2_with fail
  clear gA c_13 c_14 c_15 c_16
  obtain ⟨W5, hW5, g5, hy5, B_X, B_S⟩ := pro2s w4 #[.int .i64 5, .bool ni, .bool ng, .slice a n1 c, .slice a' n1' c'] #[.int .i64 5, .bool ni, .bool ng, .slice a n1 c, .slice a' n1' c'] 74 74
  rw [← hW5]
  clear hW5
  have hz_W5 := g5.size
  replace HE := hid (HE.out.trans g5)
  replace HB_F := hid (HB_F.out.ext g5)
  replace HB_A := hid (HB_A.out.ext g5)
  replace HB_Z := hid (HB_Z.out.ext g5)
  replace HB_M := hid (HB_M.out.ext g5)
  replace kv := kv.ext g5
  have HB_X := hid B_X
  have HB_S := hid B_S
  clear B_X B_S
  have HOS : Hid (OSl W5 (.slice (some ⟨w4.heap.size + 1, 0, none⟩) 1 1) [5]) := hid ⟨some ⟨w4.heap.size + 1, 0, none⟩, w4.heap.size + 1, 0, 1, rfl, Nat.le_refl _, by decide, fun _ => rfl, fun x hx => by
      rw [List.mem_singleton] at hx; rw [hx]; decide, fun i hi => by
      obtain rfl : i = 0 := by simpa using hi
      exact ⟨ni, ng, a, n1, c, a', n1', c', HB_S.out.cell 0, HB_S.out.cell 1, HB_S.out.cell 2, HB_S.out.cell 3, HB_S.out.cell 4⟩⟩
  have CSP : Hid (SpecPost E P [5] W5 = fun e w' => e = .returned (.tuple #[.agg #[.int .u64 s0, .int .u64 s1], .int .i64 1, .bool true]) ∧ Ext W5 w') := hid (by funext e w'; unfold SpecPost; rw [Es.out, show anyNan [5] = true from by decide]; rfl)
  have CSS := special_c E P m (bias E) _ [5] W5 HF.out HOS.out
  rw [CSP.out] at CSS
  refine (CSS).mono ?_
  rintro e w6 ⟨rfl, g6⟩
  have hz_w6 := g6.size
  replace HE := hid (HE.out.trans g6)
  replace HB_F := hid (HB_F.out.ext g6)
  replace HB_A := hid (HB_A.out.ext g6)
  replace HB_Z := hid (HB_Z.out.ext g6)
  replace HB_M := hid (HB_M.out.ext g6)
  replace HB_X := hid (HB_X.out.ext g6)
  replace kv := kv.ext g6
  clear CSS CSP HOS HWS
  obtain ⟨c_17, c_18⟩ := HB_Z.out.c2
  obtain ⟨f_19, f_20⟩ := HB_Z.out.f2
  go_wp2_with fail
  clear c_17 c_18 f_19 f_20
  obtain ⟨W7, hW7, g7, q7, B7, hy7, ho7⟩ := sto2 HE.out (by omega) HB_Z.out (by decide) (.int .u64 s0) (.int .u64 s1)
  rw [← hW7]
  clear hW7
  replace HE := hid g7
  replace HB_F := hid (ho7 _ _ _ (by omega) HB_F.out)
  replace HB_A := hid (ho7 _ _ _ (by omega) HB_A.out)
  replace HB_M := hid (ho7 _ _ _ (by omega) HB_M.out)
  replace HB_X := hid (ho7 _ _ _ (by omega) HB_X.out)
  replace HB_Z := hid B7
  replace kv := kv.keep q7
  obtain ⟨W8, hW8, g8, q8, B8, hy8, ho8⟩ := sto2 HE.out (by omega) HB_Z.out (by decide) (.int .u64 s0) (.int .u64 s1)
  rw [← hW8]
  clear hW8
  replace HE := hid g8
  replace HB_F := hid (ho8 _ _ _ (by omega) HB_F.out)
  replace HB_A := hid (ho8 _ _ _ (by omega) HB_A.out)
  replace HB_M := hid (ho8 _ _ _ (by omega) HB_M.out)
  replace HB_X := hid (ho8 _ _ _ (by omega) HB_X.out)
  replace HB_Z := hid B8
  replace kv := kv.keep q8
  unfold RoundPost
  obtain ⟨c_21, c_22⟩ := HB_Z.out.c2
  refine bodyPost_ret (v := .tuple #[.agg #[.int .u64 s0, .int .u64 s1], .int .i64 1, .int .i64 0]) (by simp [results, Tryz.results23, go_sem, c_21, c_22]) rfl ⟨by rw [Es.out]; rfl, HE.out⟩

theorem Sqrt_c (E P m n : Nat) (rt : Nat × Nat) (k : Nat) (w : World) (hF : Fmt E P) (hm : m ≤ 4) (hn : n < 2 ^ (E + P)) (hk : wkind E P n = k) (CR : k = 2 → wn E P n = false → Hid (∀ v w, NumV w v (wvalK E P (bias E) n) → Tabs w → Calls Tryz.prog 56 #[.agg #[.int .i64 (E : Nat), .int .i64 (P : Nat), .int .i64 (m : Nat), .int .i64 (bias E : Nat)], v] w (EndPost rt w))) (hT : Tabs w) :
   Calls Tryz.prog 23 #[.agg #[.int .i64 (E : Nat), .int .i64 (P : Nat)], .int .i64 (m : Nat), Word n] w fun e w' => RoundPost (sqrtR E P n k (wn E P n) rt) 0 w e w' := by
  have hc := wkind_cases E P n
  have hkk : k = 1 ∨ k = 2 ∨ k = 3 ∨ k = 4 ∨ k = 5 := by omega
  unfold sqrtR
  rcases hkk with rfl | rfl | rfl | rfl | rfl
  · exact Sqrt_1 E P m n w hF hm hn hk
  · cases hs : wn E P n
    · rw [hs] at CR
      exact Sqrt_2p E P m n rt w hF hm hn hk hs (CR rfl rfl) hT
    · exact Sqrt_2n E P m n w hF hm hn hk hs
  · cases hs : wn E P n
    · exact Sqrt_3p E P m n w hF hm hn hk hs
    · exact Sqrt_3n E P m n w hF hm hn hk hs
  · exact Sqrt_4 E P m n w hF hm hn hk
  · exact Sqrt_5 E P m n w hF hm hn hk
end Go.Proofs.YtpdjenblkgaffaaGreatDoor
