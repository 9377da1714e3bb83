/- floats: Cast, of formats, a mode and a word that are valid. -/
import Derived.Test.YtpdjenblkgaffaaGreatDoorM40
import Derived.Test.YtpdjenblkgaffaaGreatDoorM39
namespace Go.Proofs.YtpdjenblkgaffaaGreatDoor
open Go.RowKit Vn

/-- the word and the flags of a cast. -/
def castR (E' P' m : Nat) (k : Int) (neg : Bool) (q : Rat) (l : Int) : Nat × Nat := if 4 ≤ k then (nanw E' P', if k = 5 then 1 else 0) else exR E' P' (bias E') m k neg q l

set_option maxRecDepth 100000 in
set_option maxHeartbeats 4000000 in
theorem Cast_good (E P E' P' m n k : Nat) (l : Int) (K : Nat) (w : World) (hF : Fmt E P) (hF' : Fmt E' P') (hm : m ≤ 4) (hn : n < 2 ^ (E + P)) (hk : wkind E P n = k) (hk5 : k ≤ 5) (sx : SmQ K (wvalK E P (bias E) n)) (hK : K ≤ 12000) (hl : wvalK E P (bias E) n ≠ 0 → IsLog (absQ (wvalK E P (bias E) n)) l) (hT : Tabs w) :
   Calls Tryz.prog 12 #[.agg #[.int .i64 (E : Nat), .int .i64 (P : Nat)], .agg #[.int .i64 (E' : Nat), .int .i64 (P' : Nat)], .int .i64 (m : Nat), Word n] w fun e w' => RoundPost (castR E' P' m (k : Nat) (wn E P n) (wvalK E P (bias E) n) l) 0 w e w' := by
  obtain ⟨hE, hP, hb, hEP, hb1⟩ := fmt_bounds hF
  have hp : 2 ^ (E + P) ≤ 2 ^ 124 := Nat.pow_le_pow_right (by decide) hEP
  have hn8 : W128 n := by show n < 2 ^ 128; omega
  obtain ⟨i0, hi0⟩ : ∃ x : Nat, x = n / 18446744073709551616 := ⟨_, rfl⟩
  obtain ⟨i1, hi1⟩ : ∃ x : Nat, x = n % 18446744073709551616 := ⟨_, rfl⟩
  have ei : Word n = .agg #[.int .u64 i0, .int .u64 i1] := by unfold Word; rw [← hi0, ← hi1]
  have CI : Hid (∀ w, Calls Tryz.prog 36 #[.agg #[.int .i64 (E : Nat), .int .i64 (P : Nat), .int .i64 (m : Nat), .int .i64 (bias E : Nat)], .agg #[.int .u64 i0, .int .u64 i1]] w (LookPost (k : Nat) (wn E P n) (wvalK E P (bias E) n) w)) := hid fun w => by
    rw [← ei, ← hk]; exact look_c E P m (bias E) n w hF hb hn8
  have CW' : Hid (∀ w, Calls Tryz.prog 24 #[.agg #[.int .i64 (E' : Nat), .int .i64 (P' : Nat)], .int .i64 (m : Nat), .slice none 0 0] w fun e w' => e = .returned (.tuple #[.agg #[.int .i64 (E' : Nat), .int .i64 (P' : Nat), .int .i64 (m : Nat), .int .i64 (bias E' : Nat)], .int .i64 0]) ∧ Ext w w') := hid fun w => by
    have := with_good E' P' m _ [] w hm hF' (WSl.nil w)
    rwa [show withRes E' P' m [] = .tuple #[.agg #[.int .i64 (E' : Nat), .int .i64 (P' : Nat), .int .i64 (m : Nat), .int .i64 (bias E' : Nat)], .int .i64 0] from by unfold withRes; rw [if_pos (fun x hx => by simp at hx)]] at this
  have HW : Hid (withRes E P m [n] = .tuple #[.agg #[.int .i64 (E : Nat), .int .i64 (P : Nat), .int .i64 (m : Nat), .int .i64 (bias E : Nat)], .int .i64 0]) := hid (by unfold withRes; rw [if_pos (fun x hx => by rw [List.mem_singleton] at hx; rw [hx]; exact hn)])
  have CE : Hid (∀ x w, OpV w x (k : Nat) (wn E P n) (wvalK E P (bias E) n) → Tabs w → _) := hid fun x w hx hT => exactly_c E' P' (bias E') m x (k : Nat) (wn E P n) (wvalK E P (bias E) n) l K w hF' hm rfl hx sx hK hl hT
  obtain ⟨r, hr⟩ : ∃ r, r = castR E' P' m (k : Nat) (wn E P n) (wvalK E P (bias E) n) l := ⟨_, rfl⟩
  rw [← hr, ei]
  have HF := hid hF; have HF' := hid hF'; have HM := hid hm; have HN := hid hn8; have HI0 := hid hi0; have HI1 := hid hi1; have HR := hid hr; have HT := hid hT; have HK5 := hid hk5
  clear hF hF' hm hn hk sx hl hT hE hP hb hEP hb1 hp hn8 hi0 hi1 ei hr hk5
  obtain ⟨W0, hW0, g0, hz0, B_F, B_G, B_A, B_Z⟩ := pro4s w #[.int .i64 (E : Nat), .int .i64 (P : Nat)] #[.int .i64 (E' : Nat), .int .i64 (P' : Nat)] #[.int .u64 i0, .int .u64 i1] #[.int .u64 0, .int .u64 0] 23 23 26 26
  have HE := hid g0
  have HB_F := hid B_F
  have HB_G := hid B_G
  have HB_A := hid B_A
  have HB_Z := hid B_Z
  clear g0 B_F B_G B_A B_Z 
  go_enter Tryz.func12, Tryz.ntmps12
  go_upto_region 1 with (fail)
  rw [← hW0]
  clear hW0
  obtain ⟨c_1, c_2⟩ := HB_F.out.c2
  obtain ⟨c_3, c_4⟩ := HB_G.out.c2
  obtain ⟨c_5, c_6⟩ := HB_A.out.c2
  obtain ⟨c_7, c_8⟩ := HB_Z.out.c2
  go_wp2_with fail
  clear c_1 c_2 c_3 c_4 c_5 c_6 c_7 c_8
  refine (CW'.out _).mono ?_
  rintro e w1 ⟨rfl, g1⟩
  have hz_w1 := g1.size
  replace HE := hid (HE.out.trans g1)
  replace HB_F := hid (HB_F.out.ext g1)
  replace HB_G := hid (HB_G.out.ext g1)
  replace HB_A := hid (HB_A.out.ext g1)
  replace HB_Z := hid (HB_Z.out.ext g1)
  have gA := Ext.alloc w1 (.cells #[.int .i64 (E' : Nat), .int .i64 (P' : Nat), .int .i64 (m : Nat), .int .i64 (bias E' : Nat)] 63)
  obtain ⟨c_9, c_10⟩ := (HB_F.out.ext gA).c2
  obtain ⟨c_11, c_12⟩ := (HB_A.out.ext gA).c2
  go_wp2_with fail
  clear gA c_9 c_10 c_11 c_12
  obtain ⟨W2, hW2, g2, hy2, B_N, B_R⟩ := pro2s w1 #[.int .i64 (E' : Nat), .int .i64 (P' : Nat), .int .i64 (m : Nat), .int .i64 (bias E' : Nat)] #[.int .u64 i0, .int .u64 i1] 63 26
  rw [← hW2]
  clear hW2
  have hz_W2 := g2.size
  replace HE := hid (HE.out.trans g2)
  replace HB_F := hid (HB_F.out.ext g2)
  replace HB_G := hid (HB_G.out.ext g2)
  replace HB_A := hid (HB_A.out.ext g2)
  replace HB_Z := hid (HB_Z.out.ext g2)
  have HB_N := hid B_N
  have HB_R := hid B_R
  clear B_N B_R
  have HWS : Hid (WSl W2 (.slice (some ⟨w1.heap.size + 1, 0, none⟩) 1 1) [n]) := hid ⟨some ⟨w1.heap.size + 1, 0, none⟩, w1.heap.size + 1, 0, 1, rfl, Nat.le_refl _, by decide, fun _ => rfl, fun x hx => by
      rw [List.mem_singleton] at hx; rw [hx]; exact HN.out, fun i hi => by
      obtain rfl : i = 0 := by simpa using hi
      refine ⟨?_, ?_⟩
      · have := HB_R.out.cell 0; rw [HI0.out] at this; exact this
      · have := HB_R.out.cell 1; rw [HI1.out] at this; exact this⟩
  refine (with_good E P m _ [n] _ HM.out HF.out HWS.out).mono ?_
  rintro e w3 ⟨rfl, g3⟩
  have hz_w3 := g3.size
  replace HE := hid (HE.out.trans g3)
  replace HB_F := hid (HB_F.out.ext g3)
  replace HB_G := hid (HB_G.out.ext g3)
  replace HB_A := hid (HB_A.out.ext g3)
  replace HB_Z := hid (HB_Z.out.ext g3)
  replace HB_N := hid (HB_N.out.ext g3)
  rw [HW.out]
  have gA := Ext.alloc w3 (.cells #[.int .i64 (E : Nat), .int .i64 (P : Nat), .int .i64 (m : Nat), .int .i64 (bias E : Nat)] 63)
  obtain ⟨c_13, c_14⟩ := (HB_F.out.ext gA).c2
  obtain ⟨c_15, c_16⟩ := (HB_G.out.ext gA).c2
  obtain ⟨c_17, c_18⟩ := (HB_A.out.ext gA).c2
  obtain ⟨c_19, c_20⟩ := (HB_Z.out.ext gA).c2
  obtain ⟨c_21, c_22, c_23, c_24⟩ := (HB_N.out.ext gA).c4
  go_wp2_with fail
  clear gA c_13 c_14 c_15 c_16 c_17 c_18 c_19 c_20 c_21 c_22 c_23 c_24
  obtain ⟨W4, hW4, g4, hy4, B_M⟩ := pro1 w3 #[.int .i64 (E : Nat), .int .i64 (P : Nat), .int .i64 (m : Nat), .int .i64 (bias E : Nat)] 63
  rw [← hW4]
  clear hW4
  have hz_W4 := g4.size
  replace HE := hid (HE.out.trans g4)
  replace HB_F := hid (HB_F.out.ext g4)
  replace HB_G := hid (HB_G.out.ext g4)
  replace HB_A := hid (HB_A.out.ext g4)
  replace HB_Z := hid (HB_Z.out.ext g4)
  replace HB_N := hid (HB_N.out.ext g4)
  have HB_M := hid B_M
  clear B_M
  generalize wn E P n = ni at *
  generalize wvalK E P (bias E) n = qi at *
  refine (CI.out _).mono ?_
  rintro e w5 ⟨v1, rfl, ⟨ng, a, n1, c, a', n1', c', rfl, kv⟩, g5⟩
  have hz_w5 := g5.size
  replace HE := hid (HE.out.trans g5)
  replace HB_F := hid (HB_F.out.ext g5)
  replace HB_G := hid (HB_G.out.ext g5)
  replace HB_A := hid (HB_A.out.ext g5)
  replace HB_Z := hid (HB_Z.out.ext g5)
  replace HB_N := hid (HB_N.out.ext g5)
  replace HB_M := hid (HB_M.out.ext g5)
  have gA := Ext.alloc w5 (.cells #[.int .i64 (k : Nat), .bool ni, .bool ng, .slice a n1 c, .slice a' n1' c'] 74)
  obtain ⟨c_25, c_26, c_27, c_28⟩ := (HB_N.out.ext gA).c4
  go_wp2_with fail
  clear gA c_25 c_26 c_27 c_28
  obtain ⟨W6, hW6, g6, hy6, B_X, B_S⟩ := pro2s w5 #[.int .i64 (k : Nat), .bool ni, .bool ng, .slice a n1 c, .slice a' n1' c'] #[.int .i64 (k : Nat), .bool ni, .bool ng, .slice a n1 c, .slice a' n1' c'] 74 74
  rw [← hW6]
  clear hW6
  have hz_W6 := g6.size
  replace HE := hid (HE.out.trans g6)
  replace HB_F := hid (HB_F.out.ext g6)
  replace HB_G := hid (HB_G.out.ext g6)
  replace HB_A := hid (HB_A.out.ext g6)
  replace HB_Z := hid (HB_Z.out.ext g6)
  replace HB_N := hid (HB_N.out.ext g6)
  replace HB_M := hid (HB_M.out.ext g6)
  replace kv := kv.ext g6
  have HB_X := hid B_X
  have HB_S := hid B_S
  clear B_X B_S
  have HOS : Hid (OSl W6 (.slice (some ⟨w5.heap.size + 1, 0, none⟩) 1 1) [k]) := hid ⟨some ⟨w5.heap.size + 1, 0, none⟩, w5.heap.size + 1, 0, 1, rfl, Nat.le_refl _, by decide, fun _ => rfl, fun x hx => by
      rw [List.mem_singleton] at hx; rw [hx]; exact HK5.out, fun i hi => by
      obtain rfl : i = 0 := by simpa using hi
      exact ⟨ni, ng, a, n1, c, a', n1', c', HB_S.out.cell 0, HB_S.out.cell 1, HB_S.out.cell 2, HB_S.out.cell 3, HB_S.out.cell 4⟩⟩
  refine (special_c E' P' m _ _ [k] _ HF'.out HOS.out).mono ?_
  rintro e w7 ⟨rfl, g7⟩
  have hz_w7 := g7.size
  replace HE := hid (HE.out.trans g7)
  replace HB_F := hid (HB_F.out.ext g7)
  replace HB_G := hid (HB_G.out.ext g7)
  replace HB_A := hid (HB_A.out.ext g7)
  replace HB_Z := hid (HB_Z.out.ext g7)
  replace HB_N := hid (HB_N.out.ext g7)
  replace HB_M := hid (HB_M.out.ext g7)
  replace HB_X := hid (HB_X.out.ext g7)
  replace kv := kv.ext g7
  obtain ⟨s0, s1, es⟩ := Word.shape (nanw E' P')
  rw [es]
  have Es := hid es
  clear es
  obtain ⟨fl, hfl⟩ : ∃ f : Int, f = if anySig [k] = true then (1 : Int) else 0 := ⟨_, rfl⟩
  rw [← hfl]
  have HFL := hid hfl
  clear hfl
  by_cases h4 : 4 ≤ k
  · have HA : Hid (anyNan [k] = true) := hid (by simp [anyNan, h4])
    rw [HA.out]
    have HR2 : Hid (r = (nanw E' P', if k = 5 then 1 else 0)) := hid (by rw [HR.out]; unfold castR; rw [if_pos (by omega)]; congr 1; by_cases h5 : k = 5 <;> simp [h5]; omega)
    clear h4
    obtain ⟨c_29, c_30⟩ := HB_Z.out.c2
    obtain ⟨f_31, f_32⟩ := HB_Z.out.f2
    go_wp2_with fail
    clear c_29 c_30 f_31 f_32
    obtain ⟨W8, hW8, g8, q8, B8, hy8, ho8⟩ := sto2 HE.out (by omega) HB_Z.out (by decide) (.int .u64 s0) (.int .u64 s1)
    rw [← hW8]
    clear hW8
    replace HE := hid g8
    replace HB_F := hid (ho8 _ _ _ (by omega) HB_F.out)
    replace HB_G := hid (ho8 _ _ _ (by omega) HB_G.out)
    replace HB_A := hid (ho8 _ _ _ (by omega) HB_A.out)
    replace HB_N := hid (ho8 _ _ _ (by omega) HB_N.out)
    replace HB_M := hid (ho8 _ _ _ (by omega) HB_M.out)
    replace HB_X := hid (ho8 _ _ _ (by omega) HB_X.out)
    replace HB_Z := hid B8
    replace kv := kv.keep q8
    obtain ⟨W9, hW9, g9, q9, B9, hy9, ho9⟩ := sto2 HE.out (by omega) HB_Z.out (by decide) (.int .u64 s0) (.int .u64 s1)
    rw [← hW9]
    clear hW9
    replace HE := hid g9
    replace HB_F := hid (ho9 _ _ _ (by omega) HB_F.out)
    replace HB_G := hid (ho9 _ _ _ (by omega) HB_G.out)
    replace HB_A := hid (ho9 _ _ _ (by omega) HB_A.out)
    replace HB_N := hid (ho9 _ _ _ (by omega) HB_N.out)
    replace HB_M := hid (ho9 _ _ _ (by omega) HB_M.out)
    replace HB_X := hid (ho9 _ _ _ (by omega) HB_X.out)
    replace HB_Z := hid B9
    replace kv := kv.keep q9
    unfold RoundPost
    obtain ⟨c_33, c_34⟩ := HB_Z.out.c2
    refine bodyPost_ret (v := .tuple #[.agg #[.int .u64 s0, .int .u64 s1], .int .i64 fl, .int .i64 0]) (by simp [results, Tryz.results12, go_sem, c_33, c_34]) rfl ⟨by rw [HR2.out, HFL.out]; show _ = Ending.returned (.tuple #[Word (nanw E' P'), _, _]); rw [Es.out]; by_cases h5 : k = 5 <;> simp [anySig, h5], HE.out⟩
  · have HA : Hid (anyNan [k] = false) := hid (by simp [anyNan]; omega)
    rw [HA.out]
    have HR2 : Hid (r = exR E' P' (bias E') m (k : Nat) ni qi l) := hid (by rw [HR.out]; unfold castR; rw [if_neg (by omega)])
    clear h4
    obtain ⟨r0, r1, er⟩ := Word.shape r.1
    have Er := hid er
    clear er
    obtain ⟨c_29, c_30⟩ := HB_Z.out.c2
    obtain ⟨f_31, f_32⟩ := HB_Z.out.f2
    go_upto_region 10 with (fail)
    clear c_29 c_30 f_31 f_32
    obtain ⟨W8, hW8, g8, q8, B8, hy8, ho8⟩ := sto2 HE.out (by omega) HB_Z.out (by decide) (.int .u64 s0) (.int .u64 s1)
    rw [← hW8]
    clear hW8
    replace HE := hid g8
    replace HB_F := hid (ho8 _ _ _ (by omega) HB_F.out)
    replace HB_G := hid (ho8 _ _ _ (by omega) HB_G.out)
    replace HB_A := hid (ho8 _ _ _ (by omega) HB_A.out)
    replace HB_N := hid (ho8 _ _ _ (by omega) HB_N.out)
    replace HB_M := hid (ho8 _ _ _ (by omega) HB_M.out)
    replace HB_X := hid (ho8 _ _ _ (by omega) HB_X.out)
    replace HB_Z := hid B8
    replace kv := kv.keep q8
    obtain ⟨c_33, c_34, c_35, c_36⟩ := HB_N.out.c4
    obtain ⟨c_37, c_38, c_39, c_40, c_41⟩ := HB_X.out.c5
    go_wp2_with fail
    clear c_33 c_34 c_35 c_36 c_37 c_38 c_39 c_40 c_41
    refine (CE.out _ _ ⟨_, _, _, _, _, _, _, rfl, kv⟩ (HT.out.ext HE.out)).mono ?_
    rintro e w9 ⟨rfl, g9⟩
    have hz_w9 := g9.size
    replace HE := hid (HE.out.trans g9)
    replace HB_F := hid (HB_F.out.ext g9)
    replace HB_G := hid (HB_G.out.ext g9)
    replace HB_A := hid (HB_A.out.ext g9)
    replace HB_Z := hid (HB_Z.out.ext g9)
    replace HB_N := hid (HB_N.out.ext g9)
    replace HB_M := hid (HB_M.out.ext g9)
    replace HB_X := hid (HB_X.out.ext g9)
    replace kv := kv.ext g9
    rw [← HR2.out, Er.out]
    obtain ⟨c_42, c_43⟩ := HB_Z.out.c2
    obtain ⟨f_44, f_45⟩ := HB_Z.out.f2
    go_wp2_with fail
    clear c_42 c_43 f_44 f_45
    obtain ⟨W10, hW10, g10, q10, B10, hy10, ho10⟩ := sto2 HE.out (by omega) HB_Z.out (by decide) (.int .u64 r0) (.int .u64 r1)
    rw [← hW10]
    clear hW10
    replace HE := hid g10
    replace HB_F := hid (ho10 _ _ _ (by omega) HB_F.out)
    replace HB_G := hid (ho10 _ _ _ (by omega) HB_G.out)
    replace HB_A := hid (ho10 _ _ _ (by omega) HB_A.out)
    replace HB_N := hid (ho10 _ _ _ (by omega) HB_N.out)
    replace HB_M := hid (ho10 _ _ _ (by omega) HB_M.out)
    replace HB_X := hid (ho10 _ _ _ (by omega) HB_X.out)
    replace HB_Z := hid B10
    replace kv := kv.keep q10
    obtain ⟨W11, hW11, g11, q11, B11, hy11, ho11⟩ := sto2 HE.out (by omega) HB_Z.out (by decide) (.int .u64 r0) (.int .u64 r1)
    rw [← hW11]
    clear hW11
    replace HE := hid g11
    replace HB_F := hid (ho11 _ _ _ (by omega) HB_F.out)
    replace HB_G := hid (ho11 _ _ _ (by omega) HB_G.out)
    replace HB_A := hid (ho11 _ _ _ (by omega) HB_A.out)
    replace HB_N := hid (ho11 _ _ _ (by omega) HB_N.out)
    replace HB_M := hid (ho11 _ _ _ (by omega) HB_M.out)
    replace HB_X := hid (ho11 _ _ _ (by omega) HB_X.out)
    replace HB_Z := hid B11
    replace kv := kv.keep q11
    unfold RoundPost
    obtain ⟨c_46, c_47⟩ := HB_Z.out.c2
    refine bodyPost_ret (v := .tuple #[.agg #[.int .u64 r0, .int .u64 r1], .int .i64 (r.2 : Nat), .int .i64 0]) (by simp [results, Tryz.results12, go_sem, c_46, c_47]) rfl ⟨by rw [Er.out], HE.out⟩
end Go.Proofs.YtpdjenblkgaffaaGreatDoor

/- Plain: a value of a format that is inside another one is cast to the same value, and back to the same word. -/
namespace Go.Proofs.YtpdjenblkgaffaaGreatDoor
open Go.RowKit Vn

theorem value_kind {E P n : Nat} {q : Rat} (h : valueR E P n = (q, 0)) : n < 2 ^ (E + P) ∧ wkind E P n ≤ 2 ∧ wvalK E P (bias E) n = q := by
  unfold valueR at h
  by_cases h1 : n < 2 ^ (E + P)
  · rw [if_neg (fun k => k h1)] at h
    by_cases h2 : 2 < wkind E P n
    · rw [if_pos h2] at h
      exact absurd (congrArg Prod.snd h) (by simp)
    · rw [if_neg h2] at h
      exact ⟨h1, by omega, congrArg Prod.fst h⟩
  · rw [if_pos h1] at h
    exact absurd (congrArg Prod.snd h) (by simp)
theorem sgb_sign {E P : Nat} (s : Bool) : wn E P (sgb E P s) = s := by
  rw [sgb_word]
  exact wordN_wn s (by
    have : 0 < 2 ^ (E + P - 1) := Nat.pow_pos (by decide)
    omega)
theorem wider_ok {E P E' P' m n : Nat} {l : Int} (hE : 2 ≤ E) (hP : 1 ≤ P) (hE' : 2 ≤ E') (hP' : 1 ≤ P') (hn : n < 2 ^ (E + P)) (hk : wkind E P n ≤ 2) (hi : InsideP P (bias E) P' (bias E'))
    (hl : wvalK E P (bias E) n ≠ 0 → IsLog (absQ (wvalK E P (bias E) n)) l) (r : Nat × Nat) (hr : r = castR E' P' m (wkind E P n) (wn E P n) (wvalK E P (bias E) n) l) :
    r.2 = 0 ∧ r.1 < 2 ^ (E' + P') ∧ valueR E' P' r.1 = (wvalK E P (bias E) n, 0) ∧ castR E P m (wkind E' P' r.1) (wn E' P' r.1) (wvalK E' P' (bias E') r.1) l = (n, 0) := by
  have hkc := wkind_cases E P n
  have hc4 : ¬ 4 ≤ wkind E P n := by omega
  rw [castR, if_neg hc4] at hr
  by_cases h1 : wkind E P n = 1
  · have hq : wvalK E P (bias E) n = 0 := (kind_zero hk).1 h1
    rw [exR, if_pos h1] at hr
    subst hr
    obtain ⟨s1, s2⟩ := sgb_ok hE' hP' (wn E P n)
    obtain ⟨_, k2, k3⟩ := value_kind s2
    refine ⟨rfl, s1, by rw [hq]; exact s2, ?_⟩
    have hk1 : wkind E' P' (sgb E' P' (wn E P n)) = 1 := (kind_zero k2).2 k3
    rw [castR, if_neg (by rw [hk1]; decide), exR, if_pos hk1, sgb_sign, zero_back hP hn (by omega) h1]
  · have h2 : wkind E P n = 2 := by omega
    have hq : wvalK E P (bias E) n ≠ 0 := fun e => h1 ((kind_zero hk).2 e)
    have hv : wvalK E P (bias E) n = wval E P (bias E) n := wvalK_fin hk
    rw [exR, if_neg h1, if_neg (by omega), rnd, if_neg hq] at hr
    have hfin := fin_wf hk
    have vi : IsVal P (bias E) (wvalK E P (bias E) n) := by rw [hv]; exact wval_isVal hP
    have vg : absQ (wvalK E P (bias E) n) ≤ grQ P (bias E) := by rw [hv]; exact wval_le hE hP hfin
    obtain ⟨r2, rlt, rv⟩ := round_ok (m := m) hE' hP' (hl hq) (vi.wider hi) (Rat.le_trans vg hi.2.2)
    rw [← hr] at r2 rlt rv
    obtain ⟨_, k2, k3⟩ := value_kind rv
    refine ⟨r2, rlt, rv, ?_⟩
    have hkk := wkind_cases E' P' r.1
    have hk2 : wkind E' P' r.1 = 2 := by
      have : wkind E' P' r.1 ≠ 1 := fun e => hq (by rw [← k3]; exact (kind_zero k2).1 e)
      omega
    rw [castR, if_neg (by omega), exR, if_neg (by omega), if_neg (by omega), k3, rnd, if_neg hq]
    obtain ⟨b2, _, _⟩ := round_ok (m := m) hE hP (hl hq) vi vg
    have b1 := word_back (m := m) hE hP hn h2 (by rw [← hv]; exact hl hq)
    rw [← hv] at b1
    exact Prod.ext b1 b2
end Go.Proofs.YtpdjenblkgaffaaGreatDoor
