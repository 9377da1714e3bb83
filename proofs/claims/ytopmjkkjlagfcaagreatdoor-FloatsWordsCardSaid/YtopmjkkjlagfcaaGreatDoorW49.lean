/- floats: Add (of a format, a mode and words that are valid, none of them a NaN). -/
import Derived.Test.YtopmjkkjlagfcaaGreatDoorW48
namespace Go.Proofs.YtopmjkkjlagfcaaGreatDoor
open Go.RowKit Vn
set_option maxRecDepth 100000 in
set_option maxHeartbeats 4000000 in
theorem Add_good (E P m i j ki kj : Nat) (l : Int) (K : Nat) (w : World) (hF : Fmt E P) (hm : m ≤ 4) (hi : i < 2 ^ (E + P)) (hj : j < 2 ^ (E + P)) (hki : wkind E P i = ki) (hkj : wkind E P j = kj) (ki3 : ki ≤ 3) (kj3 : kj ≤ 3) (si : SmQ K (wvalK E P (bias E) i)) (sj : SmQ K (wvalK E P (bias E) j)) (hK : K ≤ 5000) (hl : wvalK E P (bias E) i + wvalK E P (bias E) j ≠ 0 → IsLog (absQ (wvalK E P (bias E) i + wvalK E P (bias E) j)) l) (hT : Tabs w) :
  Calls Tryz.prog 30 #[.agg #[.int .i64 (E : Nat), .int .i64 (P : Nat)], .int .i64 (m : Nat), Word i, Word j] w fun e w' => RoundPost (addR E P (bias E) m ki (wn E P i) (wvalK E P (bias E) i) kj (wn E P j) (wvalK E P (bias E) j) l) 0 w e w' := by
 obtain ⟨i0, i1, ei⟩ := Word.shape i
 obtain ⟨j0, j1, ej⟩ := Word.shape j
 obtain ⟨r, hr⟩ : ∃ r, r = addR E P (bias E) m ki (wn E P i) (wvalK E P (bias E) i) kj (wn E P j) (wvalK E P (bias E) j) l := ⟨_, rfl⟩
 obtain ⟨r0, r1, er⟩ := Word.shape r.1
 have CO : Hid (∀ w, Tabs w → Calls Tryz.prog 93 #[.agg #[.int .i64 (E : Nat), .int .i64 (P : Nat)], .int .i64 (m : Nat), .agg #[.int .u64 i0, .int .u64 i1], .agg #[.int .u64 j0, .int .u64 j1], .func (.func 94) #[] #[]] w fun e w' => e = .returned (.tuple #[.agg #[.int .u64 r0, .int .u64 r1], .int .i64 (r.2 : Nat), .int .i64 0]) ∧ Ext w w') := hid fun w hT => by
  have := operate_c E P m i j 94 ki kj r w hF hm hi hj hki hkj ki3 kj3 hT (enters_of Tryz.func94 (by kernel_rfl) rfl) (hid fun x y w hx hy hT => by rw [hr]; exact madd_c E P (bias E) m x y _ _ _ _ _ _ l K w hF hm rfl hx hy si sj hK hl hT)
  rw [ei, ej] at this
  unfold RoundPost at this
  rwa [er] at this
 rw [← hr, ei, ej]
 unfold RoundPost
 rw [er]
 have HT := hid hT
 clear hF hm hi hj hki hkj si sj hl hT ei ej er hr
 obtain ⟨W0, hW0, g0, hz0, B_F, B_A, B_B, B_Z⟩ := pro4s w #[.int .i64 (E : Nat), .int .i64 (P : Nat)] #[.int .u64 i0, .int .u64 i1] #[.int .u64 j0, .int .u64 j1] #[.int .u64 0, .int .u64 0] 23 29 29 29
 have HE := hid g0
 have HB_F := hid B_F
 have HB_A := hid B_A
 have HB_B := hid B_B
 have HB_Z := hid B_Z
 clear g0 B_F B_A B_B B_Z 
 go_enter Tryz.func30, Tryz.ntmps30
 go_upto_region 1 with (fail)
 rw [← hW0]
 clear hW0
 obtain ⟨c_1, c_2⟩ := HB_F.out.c2
 obtain ⟨c_3, c_4⟩ := HB_A.out.c2
 obtain ⟨c_5, c_6⟩ := HB_B.out.c2
 obtain ⟨c_7, c_8⟩ := HB_Z.out.c2
 go_wp2_with fail
 clear c_1 c_2 c_3 c_4 c_5 c_6 c_7 c_8
 refine (CO.out _ (HT.out.ext HE.out)).mono ?_
 rintro e w1 ⟨rfl, g1⟩
 have hz_w1 := g1.size
 replace HE := hid (HE.out.trans g1)
 replace HB_F := hid (HB_F.out.ext g1)
 replace HB_A := hid (HB_A.out.ext g1)
 replace HB_B := hid (HB_B.out.ext g1)
 replace HB_Z := hid (HB_Z.out.ext g1)
 obtain ⟨c_9, c_10⟩ := HB_F.out.c2
 obtain ⟨c_11, c_12⟩ := HB_A.out.c2
 obtain ⟨c_13, c_14⟩ := HB_B.out.c2
 obtain ⟨c_15, c_16⟩ := HB_Z.out.c2
 obtain ⟨f_17, f_18⟩ := HB_Z.out.f2
 go_wp2_with fail
 clear c_9 c_10 c_11 c_12 c_13 c_14 c_15 c_16 f_17 f_18
 obtain ⟨W2, hW2, g2, q2, B2, hy2, ho2⟩ := sto2 HE.out (by omega) HB_Z.out (by decide) (.int .u64 r0) (.int .u64 r1)
 rw [← hW2]
 clear hW2
 replace HE := hid g2
 replace HB_F := hid (ho2 _ _ _ (by omega) HB_F.out)
 replace HB_A := hid (ho2 _ _ _ (by omega) HB_A.out)
 replace HB_B := hid (ho2 _ _ _ (by omega) HB_B.out)
 replace HB_Z := hid B2
 obtain ⟨c_19, c_20⟩ := HB_Z.out.c2
 refine bodyPost_ret (v := .tuple #[.agg #[.int .u64 r0, .int .u64 r1], .int .i64 (r.2 : Nat), .int .i64 0]) (by simp [results, Tryz.results30, go_sem, c_19, c_20]) rfl ⟨rfl, HE.out⟩
end Go.Proofs.YtopmjkkjlagfcaaGreatDoor
