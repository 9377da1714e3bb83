/- floats: Decode of the word of one, in the least of formats. -/
import Derived.Test.YtpjpaiaaimmngaaGreatDoorM40
import Derived.Test.YtpjpaiaaimmngaaGreatDoorM44
namespace Go.Proofs.YtpjpaiaaimmngaaGreatDoor
open Go.RowKit Vn

/-- the value of one. -/
def oneVal : Array Value := #[.int .i64 2, .bool false, .string ⟨#[49]⟩]
theorem kd12 : wkind 3 3 12 = 2 := by decide
theorem wn12 : wn 3 3 12 = false := by decide
theorem wv12 : wvalK 3 3 3 12 = 1 := by decide +kernel

set_option maxRecDepth 100000 in
set_option maxHeartbeats 4000000 in
theorem Decode_one (w : World) :
   Calls Tryz.prog 55 #[.agg #[.int .i64 3, .int .i64 3], .agg #[.int .u64 0, .int .u64 12]] w fun e w' => e = .returned (.tuple #[.agg #[.int .i64 2, .bool false, .string ⟨#[49]⟩], .int .i64 0]) ∧ Ext w w' := by
  have hF : Fmt (3 : Nat) (3 : Nat) := by unfold Fmt; decide
  have CW : Hid (∀ (v : Value) (w : World), WSl w v [12] → Calls Tryz.prog 33 #[.agg #[.int .i64 3, .int .i64 3], .int .i64 0, v] w fun e w' => e = .returned (.tuple #[.agg #[.int .i64 3, .int .i64 3, .int .i64 0, .int .i64 3], .int .i64 0]) ∧ Ext w w') := hid fun v w h => by
    have := with_good 3 3 0 v [12] w (by decide) hF h
    rwa [show withRes 3 3 0 [12] = .tuple #[.agg #[.int .i64 3, .int .i64 3, .int .i64 0, .int .i64 3], .int .i64 0] from by unfold withRes; rw [if_pos (fun x hx => by simp at hx; subst hx; decide)]; rfl] at this
  have CL : Hid (∀ w, Calls Tryz.prog 34 #[.agg #[.int .i64 3, .int .i64 3, .int .i64 0, .int .i64 3], .agg #[.int .u64 0, .int .u64 12]] w (LookPost 2 false 1 w)) := hid fun w => by
    have := look_c 3 3 0 3 12 w hF (by decide) (by decide)
    rwa [kd12, wn12, wv12] at this
  have CT : Hid (∀ (v : Value) (w : World), NumV w v 1 → Calls Tryz.prog 30 #[v] w fun e w' => e = .returned (.string ⟨#[49]⟩) ∧ Ext w w') := hid fun v w h => Text_whole v 1 1 w h rfl (by decide) (by decide)
  clear hF
  obtain ⟨W0, hW0, g0, hz0, B_F, B_W, B_Z⟩ := pro3s w #[.int .i64 3, .int .i64 3] #[.int .u64 0, .int .u64 12] #[.int .i64 0, .bool false, .string ⟨#[]⟩] 23 26 58
  have HE := hid g0
  have HB_F := hid B_F
  have HB_W := hid B_W
  have HB_Z := hid B_Z
  clear g0 B_F B_W B_Z 
  go_enter Tryz.func55, Tryz.ntmps55
  go_upto_region 1 with (fail)
  rw [← hW0]
  clear hW0
  obtain ⟨c_1, c_2⟩ := HB_F.out.c2
  obtain ⟨c_3, c_4⟩ := HB_W.out.c2
  obtain ⟨c_5, c_6, c_7⟩ := HB_Z.out.c3
  go_wp2_with fail
  clear c_1 c_2 c_3 c_4 c_5 c_6 c_7
  obtain ⟨W1, hW1, g1, hy1, B_R⟩ := pro1 W0 #[.int .u64 0, .int .u64 12] 26
  rw [← hW1]
  clear hW1
  have hz_W1 := g1.size
  replace HE := hid (HE.out.trans g1)
  replace HB_F := hid (HB_F.out.ext g1)
  replace HB_W := hid (HB_W.out.ext g1)
  replace HB_Z := hid (HB_Z.out.ext g1)
  have HB_R := hid B_R
  clear B_R
  have HWS : Hid (WSl W1 (.slice (some ⟨W0.heap.size, 0, none⟩) 1 1) [12]) := hid ⟨some ⟨W0.heap.size, 0, none⟩, W0.heap.size, 0, 1, rfl, Nat.le_refl _, by decide, fun _ => rfl, fun x hx => by
      rw [List.mem_singleton] at hx; rw [hx]; decide, fun i hi => by
      obtain rfl : i = 0 := by simpa using hi
      exact ⟨HB_R.out.cell 0, HB_R.out.cell 1⟩⟩
  refine (CW.out _ _ HWS.out).mono ?_
  rintro e w2 ⟨rfl, g2⟩
  have hz_w2 := g2.size
  replace HE := hid (HE.out.trans g2)
  replace HB_F := hid (HB_F.out.ext g2)
  replace HB_W := hid (HB_W.out.ext g2)
  replace HB_Z := hid (HB_Z.out.ext g2)
  have gA := Ext.alloc w2 (.cells #[.int .i64 3, .int .i64 3, .int .i64 0, .int .i64 3] 66)
  obtain ⟨c_8, c_9⟩ := (HB_F.out.ext gA).c2
  obtain ⟨c_10, c_11⟩ := (HB_W.out.ext gA).c2
  obtain ⟨c_12, c_13, c_14⟩ := (HB_Z.out.ext gA).c3
  go_wp2_with fail
  clear gA c_8 c_9 c_10 c_11 c_12 c_13 c_14
  obtain ⟨W3, hW3, g3, hy3, B_M⟩ := pro1 w2 #[.int .i64 3, .int .i64 3, .int .i64 0, .int .i64 3] 66
  rw [← hW3]
  clear hW3
  have hz_W3 := g3.size
  replace HE := hid (HE.out.trans g3)
  replace HB_F := hid (HB_F.out.ext g3)
  replace HB_W := hid (HB_W.out.ext g3)
  replace HB_Z := hid (HB_Z.out.ext g3)
  have HB_M := hid B_M
  clear B_M
  refine (CL.out _).mono ?_
  rintro e w4 ⟨v1, rfl, ⟨ng, a, k, c, a', k', c', rfl, kv⟩, g4⟩
  have hz_w4 := g4.size
  replace HE := hid (HE.out.trans g4)
  replace HB_F := hid (HB_F.out.ext g4)
  replace HB_W := hid (HB_W.out.ext g4)
  replace HB_Z := hid (HB_Z.out.ext g4)
  replace HB_M := hid (HB_M.out.ext g4)
  have gA := Ext.alloc w4 (.cells #[.int .i64 2, .bool false, .bool ng, .slice a k c, .slice a' k' c'] 70)
  obtain ⟨c_15, c_16⟩ := (HB_F.out.ext gA).c2
  obtain ⟨c_17, c_18⟩ := (HB_W.out.ext gA).c2
  obtain ⟨c_19, c_20, c_21⟩ := (HB_Z.out.ext gA).c3
  obtain ⟨c_22, c_23, c_24, c_25⟩ := (HB_M.out.ext gA).c4
  go_wp2_with fail
  clear gA c_15 c_16 c_17 c_18 c_19 c_20 c_21 c_22 c_23 c_24 c_25
  obtain ⟨W5, hW5, g5, hy5, B_X⟩ := pro1 w4 #[.int .i64 2, .bool false, .bool ng, .slice a k c, .slice a' k' c'] 70
  rw [← hW5]
  clear hW5
  have hz_W5 := g5.size
  replace HE := hid (HE.out.trans g5)
  replace HB_F := hid (HB_F.out.ext g5)
  replace HB_W := hid (HB_W.out.ext g5)
  replace HB_Z := hid (HB_Z.out.ext g5)
  replace HB_M := hid (HB_M.out.ext g5)
  replace kv := kv.ext g5
  have HB_X := hid B_X
  clear B_X
  have HS : Hid (∀ w', Ext W5 w' → w'.cell? ⟨w4.heap.size, 0, none⟩ = some (.int .i64 2) ∧ w'.cell? ⟨w4.heap.size, 1, none⟩ = some (.bool false) ∧ w'.cell? ⟨w4.heap.size, 2, none⟩ = some (.bool ng) ∧ w'.cell? ⟨w4.heap.size, 3, none⟩ = some (.slice a k c) ∧ w'.cell? ⟨w4.heap.size, 4, none⟩ = some (.slice a' k' c')) := hid fun w' h => ⟨(HB_X.out.ext h).cell 0, (HB_X.out.ext h).cell 1, (HB_X.out.ext h).cell 2, (HB_X.out.ext h).cell 3, (HB_X.out.ext h).cell 4⟩
  have hne_X : w4.heap.size ≠ w.heap.size + 1 + 1 := by omega
  have HSZ : Hid (∀ (v0 v1 v2 : Value) (w' : World), Ext W5 w' → (((w'.setCell ⟨w.heap.size + 1 + 1, 0, none⟩ v0).setCell ⟨w.heap.size + 1 + 1, 1, none⟩ v1).setCell ⟨w.heap.size + 1 + 1, 2, none⟩ v2).cell? ⟨w4.heap.size, 0, none⟩ = some (.int .i64 2) ∧ (((w'.setCell ⟨w.heap.size + 1 + 1, 0, none⟩ v0).setCell ⟨w.heap.size + 1 + 1, 1, none⟩ v1).setCell ⟨w.heap.size + 1 + 1, 2, none⟩ v2).cell? ⟨w4.heap.size, 1, none⟩ = some (.bool false) ∧ (((w'.setCell ⟨w.heap.size + 1 + 1, 0, none⟩ v0).setCell ⟨w.heap.size + 1 + 1, 1, none⟩ v1).setCell ⟨w.heap.size + 1 + 1, 2, none⟩ v2).cell? ⟨w4.heap.size, 2, none⟩ = some (.bool ng) ∧ (((w'.setCell ⟨w.heap.size + 1 + 1, 0, none⟩ v0).setCell ⟨w.heap.size + 1 + 1, 1, none⟩ v1).setCell ⟨w.heap.size + 1 + 1, 2, none⟩ v2).cell? ⟨w4.heap.size, 3, none⟩ = some (.slice a k c) ∧ (((w'.setCell ⟨w.heap.size + 1 + 1, 0, none⟩ v0).setCell ⟨w.heap.size + 1 + 1, 1, none⟩ v1).setCell ⟨w.heap.size + 1 + 1, 2, none⟩ v2).cell? ⟨w4.heap.size, 4, none⟩ = some (.slice a' k' c')) := hid fun v0 v1 v2 w' h => ⟨(cell_other hne_X (cell_other hne_X (cell_other hne_X ((HB_X.out.ext h).cell 0)))), (cell_other hne_X (cell_other hne_X (cell_other hne_X ((HB_X.out.ext h).cell 1)))), (cell_other hne_X (cell_other hne_X (cell_other hne_X ((HB_X.out.ext h).cell 2)))), (cell_other hne_X (cell_other hne_X (cell_other hne_X ((HB_X.out.ext h).cell 3)))), (cell_other hne_X (cell_other hne_X (cell_other hne_X ((HB_X.out.ext h).cell 4))))⟩
  clear hne_X
  have hb0 : Ext W5 W5.drew := Below.drew (Below.refl _ W5)
  go_region_held3 (fun w' => w'.cell? ⟨w4.heap.size, 0, none⟩ = some (.int .i64 2) ∧ w'.cell? ⟨w4.heap.size, 1, none⟩ = some (.bool false) ∧ w'.cell? ⟨w4.heap.size, 2, none⟩ = some (.bool ng) ∧ w'.cell? ⟨w4.heap.size, 3, none⟩ = some (.slice a k c) ∧ w'.cell? ⟨w4.heap.size, 4, none⟩ = some (.slice a' k' c'))
      (first | exact HS.out _ (by assumption) | exact HSZ.out _ _ _ _ (by assumption))
    (first
      | (go_at_call 30; (with_reducible refine (CT.out _ _ (kv.ext (Ext.undrew (Below.refl _ _)))).mono ?_); rintro e x26_1 ⟨rfl, g1⟩; have hb1 : Ext W5 x26_1 := hb0.trans g1; obtain ⟨zc0, zc1, zc2⟩ := (HB_Z.out.ext hb1).c3; obtain ⟨zf0, zf1, zf2⟩ := (HB_Z.out.ext hb1).f3))
  clear HS HSZ
  have hz_x26_1 := hb1.size
  replace HE := hid (HE.out.trans hb1)
  replace HB_F := hid (HB_F.out.ext hb1)
  replace HB_W := hid (HB_W.out.ext hb1)
  replace HB_Z := hid (HB_Z.out.ext hb1)
  replace HB_M := hid (HB_M.out.ext hb1)
  replace HB_X := hid (HB_X.out.ext hb1)
  replace kv := kv.ext hb1
  obtain ⟨c_27, c_28⟩ := HB_F.out.c2
  obtain ⟨c_29, c_30⟩ := HB_W.out.c2
  obtain ⟨c_31, c_32, c_33⟩ := HB_Z.out.c3
  obtain ⟨c_34, c_35, c_36, c_37⟩ := HB_M.out.c4
  obtain ⟨c_38, c_39, c_40, c_41, c_42⟩ := HB_X.out.c5
  obtain ⟨f_43, f_44, f_45⟩ := HB_Z.out.f3
  go_wp2_with fail
  clear c_27 c_28 c_29 c_30 c_31 c_32 c_33 c_34 c_35 c_36 c_37 c_38 c_39 c_40 c_41 c_42 f_43 f_44 f_45
  obtain ⟨W6, hW6, g6, q6, B6, hy6, ho6⟩ := sto3 HE.out (by omega) HB_Z.out (by decide) (.int .i64 2) (.bool false) (.string ⟨#[49]⟩)
  rw [← hW6]
  clear hW6
  replace HE := hid g6
  replace HB_F := hid (ho6 _ _ _ (by omega) HB_F.out)
  replace HB_W := hid (ho6 _ _ _ (by omega) HB_W.out)
  replace HB_M := hid (ho6 _ _ _ (by omega) HB_M.out)
  replace HB_X := hid (ho6 _ _ _ (by omega) HB_X.out)
  replace HB_Z := hid B6
  replace kv := kv.keep q6
  obtain ⟨c_46, c_47, c_48⟩ := HB_Z.out.c3
  refine bodyPost_ret (v := .tuple #[.agg #[.int .i64 2, .bool false, .string ⟨#[49]⟩], .int .i64 0]) (by simp [results, Tryz.results55, go_sem, c_46, c_47, c_48]) rfl ⟨rfl, HE.out⟩
end Go.Proofs.YtpjpaiaaimmngaaGreatDoor
