/- the law FloatsKnown. -/
import Derived.Test.YtpdjenblkgaffaaGreatDoorK02
import Derived.Test.YtpdjenblkgaffaaGreatDoorK03
import Derived.Test.YtpdjenblkgaffaaGreatDoorM50
import Derived.Test.YtpdjenblkgaffaaGreatDoorM49
namespace Go.Proofs.YtpdjenblkgaffaaGreatDoor
open Go.RowKit Vn

theorem newVal {cur wl : World} {g : Nat} (hE : Ext cur wl) (hle : cur.heap.size ≤ g) (hB : Box wl g #[.int .i64 0, .bool false, .string ⟨#[]⟩] 50) (x y z : Value) :
    Hid (Ext cur (((wl.setCell ⟨g, 0, none⟩ x).setCell ⟨g, 1, none⟩ y).setCell ⟨g, 2, none⟩ z)) ∧ cur.heap.size ≤ g ∧ Box (((wl.setCell ⟨g, 0, none⟩ x).setCell ⟨g, 1, none⟩ y).setCell ⟨g, 2, none⟩ z) g #[x, y, z] 50 := by
  obtain ⟨W1, hW1, g1, q1, B1, _, _⟩ := sto3 hE hle hB (by decide) x y z
  rw [← hW1]
  exact ⟨hid g1, hle, B1⟩
theorem newVal0 {cur wl : World} (hE : Ext cur wl) (x y z : Value) :
    Hid (Ext cur (wl.alloc (.cells #[x, y, z] 50))) ∧ cur.heap.size ≤ wl.heap.size ∧ Box (wl.alloc (.cells #[x, y, z] 50)) wl.heap.size #[x, y, z] 50 :=
  ⟨hid (hE.trans (Ext.alloc _ _)), hE.size, Box.new _ _ _⟩
theorem newValF : ∀ (wa w' : World), Ext (wa.alloc (.cells #[.int .i64 0, .bool false, .string ⟨#[]⟩] 50)) w' → w'.cell? ⟨wa.heap.size, 0, none⟩ = some (.int .i64 0) ∧ w'.cell? ⟨wa.heap.size, 1, none⟩ = some (.bool false) ∧ w'.cell? ⟨wa.heap.size, 2, none⟩ = some (.string ⟨#[]⟩) ∧
    w'.frozen? ⟨wa.heap.size, 0, none⟩ = false ∧ w'.frozen? ⟨wa.heap.size, 1, none⟩ = false ∧ w'.frozen? ⟨wa.heap.size, 2, none⟩ = false := fun wa _ h => ((Box.new wa #[.int .i64 0, .bool false, .string ⟨#[]⟩] 50).ext h).three

theorem Box.c6 {w : World} {b : Nat} {x0 x1 x2 x3 x4 x5 : Value} {t : TypeId} (h : Box w b #[x0, x1, x2, x3, x4, x5] t) :
    w.cell? ⟨b, 0, none⟩ = some x0 ∧ w.cell? ⟨b, 1, none⟩ = some x1 ∧ w.cell? ⟨b, 2, none⟩ = some x2 ∧ w.cell? ⟨b, 3, none⟩ = some x3 ∧ w.cell? ⟨b, 4, none⟩ = some x4 ∧ w.cell? ⟨b, 5, none⟩ = some x5 :=
  ⟨h.cell 0, h.cell 1, h.cell 2, h.cell 3, h.cell 4, h.cell 5⟩
theorem fmt33 : Fmt (3 : Nat) (3 : Nat) := by unfold Fmt; decide
def fifteen : Rat := ((15 : Int) : Rat)
def fortieth : Rat := ((-1 : Int) : Rat) / ((40 : Int) : Rat)
theorem log15 : IsLog (absQ fifteen) 3 := ⟨by decide +kernel, by decide +kernel⟩
theorem log40 : IsLog (absQ fortieth) (-6) := ⟨by decide +kernel, by decide +kernel⟩
theorem log1' : IsLog (absQ ((1 : Int) : Rat)) 0 := ⟨by decide +kernel, by decide +kernel⟩
theorem logm1 : IsLog (absQ ((-1 : Int) : Rat)) 0 := ⟨by decide +kernel, by decide +kernel⟩
theorem rnd15 : rnd 3 3 (bias 3) 0 fifteen 3 = (28, 20) := by decide +kernel
theorem rnd15t : (rnd 3 3 (bias 3) 2 fifteen 3).1 = 27 := by decide +kernel
theorem num27 : numberR 3 3 27 = (((14 : Nat) : Rat), 0) := by decide +kernel
theorem rnd40 : rnd 3 3 (bias 3) 3 fortieth (-6) = (32, 24) := by decide +kernel
theorem rndm1 : (rnd 3 3 (bias 3) 3 ((-1 : Int) : Rat) 0).1 = 44 := by decide +kernel
theorem rndp1 : (rnd 3 3 (bias 3) 4 ((1 : Int) : Rat) 0).1 = 12 := by decide +kernel
theorem rank44 : rankZ 3 3 44 = -12 := by decide +kernel
theorem rank12 : rankZ 3 3 12 = 12 := by decide +kernel
theorem sm15 : SmQ 100 fifteen := ⟨by unfold Sm; decide +kernel, by unfold Sm; decide +kernel⟩
theorem sm40 : SmQ 100 fortieth := ⟨by unfold Sm; decide +kernel, by unfold Sm; decide +kernel⟩
theorem sm1 : SmQ 100 ((1 : Int) : Rat) := ⟨by unfold Sm; decide +kernel, by unfold Sm; decide +kernel⟩
theorem smm1 : SmQ 100 ((-1 : Int) : Rat) := ⟨by unfold Sm; decide +kernel, by unfold Sm; decide +kernel⟩
theorem text14 : numText ((14 : Nat) : Rat) = ⟨#[49, 52]⟩ := by
  have e1 : ((14 : Nat) : Rat).num = 14 := rfl
  have e2 : ((14 : Nat) : Rat).den = 1 := rfl
  unfold numText
  rw [e1, e2, if_neg (by omega), if_pos rfl, ba_empty]
  unfold decT
  rw [show ((14 : Int).natAbs) = 14 from rfl, Lib.decDigits_two (by decide) (by decide)]
  rfl
theorem div12 : divR 3 3 (bias 3) 0 ((2 : Nat) : Int) (wn 3 3 12) (wvalK 3 3 (bias 3) 12) ((1 : Nat) : Int) (wn 3 3 32) (wvalK 3 3 (bias 3) 32) 0 = (60, 2) := by decide +kernel
theorem sml12 : SmQ 100 (wvalK 3 3 (bias 3) 12) := ⟨by unfold Sm; decide +kernel, by unfold Sm; decide +kernel⟩
theorem sml32 : SmQ 100 (wvalK 3 3 (bias 3) 32) := ⟨by unfold Sm; decide +kernel, by unfold Sm; decide +kernel⟩
theorem div0 : wvalK 3 3 (bias 3) 12 / wvalK 3 3 (bias 3) 32 = 0 := by decide +kernel

set_option maxRecDepth 100000 in
set_option maxHeartbeats 4000000 in
theorem known_c (w : World) (hw : WM w) (hT : Tabs w) :
   Calls Tryz.prog 4 #[] w fun e w' => e = .returned (.bool true) ∧ Ext w w' := by
  obtain ⟨S0, eS0⟩ : ∃ S, decodeR 3 3 12 = .tuple #[.agg #[.int .i64 2, .bool false, .string S], .int .i64 0] := ⟨_, by unfold decodeR; rw [if_pos (by decide), show wkind 3 3 12 = 2 from by decide, show wn 3 3 12 = false from by decide]⟩
  have CD0 : Hid (∀ w, Tabs w → Calls Tryz.prog 15 #[.agg #[.int .i64 3, .int .i64 3], .agg #[.int .u64 0, .int .u64 12]] w fun e w' => e = .returned (.tuple #[.agg #[.int .i64 2, .bool false, .string S0], .int .i64 0]) ∧ Ext w w') := hid fun w hT => by
    have := Decode_good 3 3 12 w fmt33 (by decide) hT
    rw [eS0] at this
    exact this
  clear eS0
  obtain ⟨S1, eS1⟩ : ∃ S, decodeR 3 3 44 = .tuple #[.agg #[.int .i64 2, .bool true, .string S], .int .i64 0] := ⟨_, by unfold decodeR; rw [if_pos (by decide), show wkind 3 3 44 = 2 from by decide, show wn 3 3 44 = true from by decide]⟩
  have CD1 : Hid (∀ w, Tabs w → Calls Tryz.prog 15 #[.agg #[.int .i64 3, .int .i64 3], .agg #[.int .u64 0, .int .u64 44]] w fun e w' => e = .returned (.tuple #[.agg #[.int .i64 2, .bool true, .string S1], .int .i64 0]) ∧ Ext w w') := hid fun w hT => by
    have := Decode_good 3 3 44 w fmt33 (by decide) hT
    rw [eS1] at this
    exact this
  clear eS1
  obtain ⟨S2, eS2⟩ : ∃ S, decodeR 3 3 28 = .tuple #[.agg #[.int .i64 3, .bool false, .string S], .int .i64 0] := ⟨_, by unfold decodeR; rw [if_pos (by decide), show wkind 3 3 28 = 3 from by decide, show wn 3 3 28 = false from by decide]⟩
  have CD2 : Hid (∀ w, Tabs w → Calls Tryz.prog 15 #[.agg #[.int .i64 3, .int .i64 3], .agg #[.int .u64 0, .int .u64 28]] w fun e w' => e = .returned (.tuple #[.agg #[.int .i64 3, .bool false, .string S2], .int .i64 0]) ∧ Ext w w') := hid fun w hT => by
    have := Decode_good 3 3 28 w fmt33 (by decide) hT
    rw [eS2] at this
    exact this
  clear eS2
  obtain ⟨S3, eS3⟩ : ∃ S, decodeR 3 3 30 = .tuple #[.agg #[.int .i64 4, .bool false, .string S], .int .i64 0] := ⟨_, by unfold decodeR; rw [if_pos (by decide), show wkind 3 3 30 = 4 from by decide, show wn 3 3 30 = false from by decide]⟩
  have CD3 : Hid (∀ w, Tabs w → Calls Tryz.prog 15 #[.agg #[.int .i64 3, .int .i64 3], .agg #[.int .u64 0, .int .u64 30]] w fun e w' => e = .returned (.tuple #[.agg #[.int .i64 4, .bool false, .string S3], .int .i64 0]) ∧ Ext w w') := hid fun w hT => by
    have := Decode_good 3 3 30 w fmt33 (by decide) hT
    rw [eS3] at this
    exact this
  clear eS3
  obtain ⟨S4, eS4⟩ : ∃ S, decodeR 3 3 29 = .tuple #[.agg #[.int .i64 5, .bool false, .string S], .int .i64 0] := ⟨_, by unfold decodeR; rw [if_pos (by decide), show wkind 3 3 29 = 5 from by decide, show wn 3 3 29 = false from by decide]⟩
  have CD4 : Hid (∀ w, Tabs w → Calls Tryz.prog 15 #[.agg #[.int .i64 3, .int .i64 3], .agg #[.int .u64 0, .int .u64 29]] w fun e w' => e = .returned (.tuple #[.agg #[.int .i64 5, .bool false, .string S4], .int .i64 0]) ∧ Ext w w') := hid fun w hT => by
    have := Decode_good 3 3 29 w fmt33 (by decide) hT
    rw [eS4] at this
    exact this
  clear eS4
  obtain ⟨S5, eS5⟩ : ∃ S, decodeR 3 3 32 = .tuple #[.agg #[.int .i64 1, .bool true, .string S], .int .i64 0] := ⟨_, by unfold decodeR; rw [if_pos (by decide), show wkind 3 3 32 = 1 from by decide, show wn 3 3 32 = true from by decide]⟩
  have CD5 : Hid (∀ w, Tabs w → Calls Tryz.prog 15 #[.agg #[.int .i64 3, .int .i64 3], .agg #[.int .u64 0, .int .u64 32]] w fun e w' => e = .returned (.tuple #[.agg #[.int .i64 1, .bool true, .string S5], .int .i64 0]) ∧ Ext w w') := hid fun w hT => by
    have := Decode_good 3 3 32 w fmt33 (by decide) hT
    rw [eS5] at this
    exact this
  clear eS5
  have CI15 : Hid (∀ w, _) := hid fun w => Int_c 15 w (by decide) (by decide)
  have CI1 : Hid (∀ w, _) := hid fun w => Int_c 1 w (by decide) (by decide)
  have CIm : Hid (∀ w, _) := hid fun w => Int_c (-1) w (by decide) (by decide)
  have CR15 : Hid (∀ v w, NumV w v fifteen → Tabs w → Calls Tryz.prog 17 #[.agg #[.int .i64 3, .int .i64 3], .int .i64 0, v] w fun e w' => e = .returned (.tuple #[.agg #[.int .u64 0, .int .u64 28], .int .i64 20, .int .i64 0]) ∧ Ext w w') := hid fun v w h hT => by
    have := Round_good 3 3 0 v fifteen 3 100 w fmt33 (by decide) h sm15 (by decide) (fun _ => log15) hT
    rw [rnd15] at this
    exact this
  have CN15 : Hid (∀ v w, NumV w v fifteen → Tabs w → Calls Tryz.prog 18 #[.agg #[.int .i64 3, .int .i64 3], .int .i64 2, v] w (NumErr ((14 : Nat) : Rat) 0 w)) := hid fun v w h hT => by
    have := Near_good 3 3 2 v fifteen 3 100 w fmt33 (by decide) h sm15 (by decide) (fun _ => log15) hT (by rw [rnd15t]; decide)
    rw [rnd15t, num27] at this
    exact this
  have CRA : Hid (∀ w, Calls Tryz.prog 19 #[.int .i64 (-1), .int .i64 40] w fun e w' => ∃ v, e = .returned (.tuple #[v, .int .i64 0]) ∧ NumV w' v fortieth ∧ Ext w w') := hid fun w => Ratio_c (-1) 40 w (by decide) (by decide) (by decide) (by decide) (by decide)
  have CR40 : Hid (∀ v w, NumV w v fortieth → Tabs w → Calls Tryz.prog 17 #[.agg #[.int .i64 3, .int .i64 3], .int .i64 3, v] w fun e w' => e = .returned (.tuple #[.agg #[.int .u64 0, .int .u64 32], .int .i64 24, .int .i64 0]) ∧ Ext w w') := hid fun v w h hT => by
    have := Round_good 3 3 3 v fortieth (-6) 100 w fmt33 (by decide) h sm40 (by decide) (fun _ => log40) hT
    rw [rnd40] at this
    exact this
  have CCO : Hid (∀ u v w, NumV w u ((-1 : Int) : Rat) → NumV w v ((1 : Int) : Rat) → Tabs w → Calls Tryz.prog 20 #[.agg #[.int .i64 3, .int .i64 3], u, v] w fun e w' => e = .returned (.tuple #[.int .i64 25, .int .i64 0]) ∧ Ext w w') := hid fun u v w h k hT => by
    have := Count_short 3 3 u v ((-1 : Int) : Rat) ((1 : Int) : Rat) 25 w fmt33 h k (-12) 12 (by decide) (by decide) (by decide) (hid fun v w h hT => by
      have := between_c 3 3 3 v ((-1 : Int) : Rat) 0 100 w fmt33 (by decide) h smm1 (by decide) (fun _ => logm1) hT (by rw [rndm1]; decide)
      rw [rndm1, rank44] at this
      exact this) (hid fun v w h hT => by
      have := between_c 3 3 4 v ((1 : Int) : Rat) 0 100 w fmt33 (by decide) h sm1 (by decide) (fun _ => log1') hT (by rw [rndp1]; decide)
      rw [rndp1, rank12] at this
      exact this) hT (by decide)
    exact this
  have CTX : Hid (∀ v w, NumV w v ((14 : Nat) : Rat) → Tabs w → Calls Tryz.prog 21 #[v] w fun e w' => e = .returned (.string ⟨#[49, 52]⟩) ∧ Ext w w') := hid fun v w h hT => by
    have := Text_c v _ 10 w h (SmQ.nat (by decide) (by decide)) (by decide) hT
    rwa [text14] at this
  have CDI : Hid (∀ w, Tabs w → Calls Tryz.prog 22 #[.agg #[.int .i64 3, .int .i64 3], .int .i64 0, .agg #[.int .u64 0, .int .u64 12], .agg #[.int .u64 0, .int .u64 32]] w fun e w' => e = .returned (.tuple #[.agg #[.int .u64 0, .int .u64 60], .int .i64 2, .int .i64 0]) ∧ Ext w w') := hid fun w hT => by
    have := Div_good 3 3 0 12 32 2 1 0 100 w fmt33 (by decide) (by decide) (by decide) (by decide) (by decide) (by decide) (by decide) (by decide) (by decide) sml12 sml32 (by decide) (fun h => absurd h (by decide)) (fun h => absurd div0 h) hT
    rw [div12] at this
    exact this
  have CSQ : Hid (∀ w, Tabs w → Calls Tryz.prog 23 #[.agg #[.int .i64 3, .int .i64 3], .int .i64 0, .agg #[.int .u64 0, .int .u64 44]] w fun e w' => e = .returned (.tuple #[.agg #[.int .u64 0, .int .u64 30], .int .i64 1, .int .i64 0]) ∧ Ext w w') := hid fun w hT => Sqrt_2n 3 3 0 44 w fmt33 (by decide) (by decide) (by decide) (by decide)
  have CW : Hid (∀ w, WM w → Tabs w → Calls Tryz.prog 9 #[] w fun e w' => e = .returned (.bool true) ∧ Ext w w') := hid fun w h k => awake_c w h k
  have HP := hid hw
  have HT := hid hT
  clear hw hT
  go_enter Tryz.func4, Tryz.ntmps4
  go_wp2_with fail
  have HE : Hid (Ext w w) := hid (Below.refl _ _)
  refine (six_c _).mono ?_
  rintro e w1 ⟨rfl, g1⟩
  have hz_w1 := g1.size
  replace HE := hid (HE.out.trans g1)
  go_wp2_with fail
  obtain ⟨W2, hW2, g2, hy2, B_F, B_K, B_C⟩ := pro3s w1 #[.int .i64 3, .int .i64 3] #[.int .i64 2, .int .i64 2, .int .i64 3, .int .i64 4, .int .i64 5, .int .i64 1] #[.int .u64 12, .int .u64 44, .int .u64 28, .int .u64 30, .int .u64 29, .int .u64 32] 23 3 24
  rw [← hW2]
  clear hW2
  have hz_W2 := g2.size
  replace HE := hid (HE.out.trans g2)
  have HB_F := hid B_F
  have HB_K := hid B_K
  have HB_C := hid B_C
  clear B_F B_K B_C
  go_loopw [4] (fun v wr => ∃ j : Nat, v = .int .i64 j ∧ j ≤ 6 ∧ Hid (Ext W2 wr)) (fun v _ => 6 - (intOf v).toNat)
  case atStart => exact ⟨0, rfl, Nat.zero_le _, hid (Below.refl _ _)⟩
  case round =>
    obtain ⟨j, rfl, hj, HG⟩ := hrel
    have hz_wr := HG.out.size
    replace HE := hid (HE.out.trans HG.out)
    have HR_F := hid (HB_F.out.ext HG.out)
    have HR_K := hid (HB_K.out.ext HG.out)
    have HR_C := hid (HB_C.out.ext HG.out)
    replace HB_F := HR_F
    replace HB_K := HR_K
    replace HB_C := HR_C
    clear HR_F HR_K HR_C
    rcases (show j = 0 ∨ j = 1 ∨ j = 2 ∨ j = 3 ∨ j = 4 ∨ j = 5 ∨ j = 6 by omega) with rfl | rfl | rfl | rfl | rfl | rfl | rfl
    · have hj0 : ((((0 : Nat) : Nat) : Int)) = 0 := rfl
      rw [hj0]
      clear hj0 hj
      go_upto_region 7 with (fail)
      have HS : Hid (∀ w', Ext wr w' → w'.cell? ⟨w1.heap.size, 0, none⟩ = some (.int .i64 3) ∧ w'.cell? ⟨w1.heap.size, 1, none⟩ = some (.int .i64 3) ∧ w'.cell? ⟨w1.heap.size + 1 + 1, 0, none⟩ = some (.int .u64 12) ∧ w'.cell? ⟨w1.heap.size + 1 + 1, 1, none⟩ = some (.int .u64 44) ∧ w'.cell? ⟨w1.heap.size + 1 + 1, 2, none⟩ = some (.int .u64 28) ∧ w'.cell? ⟨w1.heap.size + 1 + 1, 3, none⟩ = some (.int .u64 30) ∧ w'.cell? ⟨w1.heap.size + 1 + 1, 4, none⟩ = some (.int .u64 29) ∧ w'.cell? ⟨w1.heap.size + 1 + 1, 5, none⟩ = some (.int .u64 32)) := hid fun w' h => ⟨(HB_F.out.ext h).cell 0, (HB_F.out.ext h).cell 1, (HB_C.out.ext h).cell 0, (HB_C.out.ext h).cell 1, (HB_C.out.ext h).cell 2, (HB_C.out.ext h).cell 3, (HB_C.out.ext h).cell 4, (HB_C.out.ext h).cell 5⟩
      have hlt_F : w1.heap.size < wr.heap.size := cell_lt HB_F.out
      have hlt_C : w1.heap.size + 1 + 1 < wr.heap.size := cell_lt HB_C.out
      have HSN : Hid (∀ (g : Nat) (v0 v1 v2 : Value) (w' : World), wr.heap.size ≤ g → Ext wr w' → (((w'.setCell ⟨g, 0, none⟩ v0).setCell ⟨g, 1, none⟩ v1).setCell ⟨g, 2, none⟩ v2).cell? ⟨w1.heap.size, 0, none⟩ = some (.int .i64 3) ∧ (((w'.setCell ⟨g, 0, none⟩ v0).setCell ⟨g, 1, none⟩ v1).setCell ⟨g, 2, none⟩ v2).cell? ⟨w1.heap.size, 1, none⟩ = some (.int .i64 3) ∧ (((w'.setCell ⟨g, 0, none⟩ v0).setCell ⟨g, 1, none⟩ v1).setCell ⟨g, 2, none⟩ v2).cell? ⟨w1.heap.size + 1 + 1, 0, none⟩ = some (.int .u64 12) ∧ (((w'.setCell ⟨g, 0, none⟩ v0).setCell ⟨g, 1, none⟩ v1).setCell ⟨g, 2, none⟩ v2).cell? ⟨w1.heap.size + 1 + 1, 1, none⟩ = some (.int .u64 44) ∧ (((w'.setCell ⟨g, 0, none⟩ v0).setCell ⟨g, 1, none⟩ v1).setCell ⟨g, 2, none⟩ v2).cell? ⟨w1.heap.size + 1 + 1, 2, none⟩ = some (.int .u64 28) ∧ (((w'.setCell ⟨g, 0, none⟩ v0).setCell ⟨g, 1, none⟩ v1).setCell ⟨g, 2, none⟩ v2).cell? ⟨w1.heap.size + 1 + 1, 3, none⟩ = some (.int .u64 30) ∧ (((w'.setCell ⟨g, 0, none⟩ v0).setCell ⟨g, 1, none⟩ v1).setCell ⟨g, 2, none⟩ v2).cell? ⟨w1.heap.size + 1 + 1, 4, none⟩ = some (.int .u64 29) ∧ (((w'.setCell ⟨g, 0, none⟩ v0).setCell ⟨g, 1, none⟩ v1).setCell ⟨g, 2, none⟩ v2).cell? ⟨w1.heap.size + 1 + 1, 5, none⟩ = some (.int .u64 32)) := hid fun g v0 v1 v2 w' hg h => ⟨(cell_other (show w1.heap.size ≠ g by omega) (cell_other (show w1.heap.size ≠ g by omega) (cell_other (show w1.heap.size ≠ g by omega) ((HB_F.out.ext h).cell 0)))), (cell_other (show w1.heap.size ≠ g by omega) (cell_other (show w1.heap.size ≠ g by omega) (cell_other (show w1.heap.size ≠ g by omega) ((HB_F.out.ext h).cell 1)))), (cell_other (show w1.heap.size + 1 + 1 ≠ g by omega) (cell_other (show w1.heap.size + 1 + 1 ≠ g by omega) (cell_other (show w1.heap.size + 1 + 1 ≠ g by omega) ((HB_C.out.ext h).cell 0)))), (cell_other (show w1.heap.size + 1 + 1 ≠ g by omega) (cell_other (show w1.heap.size + 1 + 1 ≠ g by omega) (cell_other (show w1.heap.size + 1 + 1 ≠ g by omega) ((HB_C.out.ext h).cell 1)))), (cell_other (show w1.heap.size + 1 + 1 ≠ g by omega) (cell_other (show w1.heap.size + 1 + 1 ≠ g by omega) (cell_other (show w1.heap.size + 1 + 1 ≠ g by omega) ((HB_C.out.ext h).cell 2)))), (cell_other (show w1.heap.size + 1 + 1 ≠ g by omega) (cell_other (show w1.heap.size + 1 + 1 ≠ g by omega) (cell_other (show w1.heap.size + 1 + 1 ≠ g by omega) ((HB_C.out.ext h).cell 3)))), (cell_other (show w1.heap.size + 1 + 1 ≠ g by omega) (cell_other (show w1.heap.size + 1 + 1 ≠ g by omega) (cell_other (show w1.heap.size + 1 + 1 ≠ g by omega) ((HB_C.out.ext h).cell 4)))), (cell_other (show w1.heap.size + 1 + 1 ≠ g by omega) (cell_other (show w1.heap.size + 1 + 1 ≠ g by omega) (cell_other (show w1.heap.size + 1 + 1 ≠ g by omega) ((HB_C.out.ext h).cell 5))))⟩
      clear hlt_F hlt_C
      have hb0 : Ext wr wr.drew := Below.drew (Below.refl _ wr)
      have HNEW := hid newValF
      go_cut [5, 6] (fun sv sm6 wx => sm6 = .int .i64 0 ∧ ∃ g : Nat, sv = .pointer (some ⟨g, 0, none⟩) ∧ Hid (Ext wr wx) ∧ wr.heap.size ≤ g ∧ Box wx g #[.int .i64 2, .bool false, .string S0] 50)
      case first =>
        go_region_held3 (fun w' => w'.cell? ⟨w1.heap.size, 0, none⟩ = some (.int .i64 3) ∧ w'.cell? ⟨w1.heap.size, 1, none⟩ = some (.int .i64 3) ∧ w'.cell? ⟨w1.heap.size + 1 + 1, 0, none⟩ = some (.int .u64 12) ∧ w'.cell? ⟨w1.heap.size + 1 + 1, 1, none⟩ = some (.int .u64 44) ∧ w'.cell? ⟨w1.heap.size + 1 + 1, 2, none⟩ = some (.int .u64 28) ∧ w'.cell? ⟨w1.heap.size + 1 + 1, 3, none⟩ = some (.int .u64 30) ∧ w'.cell? ⟨w1.heap.size + 1 + 1, 4, none⟩ = some (.int .u64 29) ∧ w'.cell? ⟨w1.heap.size + 1 + 1, 5, none⟩ = some (.int .u64 32))
            (first | exact HS.out _ (by assumption) | exact HS.out _ (Ext.trans (by assumption) (Ext.alloc _ _)) | exact HSN.out _ _ _ _ _ (by first | omega | (simp only [World.size_drew]; omega)) (by assumption) | exact HSN.out _ _ _ _ _ (by first | omega | (simp only [World.size_drew]; omega)) (Ext.trans (by assumption) (Ext.alloc _ _)))
          (first
              | (go_at_call 15; (with_reducible refine (CD0.out _ (HT.out.ext (HE.out.trans (by first | exact hb0 | exact (hb0.trans (Ext.alloc _ _)))))).mono ?_); rintro e x1_1 ⟨rfl, g1⟩; have hb1 : Ext wr x1_1 := (by first | exact hb0.trans g1 | exact (hb0.trans (Ext.alloc _ _)).trans g1); have hs1 := hb1.size; (first | (have yy := HNEW.out _ _ (Ext.undrew g1); (try simp only [World.size_drew] at yy); obtain ⟨y0, y1, y2, y3, y4, y5⟩ := yy) | (obtain ⟨y0, y1, y2, y3, y4, y5⟩ := HNEW.out x1_1 _ (Below.refl _ _)))))
        all_goals (go_wp2_with fail; go_meet; first | exact ⟨rfl, _, rfl, newVal0 hb1 _ _ _⟩ | exact ⟨rfl, _, rfl, newVal hb1 (by first | omega | (simp only [World.size_drew]; omega)) ((Box.new _ _ _).ext (Ext.undrew g1)) _ _ _⟩)
      case rest =>
        obtain ⟨rfl, gV, rfl, gx3, hg3, B3⟩ := hcut
        have hz_wc := gx3.out.size
        replace HE := hid (HE.out.trans gx3.out)
        replace HB_F := hid (HB_F.out.ext gx3.out)
        replace HB_K := hid (HB_K.out.ext gx3.out)
        replace HB_C := hid (HB_C.out.ext gx3.out)
        have HB_V := hid B3
        clear B3 HS HSN HNEW
        go_upto_region 8 with (fail)
        have HS : Hid (∀ w', Ext wc w' → w'.cell? ⟨gV, 0, none⟩ = some (.int .i64 2) ∧ w'.cell? ⟨gV, 1, none⟩ = some (.bool false) ∧ w'.cell? ⟨gV, 2, none⟩ = some (.string S0) ∧ w'.cell? ⟨w1.heap.size + 1, 0, none⟩ = some (.int .i64 2) ∧ w'.cell? ⟨w1.heap.size + 1, 1, none⟩ = some (.int .i64 2) ∧ w'.cell? ⟨w1.heap.size + 1, 2, none⟩ = some (.int .i64 3) ∧ w'.cell? ⟨w1.heap.size + 1, 3, none⟩ = some (.int .i64 4) ∧ w'.cell? ⟨w1.heap.size + 1, 4, none⟩ = some (.int .i64 5) ∧ w'.cell? ⟨w1.heap.size + 1, 5, none⟩ = some (.int .i64 1) ∧ w'.cell? ⟨w1.heap.size + 1 + 1, 0, none⟩ = some (.int .u64 12) ∧ w'.cell? ⟨w1.heap.size + 1 + 1, 1, none⟩ = some (.int .u64 44) ∧ w'.cell? ⟨w1.heap.size + 1 + 1, 2, none⟩ = some (.int .u64 28) ∧ w'.cell? ⟨w1.heap.size + 1 + 1, 3, none⟩ = some (.int .u64 30) ∧ w'.cell? ⟨w1.heap.size + 1 + 1, 4, none⟩ = some (.int .u64 29) ∧ w'.cell? ⟨w1.heap.size + 1 + 1, 5, none⟩ = some (.int .u64 32)) := hid fun w' h => ⟨(HB_V.out.ext h).cell 0, (HB_V.out.ext h).cell 1, (HB_V.out.ext h).cell 2, (HB_K.out.ext h).cell 0, (HB_K.out.ext h).cell 1, (HB_K.out.ext h).cell 2, (HB_K.out.ext h).cell 3, (HB_K.out.ext h).cell 4, (HB_K.out.ext h).cell 5, (HB_C.out.ext h).cell 0, (HB_C.out.ext h).cell 1, (HB_C.out.ext h).cell 2, (HB_C.out.ext h).cell 3, (HB_C.out.ext h).cell 4, (HB_C.out.ext h).cell 5⟩
        have hb0 : Ext wc wc.drew := Below.drew (Below.refl _ wc)
        refine wp_region_held_drew (S := fun w' => w'.cell? ⟨gV, 0, none⟩ = some (.int .i64 2) ∧ w'.cell? ⟨gV, 1, none⟩ = some (.bool false) ∧ w'.cell? ⟨gV, 2, none⟩ = some (.string S0) ∧ w'.cell? ⟨w1.heap.size + 1, 0, none⟩ = some (.int .i64 2) ∧ w'.cell? ⟨w1.heap.size + 1, 1, none⟩ = some (.int .i64 2) ∧ w'.cell? ⟨w1.heap.size + 1, 2, none⟩ = some (.int .i64 3) ∧ w'.cell? ⟨w1.heap.size + 1, 3, none⟩ = some (.int .i64 4) ∧ w'.cell? ⟨w1.heap.size + 1, 4, none⟩ = some (.int .i64 5) ∧ w'.cell? ⟨w1.heap.size + 1, 5, none⟩ = some (.int .i64 1) ∧ w'.cell? ⟨w1.heap.size + 1 + 1, 0, none⟩ = some (.int .u64 12) ∧ w'.cell? ⟨w1.heap.size + 1 + 1, 1, none⟩ = some (.int .u64 44) ∧ w'.cell? ⟨w1.heap.size + 1 + 1, 2, none⟩ = some (.int .u64 28) ∧ w'.cell? ⟨w1.heap.size + 1 + 1, 3, none⟩ = some (.int .u64 30) ∧ w'.cell? ⟨w1.heap.size + 1 + 1, 4, none⟩ = some (.int .u64 29) ∧ w'.cell? ⟨w1.heap.size + 1 + 1, 5, none⟩ = some (.int .u64 32)) (by kernel_rfl) (HS.out _ hb0) (fun hHeld => ?_)
        refine wpAnyH_take (i := 0) (oi := { dst := some 42, op := Op.move (Operand.tmp 6), type := 33, pos := "law.go:431", after := #[], guard := none }) (v := ?_) rfl (by kernel_rfl) (by kernel_rfl) (by kernel_rfl) (fun _ _ _ h => h) (Or.inl ⟨by rfl, ?_⟩) (by assumption) ?_
        rotate_left
        · intro w' hSw
          (try dsimp only at hSw)
          go_simp <;> with_reducible rfl
        try simp only [Act.put, List.setIfInBounds_toArray, List.set_cons_zero, List.set_cons_succ]
        refine wpAnyH_take (i := 1) (oi := { dst := some 43, op := Op.binOp BinOp.neq 33 (Operand.tmp 42) (Operand.const (Value.int IntKind.i64 0)) 33, type := 4, pos := "law.go:431", after := #[{ on := 0, ground := Ground.data }], guard := none }) (v := ?_) rfl (by kernel_rfl) (by kernel_rfl) (by kernel_rfl) (fun _ _ _ h => h) (Or.inl ⟨by rfl, ?_⟩) (by assumption) ?_
        rotate_left
        · intro w' hSw
          (try dsimp only at hSw)
          go_simp <;> with_reducible rfl
        try simp only [Act.put, List.setIfInBounds_toArray, List.set_cons_zero, List.set_cons_succ]
        refine wpAnyH_take (i := 2) (oi := { dst := some 44, op := Op.move (Operand.tmp 43), type := 4, pos := "law.go:431", after := #[{ on := 1, ground := Ground.data }], guard := none }) (v := ?_) rfl (by kernel_rfl) (by kernel_rfl) (by kernel_rfl) (fun _ _ _ h => h) (Or.inl ⟨by rfl, ?_⟩) (by assumption) ?_
        rotate_left
        · intro w' hSw
          (try dsimp only at hSw)
          go_simp <;> with_reducible rfl
        try simp only [Act.put, List.setIfInBounds_toArray, List.set_cons_zero, List.set_cons_succ]
        refine wpAnyH_take (i := 3) (oi := { dst := some 45, op := Op.fieldAddr 50 (Operand.tmp 5) 0, type := 0, pos := "law.go:431", after := #[{ on := 2, ground := Ground.guard }], guard := some (2, false) }) (v := ?_) rfl (by kernel_rfl) (by kernel_rfl) (by kernel_rfl) (fun _ _ _ h => h) (Or.inl ⟨by rfl, ?_⟩) (by assumption) ?_
        rotate_left
        · intro w' hSw
          (try dsimp only at hSw)
          go_simp <;> with_reducible rfl
        try simp only [Act.put, List.setIfInBounds_toArray, List.set_cons_zero, List.set_cons_succ]
        refine wpAnyH_take (i := 4) (oi := { dst := some 46, op := Op.load 3 (Operand.tmp 45), type := 3, pos := "law.go:431", after := #[{ on := 3, ground := Ground.data }, { on := 2, ground := Ground.guard }], guard := some (2, false) }) (v := ?_) rfl (by kernel_rfl) (by kernel_rfl) (by kernel_rfl) (fun _ _ _ h => h) (Or.inl ⟨by rfl, ?_⟩) (by assumption) ?_
        rotate_left
        · intro w' hSw
          (try dsimp only at hSw)
          go_simp <;> with_reducible rfl
        try simp only [Act.put, List.setIfInBounds_toArray, List.set_cons_zero, List.set_cons_succ]
        refine wpAnyH_take (i := 5) (oi := { dst := some 47, op := Op.move (Operand.tmp 2), type := 46, pos := "law.go:431", after := #[{ on := 2, ground := Ground.guard }], guard := some (2, false) }) (v := ?_) rfl (by kernel_rfl) (by kernel_rfl) (by kernel_rfl) (fun _ _ _ h => h) (Or.inl ⟨by rfl, ?_⟩) (by assumption) ?_
        rotate_left
        · intro w' hSw
          (try dsimp only at hSw)
          go_simp <;> with_reducible rfl
        try simp only [Act.put, List.setIfInBounds_toArray, List.set_cons_zero, List.set_cons_succ]
        refine wpAnyH_take (i := 6) (oi := { dst := some 48, op := Op.move (Operand.tmp 4), type := 3, pos := "law.go:431", after := #[{ on := 2, ground := Ground.guard }], guard := some (2, false) }) (v := ?_) rfl (by kernel_rfl) (by kernel_rfl) (by kernel_rfl) (fun _ _ _ h => h) (Or.inl ⟨by rfl, ?_⟩) (by assumption) ?_
        rotate_left
        · intro w' hSw
          (try dsimp only at hSw)
          go_simp <;> with_reducible rfl
        try simp only [Act.put, List.setIfInBounds_toArray, List.set_cons_zero, List.set_cons_succ]
        refine wpAnyH_take (i := 7) (oi := { dst := some 49, op := Op.indexAddr 46 (Operand.tmp 47) (Operand.tmp 48), type := 0, pos := "law.go:431", after := #[{ on := 5, ground := Ground.data }, { on := 6, ground := Ground.data }, { on := 2, ground := Ground.guard }], guard := some (2, false) }) (v := ?_) rfl (by kernel_rfl) (by kernel_rfl) (by kernel_rfl) (fun _ _ _ h => h) (Or.inl ⟨by rfl, ?_⟩) (by assumption) ?_
        rotate_left
        · intro w' hSw
          (try dsimp only at hSw)
          go_simp <;> with_reducible rfl
        try simp only [Act.put, List.setIfInBounds_toArray, List.set_cons_zero, List.set_cons_succ]
        refine wpAnyH_take (i := 8) (oi := { dst := some 50, op := Op.load 3 (Operand.tmp 49), type := 3, pos := "law.go:431", after := #[{ on := 7, ground := Ground.data }, { on := 2, ground := Ground.guard }], guard := some (2, false) }) (v := ?_) rfl (by kernel_rfl) (by kernel_rfl) (by kernel_rfl) (fun _ _ _ h => h) (Or.inl ⟨by rfl, ?_⟩) (by assumption) ?_
        rotate_left
        · intro w' hSw
          (try dsimp only at hSw)
          go_simp <;> with_reducible rfl
        try simp only [Act.put, List.setIfInBounds_toArray, List.set_cons_zero, List.set_cons_succ]
        refine wpAnyH_take (i := 9) (oi := { dst := some 51, op := Op.binOp BinOp.neq 3 (Operand.tmp 46) (Operand.tmp 50) 3, type := 4, pos := "law.go:431", after := #[{ on := 4, ground := Ground.data }, { on := 8, ground := Ground.data }, { on := 2, ground := Ground.guard }], guard := some (2, false) }) (v := ?_) rfl (by kernel_rfl) (by kernel_rfl) (by kernel_rfl) (fun _ _ _ h => h) (Or.inl ⟨by rfl, ?_⟩) (by assumption) ?_
        rotate_left
        · intro w' hSw
          (try dsimp only at hSw)
          go_simp <;> with_reducible rfl
        try simp only [Act.put, List.setIfInBounds_toArray, List.set_cons_zero, List.set_cons_succ]
        refine wpAnyH_take (i := 10) (oi := { dst := some 52, op := Op.pick (Operand.tmp 44) (Operand.const (Value.bool true)) (Operand.tmp 51), type := 4, pos := "law.go:431", after := #[{ on := 2, ground := Ground.data }, { on := 9, ground := Ground.data }], guard := none }) (v := ?_) rfl (by kernel_rfl) (by kernel_rfl) (by kernel_rfl) (fun _ _ _ h => h) (Or.inl ⟨by rfl, ?_⟩) (by assumption) ?_
        rotate_left
        · intro w' hSw
          (try dsimp only at hSw)
          go_simp <;> with_reducible rfl
        try simp only [Act.put, List.setIfInBounds_toArray, List.set_cons_zero, List.set_cons_succ]
        refine wpAnyH_take (i := 11) (oi := { dst := some 53, op := Op.move (Operand.tmp 52), type := 4, pos := "law.go:431", after := #[{ on := 10, ground := Ground.data }, { on := 2, ground := Ground.chain }], guard := none }) (v := ?_) rfl (by kernel_rfl) (by kernel_rfl) (by kernel_rfl) (fun _ _ _ h => h) (Or.inl ⟨by rfl, ?_⟩) (by assumption) ?_
        rotate_left
        · intro w' hSw
          (try dsimp only at hSw)
          go_simp <;> with_reducible rfl
        try simp only [Act.put, List.setIfInBounds_toArray, List.set_cons_zero, List.set_cons_succ]
        refine wpAnyH_take (i := 12) (oi := { dst := some 54, op := Op.fieldAddr 50 (Operand.tmp 5) 1, type := 0, pos := "law.go:431", after := #[{ on := 11, ground := Ground.guard }], guard := some (11, false) }) (v := ?_) rfl (by kernel_rfl) (by kernel_rfl) (by kernel_rfl) (fun _ _ _ h => h) (Or.inl ⟨by rfl, ?_⟩) (by assumption) ?_
        rotate_left
        · intro w' hSw
          (try dsimp only at hSw)
          go_simp <;> with_reducible rfl
        try simp only [Act.put, List.setIfInBounds_toArray, List.set_cons_zero, List.set_cons_succ]
        refine wpAnyH_take (i := 13) (oi := { dst := some 55, op := Op.load 4 (Operand.tmp 54), type := 4, pos := "law.go:431", after := #[{ on := 12, ground := Ground.data }, { on := 11, ground := Ground.guard }], guard := some (11, false) }) (v := ?_) rfl (by kernel_rfl) (by kernel_rfl) (by kernel_rfl) (fun _ _ _ h => h) (Or.inl ⟨by rfl, ?_⟩) (by assumption) ?_
        rotate_left
        · intro w' hSw
          (try dsimp only at hSw)
          go_simp <;> with_reducible rfl
        try simp only [Act.put, List.setIfInBounds_toArray, List.set_cons_zero, List.set_cons_succ]
        refine wpAnyH_take (i := 14) (oi := { dst := some 56, op := Op.move (Operand.tmp 3), type := 47, pos := "law.go:431", after := #[{ on := 11, ground := Ground.guard }], guard := some (11, false) }) (v := ?_) rfl (by kernel_rfl) (by kernel_rfl) (by kernel_rfl) (fun _ _ _ h => h) (Or.inl ⟨by rfl, ?_⟩) (by assumption) ?_
        rotate_left
        · intro w' hSw
          (try dsimp only at hSw)
          go_simp <;> with_reducible rfl
        try simp only [Act.put, List.setIfInBounds_toArray, List.set_cons_zero, List.set_cons_succ]
        refine wpAnyH_take (i := 15) (oi := { dst := some 57, op := Op.move (Operand.tmp 4), type := 3, pos := "law.go:431", after := #[{ on := 11, ground := Ground.guard }], guard := some (11, false) }) (v := ?_) rfl (by kernel_rfl) (by kernel_rfl) (by kernel_rfl) (fun _ _ _ h => h) (Or.inl ⟨by rfl, ?_⟩) (by assumption) ?_
        rotate_left
        · intro w' hSw
          (try dsimp only at hSw)
          go_simp <;> with_reducible rfl
        try simp only [Act.put, List.setIfInBounds_toArray, List.set_cons_zero, List.set_cons_succ]
        refine wpAnyH_take (i := 16) (oi := { dst := some 58, op := Op.indexAddr 47 (Operand.tmp 56) (Operand.tmp 57), type := 0, pos := "law.go:431", after := #[{ on := 14, ground := Ground.data }, { on := 15, ground := Ground.data }, { on := 11, ground := Ground.guard }], guard := some (11, false) }) (v := ?_) rfl (by kernel_rfl) (by kernel_rfl) (by kernel_rfl) (fun _ _ _ h => h) (Or.inl ⟨by rfl, ?_⟩) (by assumption) ?_
        rotate_left
        · intro w' hSw
          (try dsimp only at hSw)
          go_simp <;> with_reducible rfl
        try simp only [Act.put, List.setIfInBounds_toArray, List.set_cons_zero, List.set_cons_succ]
        refine wpAnyH_take (i := 17) (oi := { dst := some 59, op := Op.load 24 (Operand.tmp 58), type := 24, pos := "law.go:431", after := #[{ on := 16, ground := Ground.data }, { on := 11, ground := Ground.guard }], guard := some (11, false) }) (v := ?_) rfl (by kernel_rfl) (by kernel_rfl) (by kernel_rfl) (fun _ _ _ h => h) (Or.inl ⟨by rfl, ?_⟩) (by assumption) ?_
        rotate_left
        · intro w' hSw
          (try dsimp only at hSw)
          go_simp <;> with_reducible rfl
        try simp only [Act.put, List.setIfInBounds_toArray, List.set_cons_zero, List.set_cons_succ]
        refine wpAnyH_take (i := 18) (oi := { dst := some 60, op := Op.binOp BinOp.geq 24 (Operand.tmp 59) (Operand.const (Value.int IntKind.u64 32)) 24, type := 4, pos := "law.go:431", after := #[{ on := 17, ground := Ground.data }, { on := 11, ground := Ground.guard }], guard := some (11, false) }) (v := ?_) rfl (by kernel_rfl) (by kernel_rfl) (by kernel_rfl) (fun _ _ _ h => h) (Or.inl ⟨by rfl, ?_⟩) (by assumption) ?_
        rotate_left
        · intro w' hSw
          (try dsimp only at hSw)
          go_simp <;> with_reducible rfl
        try simp only [Act.put, List.setIfInBounds_toArray, List.set_cons_zero, List.set_cons_succ]
        refine wpAnyH_take (i := 19) (oi := { dst := some 61, op := Op.binOp BinOp.neq 4 (Operand.tmp 55) (Operand.tmp 60) 4, type := 4, pos := "law.go:431", after := #[{ on := 13, ground := Ground.data }, { on := 18, ground := Ground.data }, { on := 11, ground := Ground.guard }], guard := some (11, false) }) (v := ?_) rfl (by kernel_rfl) (by kernel_rfl) (by kernel_rfl) (fun _ _ _ h => h) (Or.inl ⟨by rfl, ?_⟩) (by assumption) ?_
        rotate_left
        · intro w' hSw
          (try dsimp only at hSw)
          go_simp <;> with_reducible rfl
        try simp only [Act.put, List.setIfInBounds_toArray, List.set_cons_zero, List.set_cons_succ]
        refine wpAnyH_take (i := 20) (oi := { dst := some 62, op := Op.pick (Operand.tmp 53) (Operand.const (Value.bool true)) (Operand.tmp 61), type := 4, pos := "law.go:431", after := #[{ on := 11, ground := Ground.data }, { on := 19, ground := Ground.data }], guard := none }) (v := ?_) rfl (by kernel_rfl) (by kernel_rfl) (by kernel_rfl) (fun _ _ _ h => h) (Or.inl ⟨by rfl, ?_⟩) (by assumption) ?_
        rotate_left
        · intro w' hSw
          (try dsimp only at hSw)
          go_simp <;> with_reducible rfl
        try simp only [Act.put, List.setIfInBounds_toArray, List.set_cons_zero, List.set_cons_succ]
        refine wpAnyH_done (by kernel_rfl) ?_ _
        clear HS hHeld
        go_wp2_with fail
        exact ⟨⟨1, by go_num, by omega, hid (HG.out.trans (gx3.out.trans hb0))⟩, by simp [intOf]⟩
    · have hj0 : ((((1 : Nat) : Nat) : Int)) = 1 := rfl
      rw [hj0]
      clear hj0 hj
      go_upto_region 7 with (fail)
      have HS : Hid (∀ w', Ext wr w' → w'.cell? ⟨w1.heap.size, 0, none⟩ = some (.int .i64 3) ∧ w'.cell? ⟨w1.heap.size, 1, none⟩ = some (.int .i64 3) ∧ w'.cell? ⟨w1.heap.size + 1 + 1, 0, none⟩ = some (.int .u64 12) ∧ w'.cell? ⟨w1.heap.size + 1 + 1, 1, none⟩ = some (.int .u64 44) ∧ w'.cell? ⟨w1.heap.size + 1 + 1, 2, none⟩ = some (.int .u64 28) ∧ w'.cell? ⟨w1.heap.size + 1 + 1, 3, none⟩ = some (.int .u64 30) ∧ w'.cell? ⟨w1.heap.size + 1 + 1, 4, none⟩ = some (.int .u64 29) ∧ w'.cell? ⟨w1.heap.size + 1 + 1, 5, none⟩ = some (.int .u64 32)) := hid fun w' h => ⟨(HB_F.out.ext h).cell 0, (HB_F.out.ext h).cell 1, (HB_C.out.ext h).cell 0, (HB_C.out.ext h).cell 1, (HB_C.out.ext h).cell 2, (HB_C.out.ext h).cell 3, (HB_C.out.ext h).cell 4, (HB_C.out.ext h).cell 5⟩
      have hlt_F : w1.heap.size < wr.heap.size := cell_lt HB_F.out
      have hlt_C : w1.heap.size + 1 + 1 < wr.heap.size := cell_lt HB_C.out
      have HSN : Hid (∀ (g : Nat) (v0 v1 v2 : Value) (w' : World), wr.heap.size ≤ g → Ext wr w' → (((w'.setCell ⟨g, 0, none⟩ v0).setCell ⟨g, 1, none⟩ v1).setCell ⟨g, 2, none⟩ v2).cell? ⟨w1.heap.size, 0, none⟩ = some (.int .i64 3) ∧ (((w'.setCell ⟨g, 0, none⟩ v0).setCell ⟨g, 1, none⟩ v1).setCell ⟨g, 2, none⟩ v2).cell? ⟨w1.heap.size, 1, none⟩ = some (.int .i64 3) ∧ (((w'.setCell ⟨g, 0, none⟩ v0).setCell ⟨g, 1, none⟩ v1).setCell ⟨g, 2, none⟩ v2).cell? ⟨w1.heap.size + 1 + 1, 0, none⟩ = some (.int .u64 12) ∧ (((w'.setCell ⟨g, 0, none⟩ v0).setCell ⟨g, 1, none⟩ v1).setCell ⟨g, 2, none⟩ v2).cell? ⟨w1.heap.size + 1 + 1, 1, none⟩ = some (.int .u64 44) ∧ (((w'.setCell ⟨g, 0, none⟩ v0).setCell ⟨g, 1, none⟩ v1).setCell ⟨g, 2, none⟩ v2).cell? ⟨w1.heap.size + 1 + 1, 2, none⟩ = some (.int .u64 28) ∧ (((w'.setCell ⟨g, 0, none⟩ v0).setCell ⟨g, 1, none⟩ v1).setCell ⟨g, 2, none⟩ v2).cell? ⟨w1.heap.size + 1 + 1, 3, none⟩ = some (.int .u64 30) ∧ (((w'.setCell ⟨g, 0, none⟩ v0).setCell ⟨g, 1, none⟩ v1).setCell ⟨g, 2, none⟩ v2).cell? ⟨w1.heap.size + 1 + 1, 4, none⟩ = some (.int .u64 29) ∧ (((w'.setCell ⟨g, 0, none⟩ v0).setCell ⟨g, 1, none⟩ v1).setCell ⟨g, 2, none⟩ v2).cell? ⟨w1.heap.size + 1 + 1, 5, none⟩ = some (.int .u64 32)) := hid fun g v0 v1 v2 w' hg h => ⟨(cell_other (show w1.heap.size ≠ g by omega) (cell_other (show w1.heap.size ≠ g by omega) (cell_other (show w1.heap.size ≠ g by omega) ((HB_F.out.ext h).cell 0)))), (cell_other (show w1.heap.size ≠ g by omega) (cell_other (show w1.heap.size ≠ g by omega) (cell_other (show w1.heap.size ≠ g by omega) ((HB_F.out.ext h).cell 1)))), (cell_other (show w1.heap.size + 1 + 1 ≠ g by omega) (cell_other (show w1.heap.size + 1 + 1 ≠ g by omega) (cell_other (show w1.heap.size + 1 + 1 ≠ g by omega) ((HB_C.out.ext h).cell 0)))), (cell_other (show w1.heap.size + 1 + 1 ≠ g by omega) (cell_other (show w1.heap.size + 1 + 1 ≠ g by omega) (cell_other (show w1.heap.size + 1 + 1 ≠ g by omega) ((HB_C.out.ext h).cell 1)))), (cell_other (show w1.heap.size + 1 + 1 ≠ g by omega) (cell_other (show w1.heap.size + 1 + 1 ≠ g by omega) (cell_other (show w1.heap.size + 1 + 1 ≠ g by omega) ((HB_C.out.ext h).cell 2)))), (cell_other (show w1.heap.size + 1 + 1 ≠ g by omega) (cell_other (show w1.heap.size + 1 + 1 ≠ g by omega) (cell_other (show w1.heap.size + 1 + 1 ≠ g by omega) ((HB_C.out.ext h).cell 3)))), (cell_other (show w1.heap.size + 1 + 1 ≠ g by omega) (cell_other (show w1.heap.size + 1 + 1 ≠ g by omega) (cell_other (show w1.heap.size + 1 + 1 ≠ g by omega) ((HB_C.out.ext h).cell 4)))), (cell_other (show w1.heap.size + 1 + 1 ≠ g by omega) (cell_other (show w1.heap.size + 1 + 1 ≠ g by omega) (cell_other (show w1.heap.size + 1 + 1 ≠ g by omega) ((HB_C.out.ext h).cell 5))))⟩
      clear hlt_F hlt_C
      have hb0 : Ext wr wr.drew := Below.drew (Below.refl _ wr)
      have HNEW := hid newValF
      go_cut [5, 6] (fun sv sm6 wx => sm6 = .int .i64 0 ∧ ∃ g : Nat, sv = .pointer (some ⟨g, 0, none⟩) ∧ Hid (Ext wr wx) ∧ wr.heap.size ≤ g ∧ Box wx g #[.int .i64 2, .bool true, .string S1] 50)
      case first =>
        go_region_held3 (fun w' => w'.cell? ⟨w1.heap.size, 0, none⟩ = some (.int .i64 3) ∧ w'.cell? ⟨w1.heap.size, 1, none⟩ = some (.int .i64 3) ∧ w'.cell? ⟨w1.heap.size + 1 + 1, 0, none⟩ = some (.int .u64 12) ∧ w'.cell? ⟨w1.heap.size + 1 + 1, 1, none⟩ = some (.int .u64 44) ∧ w'.cell? ⟨w1.heap.size + 1 + 1, 2, none⟩ = some (.int .u64 28) ∧ w'.cell? ⟨w1.heap.size + 1 + 1, 3, none⟩ = some (.int .u64 30) ∧ w'.cell? ⟨w1.heap.size + 1 + 1, 4, none⟩ = some (.int .u64 29) ∧ w'.cell? ⟨w1.heap.size + 1 + 1, 5, none⟩ = some (.int .u64 32))
            (first | exact HS.out _ (by assumption) | exact HS.out _ (Ext.trans (by assumption) (Ext.alloc _ _)) | exact HSN.out _ _ _ _ _ (by first | omega | (simp only [World.size_drew]; omega)) (by assumption) | exact HSN.out _ _ _ _ _ (by first | omega | (simp only [World.size_drew]; omega)) (Ext.trans (by assumption) (Ext.alloc _ _)))
          (first
              | (go_at_call 15; (with_reducible refine (CD1.out _ (HT.out.ext (HE.out.trans (by first | exact hb0 | exact (hb0.trans (Ext.alloc _ _)))))).mono ?_); rintro e x1_1 ⟨rfl, g1⟩; have hb1 : Ext wr x1_1 := (by first | exact hb0.trans g1 | exact (hb0.trans (Ext.alloc _ _)).trans g1); have hs1 := hb1.size; (first | (have yy := HNEW.out _ _ (Ext.undrew g1); (try simp only [World.size_drew] at yy); obtain ⟨y0, y1, y2, y3, y4, y5⟩ := yy) | (obtain ⟨y0, y1, y2, y3, y4, y5⟩ := HNEW.out x1_1 _ (Below.refl _ _)))))
        all_goals (go_wp2_with fail; go_meet; first | exact ⟨rfl, _, rfl, newVal0 hb1 _ _ _⟩ | exact ⟨rfl, _, rfl, newVal hb1 (by first | omega | (simp only [World.size_drew]; omega)) ((Box.new _ _ _).ext (Ext.undrew g1)) _ _ _⟩)
      case rest =>
        obtain ⟨rfl, gV, rfl, gx3, hg3, B3⟩ := hcut
        have hz_wc := gx3.out.size
        replace HE := hid (HE.out.trans gx3.out)
        replace HB_F := hid (HB_F.out.ext gx3.out)
        replace HB_K := hid (HB_K.out.ext gx3.out)
        replace HB_C := hid (HB_C.out.ext gx3.out)
        have HB_V := hid B3
        clear B3 HS HSN HNEW
        go_upto_region 8 with (fail)
        have HS : Hid (∀ w', Ext wc w' → w'.cell? ⟨gV, 0, none⟩ = some (.int .i64 2) ∧ w'.cell? ⟨gV, 1, none⟩ = some (.bool true) ∧ w'.cell? ⟨gV, 2, none⟩ = some (.string S1) ∧ w'.cell? ⟨w1.heap.size + 1, 0, none⟩ = some (.int .i64 2) ∧ w'.cell? ⟨w1.heap.size + 1, 1, none⟩ = some (.int .i64 2) ∧ w'.cell? ⟨w1.heap.size + 1, 2, none⟩ = some (.int .i64 3) ∧ w'.cell? ⟨w1.heap.size + 1, 3, none⟩ = some (.int .i64 4) ∧ w'.cell? ⟨w1.heap.size + 1, 4, none⟩ = some (.int .i64 5) ∧ w'.cell? ⟨w1.heap.size + 1, 5, none⟩ = some (.int .i64 1) ∧ w'.cell? ⟨w1.heap.size + 1 + 1, 0, none⟩ = some (.int .u64 12) ∧ w'.cell? ⟨w1.heap.size + 1 + 1, 1, none⟩ = some (.int .u64 44) ∧ w'.cell? ⟨w1.heap.size + 1 + 1, 2, none⟩ = some (.int .u64 28) ∧ w'.cell? ⟨w1.heap.size + 1 + 1, 3, none⟩ = some (.int .u64 30) ∧ w'.cell? ⟨w1.heap.size + 1 + 1, 4, none⟩ = some (.int .u64 29) ∧ w'.cell? ⟨w1.heap.size + 1 + 1, 5, none⟩ = some (.int .u64 32)) := hid fun w' h => ⟨(HB_V.out.ext h).cell 0, (HB_V.out.ext h).cell 1, (HB_V.out.ext h).cell 2, (HB_K.out.ext h).cell 0, (HB_K.out.ext h).cell 1, (HB_K.out.ext h).cell 2, (HB_K.out.ext h).cell 3, (HB_K.out.ext h).cell 4, (HB_K.out.ext h).cell 5, (HB_C.out.ext h).cell 0, (HB_C.out.ext h).cell 1, (HB_C.out.ext h).cell 2, (HB_C.out.ext h).cell 3, (HB_C.out.ext h).cell 4, (HB_C.out.ext h).cell 5⟩
        have hb0 : Ext wc wc.drew := Below.drew (Below.refl _ wc)
        refine wp_region_held_drew (S := fun w' => w'.cell? ⟨gV, 0, none⟩ = some (.int .i64 2) ∧ w'.cell? ⟨gV, 1, none⟩ = some (.bool true) ∧ w'.cell? ⟨gV, 2, none⟩ = some (.string S1) ∧ w'.cell? ⟨w1.heap.size + 1, 0, none⟩ = some (.int .i64 2) ∧ w'.cell? ⟨w1.heap.size + 1, 1, none⟩ = some (.int .i64 2) ∧ w'.cell? ⟨w1.heap.size + 1, 2, none⟩ = some (.int .i64 3) ∧ w'.cell? ⟨w1.heap.size + 1, 3, none⟩ = some (.int .i64 4) ∧ w'.cell? ⟨w1.heap.size + 1, 4, none⟩ = some (.int .i64 5) ∧ w'.cell? ⟨w1.heap.size + 1, 5, none⟩ = some (.int .i64 1) ∧ w'.cell? ⟨w1.heap.size + 1 + 1, 0, none⟩ = some (.int .u64 12) ∧ w'.cell? ⟨w1.heap.size + 1 + 1, 1, none⟩ = some (.int .u64 44) ∧ w'.cell? ⟨w1.heap.size + 1 + 1, 2, none⟩ = some (.int .u64 28) ∧ w'.cell? ⟨w1.heap.size + 1 + 1, 3, none⟩ = some (.int .u64 30) ∧ w'.cell? ⟨w1.heap.size + 1 + 1, 4, none⟩ = some (.int .u64 29) ∧ w'.cell? ⟨w1.heap.size + 1 + 1, 5, none⟩ = some (.int .u64 32)) (by kernel_rfl) (HS.out _ hb0) (fun hHeld => ?_)
        refine wpAnyH_take (i := 0) (oi := { dst := some 42, op := Op.move (Operand.tmp 6), type := 33, pos := "law.go:431", after := #[], guard := none }) (v := ?_) rfl (by kernel_rfl) (by kernel_rfl) (by kernel_rfl) (fun _ _ _ h => h) (Or.inl ⟨by rfl, ?_⟩) (by assumption) ?_
        rotate_left
        · intro w' hSw
          (try dsimp only at hSw)
          go_simp <;> with_reducible rfl
        try simp only [Act.put, List.setIfInBounds_toArray, List.set_cons_zero, List.set_cons_succ]
        refine wpAnyH_take (i := 1) (oi := { dst := some 43, op := Op.binOp BinOp.neq 33 (Operand.tmp 42) (Operand.const (Value.int IntKind.i64 0)) 33, type := 4, pos := "law.go:431", after := #[{ on := 0, ground := Ground.data }], guard := none }) (v := ?_) rfl (by kernel_rfl) (by kernel_rfl) (by kernel_rfl) (fun _ _ _ h => h) (Or.inl ⟨by rfl, ?_⟩) (by assumption) ?_
        rotate_left
        · intro w' hSw
          (try dsimp only at hSw)
          go_simp <;> with_reducible rfl
        try simp only [Act.put, List.setIfInBounds_toArray, List.set_cons_zero, List.set_cons_succ]
        refine wpAnyH_take (i := 2) (oi := { dst := some 44, op := Op.move (Operand.tmp 43), type := 4, pos := "law.go:431", after := #[{ on := 1, ground := Ground.data }], guard := none }) (v := ?_) rfl (by kernel_rfl) (by kernel_rfl) (by kernel_rfl) (fun _ _ _ h => h) (Or.inl ⟨by rfl, ?_⟩) (by assumption) ?_
        rotate_left
        · intro w' hSw
          (try dsimp only at hSw)
          go_simp <;> with_reducible rfl
        try simp only [Act.put, List.setIfInBounds_toArray, List.set_cons_zero, List.set_cons_succ]
        refine wpAnyH_take (i := 3) (oi := { dst := some 45, op := Op.fieldAddr 50 (Operand.tmp 5) 0, type := 0, pos := "law.go:431", after := #[{ on := 2, ground := Ground.guard }], guard := some (2, false) }) (v := ?_) rfl (by kernel_rfl) (by kernel_rfl) (by kernel_rfl) (fun _ _ _ h => h) (Or.inl ⟨by rfl, ?_⟩) (by assumption) ?_
        rotate_left
        · intro w' hSw
          (try dsimp only at hSw)
          go_simp <;> with_reducible rfl
        try simp only [Act.put, List.setIfInBounds_toArray, List.set_cons_zero, List.set_cons_succ]
        refine wpAnyH_take (i := 4) (oi := { dst := some 46, op := Op.load 3 (Operand.tmp 45), type := 3, pos := "law.go:431", after := #[{ on := 3, ground := Ground.data }, { on := 2, ground := Ground.guard }], guard := some (2, false) }) (v := ?_) rfl (by kernel_rfl) (by kernel_rfl) (by kernel_rfl) (fun _ _ _ h => h) (Or.inl ⟨by rfl, ?_⟩) (by assumption) ?_
        rotate_left
        · intro w' hSw
          (try dsimp only at hSw)
          go_simp <;> with_reducible rfl
        try simp only [Act.put, List.setIfInBounds_toArray, List.set_cons_zero, List.set_cons_succ]
        refine wpAnyH_take (i := 5) (oi := { dst := some 47, op := Op.move (Operand.tmp 2), type := 46, pos := "law.go:431", after := #[{ on := 2, ground := Ground.guard }], guard := some (2, false) }) (v := ?_) rfl (by kernel_rfl) (by kernel_rfl) (by kernel_rfl) (fun _ _ _ h => h) (Or.inl ⟨by rfl, ?_⟩) (by assumption) ?_
        rotate_left
        · intro w' hSw
          (try dsimp only at hSw)
          go_simp <;> with_reducible rfl
        try simp only [Act.put, List.setIfInBounds_toArray, List.set_cons_zero, List.set_cons_succ]
        refine wpAnyH_take (i := 6) (oi := { dst := some 48, op := Op.move (Operand.tmp 4), type := 3, pos := "law.go:431", after := #[{ on := 2, ground := Ground.guard }], guard := some (2, false) }) (v := ?_) rfl (by kernel_rfl) (by kernel_rfl) (by kernel_rfl) (fun _ _ _ h => h) (Or.inl ⟨by rfl, ?_⟩) (by assumption) ?_
        rotate_left
        · intro w' hSw
          (try dsimp only at hSw)
          go_simp <;> with_reducible rfl
        try simp only [Act.put, List.setIfInBounds_toArray, List.set_cons_zero, List.set_cons_succ]
        refine wpAnyH_take (i := 7) (oi := { dst := some 49, op := Op.indexAddr 46 (Operand.tmp 47) (Operand.tmp 48), type := 0, pos := "law.go:431", after := #[{ on := 5, ground := Ground.data }, { on := 6, ground := Ground.data }, { on := 2, ground := Ground.guard }], guard := some (2, false) }) (v := ?_) rfl (by kernel_rfl) (by kernel_rfl) (by kernel_rfl) (fun _ _ _ h => h) (Or.inl ⟨by rfl, ?_⟩) (by assumption) ?_
        rotate_left
        · intro w' hSw
          (try dsimp only at hSw)
          go_simp <;> with_reducible rfl
        try simp only [Act.put, List.setIfInBounds_toArray, List.set_cons_zero, List.set_cons_succ]
        refine wpAnyH_take (i := 8) (oi := { dst := some 50, op := Op.load 3 (Operand.tmp 49), type := 3, pos := "law.go:431", after := #[{ on := 7, ground := Ground.data }, { on := 2, ground := Ground.guard }], guard := some (2, false) }) (v := ?_) rfl (by kernel_rfl) (by kernel_rfl) (by kernel_rfl) (fun _ _ _ h => h) (Or.inl ⟨by rfl, ?_⟩) (by assumption) ?_
        rotate_left
        · intro w' hSw
          (try dsimp only at hSw)
          go_simp <;> with_reducible rfl
        try simp only [Act.put, List.setIfInBounds_toArray, List.set_cons_zero, List.set_cons_succ]
        refine wpAnyH_take (i := 9) (oi := { dst := some 51, op := Op.binOp BinOp.neq 3 (Operand.tmp 46) (Operand.tmp 50) 3, type := 4, pos := "law.go:431", after := #[{ on := 4, ground := Ground.data }, { on := 8, ground := Ground.data }, { on := 2, ground := Ground.guard }], guard := some (2, false) }) (v := ?_) rfl (by kernel_rfl) (by kernel_rfl) (by kernel_rfl) (fun _ _ _ h => h) (Or.inl ⟨by rfl, ?_⟩) (by assumption) ?_
        rotate_left
        · intro w' hSw
          (try dsimp only at hSw)
          go_simp <;> with_reducible rfl
        try simp only [Act.put, List.setIfInBounds_toArray, List.set_cons_zero, List.set_cons_succ]
        refine wpAnyH_take (i := 10) (oi := { dst := some 52, op := Op.pick (Operand.tmp 44) (Operand.const (Value.bool true)) (Operand.tmp 51), type := 4, pos := "law.go:431", after := #[{ on := 2, ground := Ground.data }, { on := 9, ground := Ground.data }], guard := none }) (v := ?_) rfl (by kernel_rfl) (by kernel_rfl) (by kernel_rfl) (fun _ _ _ h => h) (Or.inl ⟨by rfl, ?_⟩) (by assumption) ?_
        rotate_left
        · intro w' hSw
          (try dsimp only at hSw)
          go_simp <;> with_reducible rfl
        try simp only [Act.put, List.setIfInBounds_toArray, List.set_cons_zero, List.set_cons_succ]
        refine wpAnyH_take (i := 11) (oi := { dst := some 53, op := Op.move (Operand.tmp 52), type := 4, pos := "law.go:431", after := #[{ on := 10, ground := Ground.data }, { on := 2, ground := Ground.chain }], guard := none }) (v := ?_) rfl (by kernel_rfl) (by kernel_rfl) (by kernel_rfl) (fun _ _ _ h => h) (Or.inl ⟨by rfl, ?_⟩) (by assumption) ?_
        rotate_left
        · intro w' hSw
          (try dsimp only at hSw)
          go_simp <;> with_reducible rfl
        try simp only [Act.put, List.setIfInBounds_toArray, List.set_cons_zero, List.set_cons_succ]
        refine wpAnyH_take (i := 12) (oi := { dst := some 54, op := Op.fieldAddr 50 (Operand.tmp 5) 1, type := 0, pos := "law.go:431", after := #[{ on := 11, ground := Ground.guard }], guard := some (11, false) }) (v := ?_) rfl (by kernel_rfl) (by kernel_rfl) (by kernel_rfl) (fun _ _ _ h => h) (Or.inl ⟨by rfl, ?_⟩) (by assumption) ?_
        rotate_left
        · intro w' hSw
          (try dsimp only at hSw)
          go_simp <;> with_reducible rfl
        try simp only [Act.put, List.setIfInBounds_toArray, List.set_cons_zero, List.set_cons_succ]
        refine wpAnyH_take (i := 13) (oi := { dst := some 55, op := Op.load 4 (Operand.tmp 54), type := 4, pos := "law.go:431", after := #[{ on := 12, ground := Ground.data }, { on := 11, ground := Ground.guard }], guard := some (11, false) }) (v := ?_) rfl (by kernel_rfl) (by kernel_rfl) (by kernel_rfl) (fun _ _ _ h => h) (Or.inl ⟨by rfl, ?_⟩) (by assumption) ?_
        rotate_left
        · intro w' hSw
          (try dsimp only at hSw)
          go_simp <;> with_reducible rfl
        try simp only [Act.put, List.setIfInBounds_toArray, List.set_cons_zero, List.set_cons_succ]
        refine wpAnyH_take (i := 14) (oi := { dst := some 56, op := Op.move (Operand.tmp 3), type := 47, pos := "law.go:431", after := #[{ on := 11, ground := Ground.guard }], guard := some (11, false) }) (v := ?_) rfl (by kernel_rfl) (by kernel_rfl) (by kernel_rfl) (fun _ _ _ h => h) (Or.inl ⟨by rfl, ?_⟩) (by assumption) ?_
        rotate_left
        · intro w' hSw
          (try dsimp only at hSw)
          go_simp <;> with_reducible rfl
        try simp only [Act.put, List.setIfInBounds_toArray, List.set_cons_zero, List.set_cons_succ]
        refine wpAnyH_take (i := 15) (oi := { dst := some 57, op := Op.move (Operand.tmp 4), type := 3, pos := "law.go:431", after := #[{ on := 11, ground := Ground.guard }], guard := some (11, false) }) (v := ?_) rfl (by kernel_rfl) (by kernel_rfl) (by kernel_rfl) (fun _ _ _ h => h) (Or.inl ⟨by rfl, ?_⟩) (by assumption) ?_
        rotate_left
        · intro w' hSw
          (try dsimp only at hSw)
          go_simp <;> with_reducible rfl
        try simp only [Act.put, List.setIfInBounds_toArray, List.set_cons_zero, List.set_cons_succ]
        refine wpAnyH_take (i := 16) (oi := { dst := some 58, op := Op.indexAddr 47 (Operand.tmp 56) (Operand.tmp 57), type := 0, pos := "law.go:431", after := #[{ on := 14, ground := Ground.data }, { on := 15, ground := Ground.data }, { on := 11, ground := Ground.guard }], guard := some (11, false) }) (v := ?_) rfl (by kernel_rfl) (by kernel_rfl) (by kernel_rfl) (fun _ _ _ h => h) (Or.inl ⟨by rfl, ?_⟩) (by assumption) ?_
        rotate_left
        · intro w' hSw
          (try dsimp only at hSw)
          go_simp <;> with_reducible rfl
        try simp only [Act.put, List.setIfInBounds_toArray, List.set_cons_zero, List.set_cons_succ]
        refine wpAnyH_take (i := 17) (oi := { dst := some 59, op := Op.load 24 (Operand.tmp 58), type := 24, pos := "law.go:431", after := #[{ on := 16, ground := Ground.data }, { on := 11, ground := Ground.guard }], guard := some (11, false) }) (v := ?_) rfl (by kernel_rfl) (by kernel_rfl) (by kernel_rfl) (fun _ _ _ h => h) (Or.inl ⟨by rfl, ?_⟩) (by assumption) ?_
        rotate_left
        · intro w' hSw
          (try dsimp only at hSw)
          go_simp <;> with_reducible rfl
        try simp only [Act.put, List.setIfInBounds_toArray, List.set_cons_zero, List.set_cons_succ]
        refine wpAnyH_take (i := 18) (oi := { dst := some 60, op := Op.binOp BinOp.geq 24 (Operand.tmp 59) (Operand.const (Value.int IntKind.u64 32)) 24, type := 4, pos := "law.go:431", after := #[{ on := 17, ground := Ground.data }, { on := 11, ground := Ground.guard }], guard := some (11, false) }) (v := ?_) rfl (by kernel_rfl) (by kernel_rfl) (by kernel_rfl) (fun _ _ _ h => h) (Or.inl ⟨by rfl, ?_⟩) (by assumption) ?_
        rotate_left
        · intro w' hSw
          (try dsimp only at hSw)
          go_simp <;> with_reducible rfl
        try simp only [Act.put, List.setIfInBounds_toArray, List.set_cons_zero, List.set_cons_succ]
        refine wpAnyH_take (i := 19) (oi := { dst := some 61, op := Op.binOp BinOp.neq 4 (Operand.tmp 55) (Operand.tmp 60) 4, type := 4, pos := "law.go:431", after := #[{ on := 13, ground := Ground.data }, { on := 18, ground := Ground.data }, { on := 11, ground := Ground.guard }], guard := some (11, false) }) (v := ?_) rfl (by kernel_rfl) (by kernel_rfl) (by kernel_rfl) (fun _ _ _ h => h) (Or.inl ⟨by rfl, ?_⟩) (by assumption) ?_
        rotate_left
        · intro w' hSw
          (try dsimp only at hSw)
          go_simp <;> with_reducible rfl
        try simp only [Act.put, List.setIfInBounds_toArray, List.set_cons_zero, List.set_cons_succ]
        refine wpAnyH_take (i := 20) (oi := { dst := some 62, op := Op.pick (Operand.tmp 53) (Operand.const (Value.bool true)) (Operand.tmp 61), type := 4, pos := "law.go:431", after := #[{ on := 11, ground := Ground.data }, { on := 19, ground := Ground.data }], guard := none }) (v := ?_) rfl (by kernel_rfl) (by kernel_rfl) (by kernel_rfl) (fun _ _ _ h => h) (Or.inl ⟨by rfl, ?_⟩) (by assumption) ?_
        rotate_left
        · intro w' hSw
          (try dsimp only at hSw)
          go_simp <;> with_reducible rfl
        try simp only [Act.put, List.setIfInBounds_toArray, List.set_cons_zero, List.set_cons_succ]
        refine wpAnyH_done (by kernel_rfl) ?_ _
        clear HS hHeld
        go_wp2_with fail
        exact ⟨⟨2, by go_num, by omega, hid (HG.out.trans (gx3.out.trans hb0))⟩, by simp [intOf]⟩
    · have hj0 : ((((2 : Nat) : Nat) : Int)) = 2 := rfl
      rw [hj0]
      clear hj0 hj
      go_upto_region 7 with (fail)
      have HS : Hid (∀ w', Ext wr w' → w'.cell? ⟨w1.heap.size, 0, none⟩ = some (.int .i64 3) ∧ w'.cell? ⟨w1.heap.size, 1, none⟩ = some (.int .i64 3) ∧ w'.cell? ⟨w1.heap.size + 1 + 1, 0, none⟩ = some (.int .u64 12) ∧ w'.cell? ⟨w1.heap.size + 1 + 1, 1, none⟩ = some (.int .u64 44) ∧ w'.cell? ⟨w1.heap.size + 1 + 1, 2, none⟩ = some (.int .u64 28) ∧ w'.cell? ⟨w1.heap.size + 1 + 1, 3, none⟩ = some (.int .u64 30) ∧ w'.cell? ⟨w1.heap.size + 1 + 1, 4, none⟩ = some (.int .u64 29) ∧ w'.cell? ⟨w1.heap.size + 1 + 1, 5, none⟩ = some (.int .u64 32)) := hid fun w' h => ⟨(HB_F.out.ext h).cell 0, (HB_F.out.ext h).cell 1, (HB_C.out.ext h).cell 0, (HB_C.out.ext h).cell 1, (HB_C.out.ext h).cell 2, (HB_C.out.ext h).cell 3, (HB_C.out.ext h).cell 4, (HB_C.out.ext h).cell 5⟩
      have hlt_F : w1.heap.size < wr.heap.size := cell_lt HB_F.out
      have hlt_C : w1.heap.size + 1 + 1 < wr.heap.size := cell_lt HB_C.out
      have HSN : Hid (∀ (g : Nat) (v0 v1 v2 : Value) (w' : World), wr.heap.size ≤ g → Ext wr w' → (((w'.setCell ⟨g, 0, none⟩ v0).setCell ⟨g, 1, none⟩ v1).setCell ⟨g, 2, none⟩ v2).cell? ⟨w1.heap.size, 0, none⟩ = some (.int .i64 3) ∧ (((w'.setCell ⟨g, 0, none⟩ v0).setCell ⟨g, 1, none⟩ v1).setCell ⟨g, 2, none⟩ v2).cell? ⟨w1.heap.size, 1, none⟩ = some (.int .i64 3) ∧ (((w'.setCell ⟨g, 0, none⟩ v0).setCell ⟨g, 1, none⟩ v1).setCell ⟨g, 2, none⟩ v2).cell? ⟨w1.heap.size + 1 + 1, 0, none⟩ = some (.int .u64 12) ∧ (((w'.setCell ⟨g, 0, none⟩ v0).setCell ⟨g, 1, none⟩ v1).setCell ⟨g, 2, none⟩ v2).cell? ⟨w1.heap.size + 1 + 1, 1, none⟩ = some (.int .u64 44) ∧ (((w'.setCell ⟨g, 0, none⟩ v0).setCell ⟨g, 1, none⟩ v1).setCell ⟨g, 2, none⟩ v2).cell? ⟨w1.heap.size + 1 + 1, 2, none⟩ = some (.int .u64 28) ∧ (((w'.setCell ⟨g, 0, none⟩ v0).setCell ⟨g, 1, none⟩ v1).setCell ⟨g, 2, none⟩ v2).cell? ⟨w1.heap.size + 1 + 1, 3, none⟩ = some (.int .u64 30) ∧ (((w'.setCell ⟨g, 0, none⟩ v0).setCell ⟨g, 1, none⟩ v1).setCell ⟨g, 2, none⟩ v2).cell? ⟨w1.heap.size + 1 + 1, 4, none⟩ = some (.int .u64 29) ∧ (((w'.setCell ⟨g, 0, none⟩ v0).setCell ⟨g, 1, none⟩ v1).setCell ⟨g, 2, none⟩ v2).cell? ⟨w1.heap.size + 1 + 1, 5, none⟩ = some (.int .u64 32)) := hid fun g v0 v1 v2 w' hg h => ⟨(cell_other (show w1.heap.size ≠ g by omega) (cell_other (show w1.heap.size ≠ g by omega) (cell_other (show w1.heap.size ≠ g by omega) ((HB_F.out.ext h).cell 0)))), (cell_other (show w1.heap.size ≠ g by omega) (cell_other (show w1.heap.size ≠ g by omega) (cell_other (show w1.heap.size ≠ g by omega) ((HB_F.out.ext h).cell 1)))), (cell_other (show w1.heap.size + 1 + 1 ≠ g by omega) (cell_other (show w1.heap.size + 1 + 1 ≠ g by omega) (cell_other (show w1.heap.size + 1 + 1 ≠ g by omega) ((HB_C.out.ext h).cell 0)))), (cell_other (show w1.heap.size + 1 + 1 ≠ g by omega) (cell_other (show w1.heap.size + 1 + 1 ≠ g by omega) (cell_other (show w1.heap.size + 1 + 1 ≠ g by omega) ((HB_C.out.ext h).cell 1)))), (cell_other (show w1.heap.size + 1 + 1 ≠ g by omega) (cell_other (show w1.heap.size + 1 + 1 ≠ g by omega) (cell_other (show w1.heap.size + 1 + 1 ≠ g by omega) ((HB_C.out.ext h).cell 2)))), (cell_other (show w1.heap.size + 1 + 1 ≠ g by omega) (cell_other (show w1.heap.size + 1 + 1 ≠ g by omega) (cell_other (show w1.heap.size + 1 + 1 ≠ g by omega) ((HB_C.out.ext h).cell 3)))), (cell_other (show w1.heap.size + 1 + 1 ≠ g by omega) (cell_other (show w1.heap.size + 1 + 1 ≠ g by omega) (cell_other (show w1.heap.size + 1 + 1 ≠ g by omega) ((HB_C.out.ext h).cell 4)))), (cell_other (show w1.heap.size + 1 + 1 ≠ g by omega) (cell_other (show w1.heap.size + 1 + 1 ≠ g by omega) (cell_other (show w1.heap.size + 1 + 1 ≠ g by omega) ((HB_C.out.ext h).cell 5))))⟩
      clear hlt_F hlt_C
      have hb0 : Ext wr wr.drew := Below.drew (Below.refl _ wr)
      have HNEW := hid newValF
      go_cut [5, 6] (fun sv sm6 wx => sm6 = .int .i64 0 ∧ ∃ g : Nat, sv = .pointer (some ⟨g, 0, none⟩) ∧ Hid (Ext wr wx) ∧ wr.heap.size ≤ g ∧ Box wx g #[.int .i64 3, .bool false, .string S2] 50)
      case first =>
        go_region_held3 (fun w' => w'.cell? ⟨w1.heap.size, 0, none⟩ = some (.int .i64 3) ∧ w'.cell? ⟨w1.heap.size, 1, none⟩ = some (.int .i64 3) ∧ w'.cell? ⟨w1.heap.size + 1 + 1, 0, none⟩ = some (.int .u64 12) ∧ w'.cell? ⟨w1.heap.size + 1 + 1, 1, none⟩ = some (.int .u64 44) ∧ w'.cell? ⟨w1.heap.size + 1 + 1, 2, none⟩ = some (.int .u64 28) ∧ w'.cell? ⟨w1.heap.size + 1 + 1, 3, none⟩ = some (.int .u64 30) ∧ w'.cell? ⟨w1.heap.size + 1 + 1, 4, none⟩ = some (.int .u64 29) ∧ w'.cell? ⟨w1.heap.size + 1 + 1, 5, none⟩ = some (.int .u64 32))
            (first | exact HS.out _ (by assumption) | exact HS.out _ (Ext.trans (by assumption) (Ext.alloc _ _)) | exact HSN.out _ _ _ _ _ (by first | omega | (simp only [World.size_drew]; omega)) (by assumption) | exact HSN.out _ _ _ _ _ (by first | omega | (simp only [World.size_drew]; omega)) (Ext.trans (by assumption) (Ext.alloc _ _)))
          (first
              | (go_at_call 15; (with_reducible refine (CD2.out _ (HT.out.ext (HE.out.trans (by first | exact hb0 | exact (hb0.trans (Ext.alloc _ _)))))).mono ?_); rintro e x1_1 ⟨rfl, g1⟩; have hb1 : Ext wr x1_1 := (by first | exact hb0.trans g1 | exact (hb0.trans (Ext.alloc _ _)).trans g1); have hs1 := hb1.size; (first | (have yy := HNEW.out _ _ (Ext.undrew g1); (try simp only [World.size_drew] at yy); obtain ⟨y0, y1, y2, y3, y4, y5⟩ := yy) | (obtain ⟨y0, y1, y2, y3, y4, y5⟩ := HNEW.out x1_1 _ (Below.refl _ _)))))
        all_goals (go_wp2_with fail; go_meet; first | exact ⟨rfl, _, rfl, newVal0 hb1 _ _ _⟩ | exact ⟨rfl, _, rfl, newVal hb1 (by first | omega | (simp only [World.size_drew]; omega)) ((Box.new _ _ _).ext (Ext.undrew g1)) _ _ _⟩)
      case rest =>
        obtain ⟨rfl, gV, rfl, gx3, hg3, B3⟩ := hcut
        have hz_wc := gx3.out.size
        replace HE := hid (HE.out.trans gx3.out)
        replace HB_F := hid (HB_F.out.ext gx3.out)
        replace HB_K := hid (HB_K.out.ext gx3.out)
        replace HB_C := hid (HB_C.out.ext gx3.out)
        have HB_V := hid B3
        clear B3 HS HSN HNEW
        go_upto_region 8 with (fail)
        have HS : Hid (∀ w', Ext wc w' → w'.cell? ⟨gV, 0, none⟩ = some (.int .i64 3) ∧ w'.cell? ⟨gV, 1, none⟩ = some (.bool false) ∧ w'.cell? ⟨gV, 2, none⟩ = some (.string S2) ∧ w'.cell? ⟨w1.heap.size + 1, 0, none⟩ = some (.int .i64 2) ∧ w'.cell? ⟨w1.heap.size + 1, 1, none⟩ = some (.int .i64 2) ∧ w'.cell? ⟨w1.heap.size + 1, 2, none⟩ = some (.int .i64 3) ∧ w'.cell? ⟨w1.heap.size + 1, 3, none⟩ = some (.int .i64 4) ∧ w'.cell? ⟨w1.heap.size + 1, 4, none⟩ = some (.int .i64 5) ∧ w'.cell? ⟨w1.heap.size + 1, 5, none⟩ = some (.int .i64 1) ∧ w'.cell? ⟨w1.heap.size + 1 + 1, 0, none⟩ = some (.int .u64 12) ∧ w'.cell? ⟨w1.heap.size + 1 + 1, 1, none⟩ = some (.int .u64 44) ∧ w'.cell? ⟨w1.heap.size + 1 + 1, 2, none⟩ = some (.int .u64 28) ∧ w'.cell? ⟨w1.heap.size + 1 + 1, 3, none⟩ = some (.int .u64 30) ∧ w'.cell? ⟨w1.heap.size + 1 + 1, 4, none⟩ = some (.int .u64 29) ∧ w'.cell? ⟨w1.heap.size + 1 + 1, 5, none⟩ = some (.int .u64 32)) := hid fun w' h => ⟨(HB_V.out.ext h).cell 0, (HB_V.out.ext h).cell 1, (HB_V.out.ext h).cell 2, (HB_K.out.ext h).cell 0, (HB_K.out.ext h).cell 1, (HB_K.out.ext h).cell 2, (HB_K.out.ext h).cell 3, (HB_K.out.ext h).cell 4, (HB_K.out.ext h).cell 5, (HB_C.out.ext h).cell 0, (HB_C.out.ext h).cell 1, (HB_C.out.ext h).cell 2, (HB_C.out.ext h).cell 3, (HB_C.out.ext h).cell 4, (HB_C.out.ext h).cell 5⟩
        have hb0 : Ext wc wc.drew := Below.drew (Below.refl _ wc)
        refine wp_region_held_drew (S := fun w' => w'.cell? ⟨gV, 0, none⟩ = some (.int .i64 3) ∧ w'.cell? ⟨gV, 1, none⟩ = some (.bool false) ∧ w'.cell? ⟨gV, 2, none⟩ = some (.string S2) ∧ w'.cell? ⟨w1.heap.size + 1, 0, none⟩ = some (.int .i64 2) ∧ w'.cell? ⟨w1.heap.size + 1, 1, none⟩ = some (.int .i64 2) ∧ w'.cell? ⟨w1.heap.size + 1, 2, none⟩ = some (.int .i64 3) ∧ w'.cell? ⟨w1.heap.size + 1, 3, none⟩ = some (.int .i64 4) ∧ w'.cell? ⟨w1.heap.size + 1, 4, none⟩ = some (.int .i64 5) ∧ w'.cell? ⟨w1.heap.size + 1, 5, none⟩ = some (.int .i64 1) ∧ w'.cell? ⟨w1.heap.size + 1 + 1, 0, none⟩ = some (.int .u64 12) ∧ w'.cell? ⟨w1.heap.size + 1 + 1, 1, none⟩ = some (.int .u64 44) ∧ w'.cell? ⟨w1.heap.size + 1 + 1, 2, none⟩ = some (.int .u64 28) ∧ w'.cell? ⟨w1.heap.size + 1 + 1, 3, none⟩ = some (.int .u64 30) ∧ w'.cell? ⟨w1.heap.size + 1 + 1, 4, none⟩ = some (.int .u64 29) ∧ w'.cell? ⟨w1.heap.size + 1 + 1, 5, none⟩ = some (.int .u64 32)) (by kernel_rfl) (HS.out _ hb0) (fun hHeld => ?_)
        refine wpAnyH_take (i := 0) (oi := { dst := some 42, op := Op.move (Operand.tmp 6), type := 33, pos := "law.go:431", after := #[], guard := none }) (v := ?_) rfl (by kernel_rfl) (by kernel_rfl) (by kernel_rfl) (fun _ _ _ h => h) (Or.inl ⟨by rfl, ?_⟩) (by assumption) ?_
        rotate_left
        · intro w' hSw
          (try dsimp only at hSw)
          go_simp <;> with_reducible rfl
        try simp only [Act.put, List.setIfInBounds_toArray, List.set_cons_zero, List.set_cons_succ]
        refine wpAnyH_take (i := 1) (oi := { dst := some 43, op := Op.binOp BinOp.neq 33 (Operand.tmp 42) (Operand.const (Value.int IntKind.i64 0)) 33, type := 4, pos := "law.go:431", after := #[{ on := 0, ground := Ground.data }], guard := none }) (v := ?_) rfl (by kernel_rfl) (by kernel_rfl) (by kernel_rfl) (fun _ _ _ h => h) (Or.inl ⟨by rfl, ?_⟩) (by assumption) ?_
        rotate_left
        · intro w' hSw
          (try dsimp only at hSw)
          go_simp <;> with_reducible rfl
        try simp only [Act.put, List.setIfInBounds_toArray, List.set_cons_zero, List.set_cons_succ]
        refine wpAnyH_take (i := 2) (oi := { dst := some 44, op := Op.move (Operand.tmp 43), type := 4, pos := "law.go:431", after := #[{ on := 1, ground := Ground.data }], guard := none }) (v := ?_) rfl (by kernel_rfl) (by kernel_rfl) (by kernel_rfl) (fun _ _ _ h => h) (Or.inl ⟨by rfl, ?_⟩) (by assumption) ?_
        rotate_left
        · intro w' hSw
          (try dsimp only at hSw)
          go_simp <;> with_reducible rfl
        try simp only [Act.put, List.setIfInBounds_toArray, List.set_cons_zero, List.set_cons_succ]
        refine wpAnyH_take (i := 3) (oi := { dst := some 45, op := Op.fieldAddr 50 (Operand.tmp 5) 0, type := 0, pos := "law.go:431", after := #[{ on := 2, ground := Ground.guard }], guard := some (2, false) }) (v := ?_) rfl (by kernel_rfl) (by kernel_rfl) (by kernel_rfl) (fun _ _ _ h => h) (Or.inl ⟨by rfl, ?_⟩) (by assumption) ?_
        rotate_left
        · intro w' hSw
          (try dsimp only at hSw)
          go_simp <;> with_reducible rfl
        try simp only [Act.put, List.setIfInBounds_toArray, List.set_cons_zero, List.set_cons_succ]
        refine wpAnyH_take (i := 4) (oi := { dst := some 46, op := Op.load 3 (Operand.tmp 45), type := 3, pos := "law.go:431", after := #[{ on := 3, ground := Ground.data }, { on := 2, ground := Ground.guard }], guard := some (2, false) }) (v := ?_) rfl (by kernel_rfl) (by kernel_rfl) (by kernel_rfl) (fun _ _ _ h => h) (Or.inl ⟨by rfl, ?_⟩) (by assumption) ?_
        rotate_left
        · intro w' hSw
          (try dsimp only at hSw)
          go_simp <;> with_reducible rfl
        try simp only [Act.put, List.setIfInBounds_toArray, List.set_cons_zero, List.set_cons_succ]
        refine wpAnyH_take (i := 5) (oi := { dst := some 47, op := Op.move (Operand.tmp 2), type := 46, pos := "law.go:431", after := #[{ on := 2, ground := Ground.guard }], guard := some (2, false) }) (v := ?_) rfl (by kernel_rfl) (by kernel_rfl) (by kernel_rfl) (fun _ _ _ h => h) (Or.inl ⟨by rfl, ?_⟩) (by assumption) ?_
        rotate_left
        · intro w' hSw
          (try dsimp only at hSw)
          go_simp <;> with_reducible rfl
        try simp only [Act.put, List.setIfInBounds_toArray, List.set_cons_zero, List.set_cons_succ]
        refine wpAnyH_take (i := 6) (oi := { dst := some 48, op := Op.move (Operand.tmp 4), type := 3, pos := "law.go:431", after := #[{ on := 2, ground := Ground.guard }], guard := some (2, false) }) (v := ?_) rfl (by kernel_rfl) (by kernel_rfl) (by kernel_rfl) (fun _ _ _ h => h) (Or.inl ⟨by rfl, ?_⟩) (by assumption) ?_
        rotate_left
        · intro w' hSw
          (try dsimp only at hSw)
          go_simp <;> with_reducible rfl
        try simp only [Act.put, List.setIfInBounds_toArray, List.set_cons_zero, List.set_cons_succ]
        refine wpAnyH_take (i := 7) (oi := { dst := some 49, op := Op.indexAddr 46 (Operand.tmp 47) (Operand.tmp 48), type := 0, pos := "law.go:431", after := #[{ on := 5, ground := Ground.data }, { on := 6, ground := Ground.data }, { on := 2, ground := Ground.guard }], guard := some (2, false) }) (v := ?_) rfl (by kernel_rfl) (by kernel_rfl) (by kernel_rfl) (fun _ _ _ h => h) (Or.inl ⟨by rfl, ?_⟩) (by assumption) ?_
        rotate_left
        · intro w' hSw
          (try dsimp only at hSw)
          go_simp <;> with_reducible rfl
        try simp only [Act.put, List.setIfInBounds_toArray, List.set_cons_zero, List.set_cons_succ]
        refine wpAnyH_take (i := 8) (oi := { dst := some 50, op := Op.load 3 (Operand.tmp 49), type := 3, pos := "law.go:431", after := #[{ on := 7, ground := Ground.data }, { on := 2, ground := Ground.guard }], guard := some (2, false) }) (v := ?_) rfl (by kernel_rfl) (by kernel_rfl) (by kernel_rfl) (fun _ _ _ h => h) (Or.inl ⟨by rfl, ?_⟩) (by assumption) ?_
        rotate_left
        · intro w' hSw
          (try dsimp only at hSw)
          go_simp <;> with_reducible rfl
        try simp only [Act.put, List.setIfInBounds_toArray, List.set_cons_zero, List.set_cons_succ]
        refine wpAnyH_take (i := 9) (oi := { dst := some 51, op := Op.binOp BinOp.neq 3 (Operand.tmp 46) (Operand.tmp 50) 3, type := 4, pos := "law.go:431", after := #[{ on := 4, ground := Ground.data }, { on := 8, ground := Ground.data }, { on := 2, ground := Ground.guard }], guard := some (2, false) }) (v := ?_) rfl (by kernel_rfl) (by kernel_rfl) (by kernel_rfl) (fun _ _ _ h => h) (Or.inl ⟨by rfl, ?_⟩) (by assumption) ?_
        rotate_left
        · intro w' hSw
          (try dsimp only at hSw)
          go_simp <;> with_reducible rfl
        try simp only [Act.put, List.setIfInBounds_toArray, List.set_cons_zero, List.set_cons_succ]
        refine wpAnyH_take (i := 10) (oi := { dst := some 52, op := Op.pick (Operand.tmp 44) (Operand.const (Value.bool true)) (Operand.tmp 51), type := 4, pos := "law.go:431", after := #[{ on := 2, ground := Ground.data }, { on := 9, ground := Ground.data }], guard := none }) (v := ?_) rfl (by kernel_rfl) (by kernel_rfl) (by kernel_rfl) (fun _ _ _ h => h) (Or.inl ⟨by rfl, ?_⟩) (by assumption) ?_
        rotate_left
        · intro w' hSw
          (try dsimp only at hSw)
          go_simp <;> with_reducible rfl
        try simp only [Act.put, List.setIfInBounds_toArray, List.set_cons_zero, List.set_cons_succ]
        refine wpAnyH_take (i := 11) (oi := { dst := some 53, op := Op.move (Operand.tmp 52), type := 4, pos := "law.go:431", after := #[{ on := 10, ground := Ground.data }, { on := 2, ground := Ground.chain }], guard := none }) (v := ?_) rfl (by kernel_rfl) (by kernel_rfl) (by kernel_rfl) (fun _ _ _ h => h) (Or.inl ⟨by rfl, ?_⟩) (by assumption) ?_
        rotate_left
        · intro w' hSw
          (try dsimp only at hSw)
          go_simp <;> with_reducible rfl
        try simp only [Act.put, List.setIfInBounds_toArray, List.set_cons_zero, List.set_cons_succ]
        refine wpAnyH_take (i := 12) (oi := { dst := some 54, op := Op.fieldAddr 50 (Operand.tmp 5) 1, type := 0, pos := "law.go:431", after := #[{ on := 11, ground := Ground.guard }], guard := some (11, false) }) (v := ?_) rfl (by kernel_rfl) (by kernel_rfl) (by kernel_rfl) (fun _ _ _ h => h) (Or.inl ⟨by rfl, ?_⟩) (by assumption) ?_
        rotate_left
        · intro w' hSw
          (try dsimp only at hSw)
          go_simp <;> with_reducible rfl
        try simp only [Act.put, List.setIfInBounds_toArray, List.set_cons_zero, List.set_cons_succ]
        refine wpAnyH_take (i := 13) (oi := { dst := some 55, op := Op.load 4 (Operand.tmp 54), type := 4, pos := "law.go:431", after := #[{ on := 12, ground := Ground.data }, { on := 11, ground := Ground.guard }], guard := some (11, false) }) (v := ?_) rfl (by kernel_rfl) (by kernel_rfl) (by kernel_rfl) (fun _ _ _ h => h) (Or.inl ⟨by rfl, ?_⟩) (by assumption) ?_
        rotate_left
        · intro w' hSw
          (try dsimp only at hSw)
          go_simp <;> with_reducible rfl
        try simp only [Act.put, List.setIfInBounds_toArray, List.set_cons_zero, List.set_cons_succ]
        refine wpAnyH_take (i := 14) (oi := { dst := some 56, op := Op.move (Operand.tmp 3), type := 47, pos := "law.go:431", after := #[{ on := 11, ground := Ground.guard }], guard := some (11, false) }) (v := ?_) rfl (by kernel_rfl) (by kernel_rfl) (by kernel_rfl) (fun _ _ _ h => h) (Or.inl ⟨by rfl, ?_⟩) (by assumption) ?_
        rotate_left
        · intro w' hSw
          (try dsimp only at hSw)
          go_simp <;> with_reducible rfl
        try simp only [Act.put, List.setIfInBounds_toArray, List.set_cons_zero, List.set_cons_succ]
        refine wpAnyH_take (i := 15) (oi := { dst := some 57, op := Op.move (Operand.tmp 4), type := 3, pos := "law.go:431", after := #[{ on := 11, ground := Ground.guard }], guard := some (11, false) }) (v := ?_) rfl (by kernel_rfl) (by kernel_rfl) (by kernel_rfl) (fun _ _ _ h => h) (Or.inl ⟨by rfl, ?_⟩) (by assumption) ?_
        rotate_left
        · intro w' hSw
          (try dsimp only at hSw)
          go_simp <;> with_reducible rfl
        try simp only [Act.put, List.setIfInBounds_toArray, List.set_cons_zero, List.set_cons_succ]
        refine wpAnyH_take (i := 16) (oi := { dst := some 58, op := Op.indexAddr 47 (Operand.tmp 56) (Operand.tmp 57), type := 0, pos := "law.go:431", after := #[{ on := 14, ground := Ground.data }, { on := 15, ground := Ground.data }, { on := 11, ground := Ground.guard }], guard := some (11, false) }) (v := ?_) rfl (by kernel_rfl) (by kernel_rfl) (by kernel_rfl) (fun _ _ _ h => h) (Or.inl ⟨by rfl, ?_⟩) (by assumption) ?_
        rotate_left
        · intro w' hSw
          (try dsimp only at hSw)
          go_simp <;> with_reducible rfl
        try simp only [Act.put, List.setIfInBounds_toArray, List.set_cons_zero, List.set_cons_succ]
        refine wpAnyH_take (i := 17) (oi := { dst := some 59, op := Op.load 24 (Operand.tmp 58), type := 24, pos := "law.go:431", after := #[{ on := 16, ground := Ground.data }, { on := 11, ground := Ground.guard }], guard := some (11, false) }) (v := ?_) rfl (by kernel_rfl) (by kernel_rfl) (by kernel_rfl) (fun _ _ _ h => h) (Or.inl ⟨by rfl, ?_⟩) (by assumption) ?_
        rotate_left
        · intro w' hSw
          (try dsimp only at hSw)
          go_simp <;> with_reducible rfl
        try simp only [Act.put, List.setIfInBounds_toArray, List.set_cons_zero, List.set_cons_succ]
        refine wpAnyH_take (i := 18) (oi := { dst := some 60, op := Op.binOp BinOp.geq 24 (Operand.tmp 59) (Operand.const (Value.int IntKind.u64 32)) 24, type := 4, pos := "law.go:431", after := #[{ on := 17, ground := Ground.data }, { on := 11, ground := Ground.guard }], guard := some (11, false) }) (v := ?_) rfl (by kernel_rfl) (by kernel_rfl) (by kernel_rfl) (fun _ _ _ h => h) (Or.inl ⟨by rfl, ?_⟩) (by assumption) ?_
        rotate_left
        · intro w' hSw
          (try dsimp only at hSw)
          go_simp <;> with_reducible rfl
        try simp only [Act.put, List.setIfInBounds_toArray, List.set_cons_zero, List.set_cons_succ]
        refine wpAnyH_take (i := 19) (oi := { dst := some 61, op := Op.binOp BinOp.neq 4 (Operand.tmp 55) (Operand.tmp 60) 4, type := 4, pos := "law.go:431", after := #[{ on := 13, ground := Ground.data }, { on := 18, ground := Ground.data }, { on := 11, ground := Ground.guard }], guard := some (11, false) }) (v := ?_) rfl (by kernel_rfl) (by kernel_rfl) (by kernel_rfl) (fun _ _ _ h => h) (Or.inl ⟨by rfl, ?_⟩) (by assumption) ?_
        rotate_left
        · intro w' hSw
          (try dsimp only at hSw)
          go_simp <;> with_reducible rfl
        try simp only [Act.put, List.setIfInBounds_toArray, List.set_cons_zero, List.set_cons_succ]
        refine wpAnyH_take (i := 20) (oi := { dst := some 62, op := Op.pick (Operand.tmp 53) (Operand.const (Value.bool true)) (Operand.tmp 61), type := 4, pos := "law.go:431", after := #[{ on := 11, ground := Ground.data }, { on := 19, ground := Ground.data }], guard := none }) (v := ?_) rfl (by kernel_rfl) (by kernel_rfl) (by kernel_rfl) (fun _ _ _ h => h) (Or.inl ⟨by rfl, ?_⟩) (by assumption) ?_
        rotate_left
        · intro w' hSw
          (try dsimp only at hSw)
          go_simp <;> with_reducible rfl
        try simp only [Act.put, List.setIfInBounds_toArray, List.set_cons_zero, List.set_cons_succ]
        refine wpAnyH_done (by kernel_rfl) ?_ _
        clear HS hHeld
        go_wp2_with fail
        exact ⟨⟨3, by go_num, by omega, hid (HG.out.trans (gx3.out.trans hb0))⟩, by simp [intOf]⟩
    · have hj0 : ((((3 : Nat) : Nat) : Int)) = 3 := rfl
      rw [hj0]
      clear hj0 hj
      go_upto_region 7 with (fail)
      have HS : Hid (∀ w', Ext wr w' → w'.cell? ⟨w1.heap.size, 0, none⟩ = some (.int .i64 3) ∧ w'.cell? ⟨w1.heap.size, 1, none⟩ = some (.int .i64 3) ∧ w'.cell? ⟨w1.heap.size + 1 + 1, 0, none⟩ = some (.int .u64 12) ∧ w'.cell? ⟨w1.heap.size + 1 + 1, 1, none⟩ = some (.int .u64 44) ∧ w'.cell? ⟨w1.heap.size + 1 + 1, 2, none⟩ = some (.int .u64 28) ∧ w'.cell? ⟨w1.heap.size + 1 + 1, 3, none⟩ = some (.int .u64 30) ∧ w'.cell? ⟨w1.heap.size + 1 + 1, 4, none⟩ = some (.int .u64 29) ∧ w'.cell? ⟨w1.heap.size + 1 + 1, 5, none⟩ = some (.int .u64 32)) := hid fun w' h => ⟨(HB_F.out.ext h).cell 0, (HB_F.out.ext h).cell 1, (HB_C.out.ext h).cell 0, (HB_C.out.ext h).cell 1, (HB_C.out.ext h).cell 2, (HB_C.out.ext h).cell 3, (HB_C.out.ext h).cell 4, (HB_C.out.ext h).cell 5⟩
      have hlt_F : w1.heap.size < wr.heap.size := cell_lt HB_F.out
      have hlt_C : w1.heap.size + 1 + 1 < wr.heap.size := cell_lt HB_C.out
      have HSN : Hid (∀ (g : Nat) (v0 v1 v2 : Value) (w' : World), wr.heap.size ≤ g → Ext wr w' → (((w'.setCell ⟨g, 0, none⟩ v0).setCell ⟨g, 1, none⟩ v1).setCell ⟨g, 2, none⟩ v2).cell? ⟨w1.heap.size, 0, none⟩ = some (.int .i64 3) ∧ (((w'.setCell ⟨g, 0, none⟩ v0).setCell ⟨g, 1, none⟩ v1).setCell ⟨g, 2, none⟩ v2).cell? ⟨w1.heap.size, 1, none⟩ = some (.int .i64 3) ∧ (((w'.setCell ⟨g, 0, none⟩ v0).setCell ⟨g, 1, none⟩ v1).setCell ⟨g, 2, none⟩ v2).cell? ⟨w1.heap.size + 1 + 1, 0, none⟩ = some (.int .u64 12) ∧ (((w'.setCell ⟨g, 0, none⟩ v0).setCell ⟨g, 1, none⟩ v1).setCell ⟨g, 2, none⟩ v2).cell? ⟨w1.heap.size + 1 + 1, 1, none⟩ = some (.int .u64 44) ∧ (((w'.setCell ⟨g, 0, none⟩ v0).setCell ⟨g, 1, none⟩ v1).setCell ⟨g, 2, none⟩ v2).cell? ⟨w1.heap.size + 1 + 1, 2, none⟩ = some (.int .u64 28) ∧ (((w'.setCell ⟨g, 0, none⟩ v0).setCell ⟨g, 1, none⟩ v1).setCell ⟨g, 2, none⟩ v2).cell? ⟨w1.heap.size + 1 + 1, 3, none⟩ = some (.int .u64 30) ∧ (((w'.setCell ⟨g, 0, none⟩ v0).setCell ⟨g, 1, none⟩ v1).setCell ⟨g, 2, none⟩ v2).cell? ⟨w1.heap.size + 1 + 1, 4, none⟩ = some (.int .u64 29) ∧ (((w'.setCell ⟨g, 0, none⟩ v0).setCell ⟨g, 1, none⟩ v1).setCell ⟨g, 2, none⟩ v2).cell? ⟨w1.heap.size + 1 + 1, 5, none⟩ = some (.int .u64 32)) := hid fun g v0 v1 v2 w' hg h => ⟨(cell_other (show w1.heap.size ≠ g by omega) (cell_other (show w1.heap.size ≠ g by omega) (cell_other (show w1.heap.size ≠ g by omega) ((HB_F.out.ext h).cell 0)))), (cell_other (show w1.heap.size ≠ g by omega) (cell_other (show w1.heap.size ≠ g by omega) (cell_other (show w1.heap.size ≠ g by omega) ((HB_F.out.ext h).cell 1)))), (cell_other (show w1.heap.size + 1 + 1 ≠ g by omega) (cell_other (show w1.heap.size + 1 + 1 ≠ g by omega) (cell_other (show w1.heap.size + 1 + 1 ≠ g by omega) ((HB_C.out.ext h).cell 0)))), (cell_other (show w1.heap.size + 1 + 1 ≠ g by omega) (cell_other (show w1.heap.size + 1 + 1 ≠ g by omega) (cell_other (show w1.heap.size + 1 + 1 ≠ g by omega) ((HB_C.out.ext h).cell 1)))), (cell_other (show w1.heap.size + 1 + 1 ≠ g by omega) (cell_other (show w1.heap.size + 1 + 1 ≠ g by omega) (cell_other (show w1.heap.size + 1 + 1 ≠ g by omega) ((HB_C.out.ext h).cell 2)))), (cell_other (show w1.heap.size + 1 + 1 ≠ g by omega) (cell_other (show w1.heap.size + 1 + 1 ≠ g by omega) (cell_other (show w1.heap.size + 1 + 1 ≠ g by omega) ((HB_C.out.ext h).cell 3)))), (cell_other (show w1.heap.size + 1 + 1 ≠ g by omega) (cell_other (show w1.heap.size + 1 + 1 ≠ g by omega) (cell_other (show w1.heap.size + 1 + 1 ≠ g by omega) ((HB_C.out.ext h).cell 4)))), (cell_other (show w1.heap.size + 1 + 1 ≠ g by omega) (cell_other (show w1.heap.size + 1 + 1 ≠ g by omega) (cell_other (show w1.heap.size + 1 + 1 ≠ g by omega) ((HB_C.out.ext h).cell 5))))⟩
      clear hlt_F hlt_C
      have hb0 : Ext wr wr.drew := Below.drew (Below.refl _ wr)
      have HNEW := hid newValF
      go_cut [5, 6] (fun sv sm6 wx => sm6 = .int .i64 0 ∧ ∃ g : Nat, sv = .pointer (some ⟨g, 0, none⟩) ∧ Hid (Ext wr wx) ∧ wr.heap.size ≤ g ∧ Box wx g #[.int .i64 4, .bool false, .string S3] 50)
      case first =>
        go_region_held3 (fun w' => w'.cell? ⟨w1.heap.size, 0, none⟩ = some (.int .i64 3) ∧ w'.cell? ⟨w1.heap.size, 1, none⟩ = some (.int .i64 3) ∧ w'.cell? ⟨w1.heap.size + 1 + 1, 0, none⟩ = some (.int .u64 12) ∧ w'.cell? ⟨w1.heap.size + 1 + 1, 1, none⟩ = some (.int .u64 44) ∧ w'.cell? ⟨w1.heap.size + 1 + 1, 2, none⟩ = some (.int .u64 28) ∧ w'.cell? ⟨w1.heap.size + 1 + 1, 3, none⟩ = some (.int .u64 30) ∧ w'.cell? ⟨w1.heap.size + 1 + 1, 4, none⟩ = some (.int .u64 29) ∧ w'.cell? ⟨w1.heap.size + 1 + 1, 5, none⟩ = some (.int .u64 32))
            (first | exact HS.out _ (by assumption) | exact HS.out _ (Ext.trans (by assumption) (Ext.alloc _ _)) | exact HSN.out _ _ _ _ _ (by first | omega | (simp only [World.size_drew]; omega)) (by assumption) | exact HSN.out _ _ _ _ _ (by first | omega | (simp only [World.size_drew]; omega)) (Ext.trans (by assumption) (Ext.alloc _ _)))
          (first
              | (go_at_call 15; (with_reducible refine (CD3.out _ (HT.out.ext (HE.out.trans (by first | exact hb0 | exact (hb0.trans (Ext.alloc _ _)))))).mono ?_); rintro e x1_1 ⟨rfl, g1⟩; have hb1 : Ext wr x1_1 := (by first | exact hb0.trans g1 | exact (hb0.trans (Ext.alloc _ _)).trans g1); have hs1 := hb1.size; (first | (have yy := HNEW.out _ _ (Ext.undrew g1); (try simp only [World.size_drew] at yy); obtain ⟨y0, y1, y2, y3, y4, y5⟩ := yy) | (obtain ⟨y0, y1, y2, y3, y4, y5⟩ := HNEW.out x1_1 _ (Below.refl _ _)))))
        all_goals (go_wp2_with fail; go_meet; first | exact ⟨rfl, _, rfl, newVal0 hb1 _ _ _⟩ | exact ⟨rfl, _, rfl, newVal hb1 (by first | omega | (simp only [World.size_drew]; omega)) ((Box.new _ _ _).ext (Ext.undrew g1)) _ _ _⟩)
      case rest =>
        obtain ⟨rfl, gV, rfl, gx3, hg3, B3⟩ := hcut
        have hz_wc := gx3.out.size
        replace HE := hid (HE.out.trans gx3.out)
        replace HB_F := hid (HB_F.out.ext gx3.out)
        replace HB_K := hid (HB_K.out.ext gx3.out)
        replace HB_C := hid (HB_C.out.ext gx3.out)
        have HB_V := hid B3
        clear B3 HS HSN HNEW
        go_upto_region 8 with (fail)
        have HS : Hid (∀ w', Ext wc w' → w'.cell? ⟨gV, 0, none⟩ = some (.int .i64 4) ∧ w'.cell? ⟨gV, 1, none⟩ = some (.bool false) ∧ w'.cell? ⟨gV, 2, none⟩ = some (.string S3) ∧ w'.cell? ⟨w1.heap.size + 1, 0, none⟩ = some (.int .i64 2) ∧ w'.cell? ⟨w1.heap.size + 1, 1, none⟩ = some (.int .i64 2) ∧ w'.cell? ⟨w1.heap.size + 1, 2, none⟩ = some (.int .i64 3) ∧ w'.cell? ⟨w1.heap.size + 1, 3, none⟩ = some (.int .i64 4) ∧ w'.cell? ⟨w1.heap.size + 1, 4, none⟩ = some (.int .i64 5) ∧ w'.cell? ⟨w1.heap.size + 1, 5, none⟩ = some (.int .i64 1) ∧ w'.cell? ⟨w1.heap.size + 1 + 1, 0, none⟩ = some (.int .u64 12) ∧ w'.cell? ⟨w1.heap.size + 1 + 1, 1, none⟩ = some (.int .u64 44) ∧ w'.cell? ⟨w1.heap.size + 1 + 1, 2, none⟩ = some (.int .u64 28) ∧ w'.cell? ⟨w1.heap.size + 1 + 1, 3, none⟩ = some (.int .u64 30) ∧ w'.cell? ⟨w1.heap.size + 1 + 1, 4, none⟩ = some (.int .u64 29) ∧ w'.cell? ⟨w1.heap.size + 1 + 1, 5, none⟩ = some (.int .u64 32)) := hid fun w' h => ⟨(HB_V.out.ext h).cell 0, (HB_V.out.ext h).cell 1, (HB_V.out.ext h).cell 2, (HB_K.out.ext h).cell 0, (HB_K.out.ext h).cell 1, (HB_K.out.ext h).cell 2, (HB_K.out.ext h).cell 3, (HB_K.out.ext h).cell 4, (HB_K.out.ext h).cell 5, (HB_C.out.ext h).cell 0, (HB_C.out.ext h).cell 1, (HB_C.out.ext h).cell 2, (HB_C.out.ext h).cell 3, (HB_C.out.ext h).cell 4, (HB_C.out.ext h).cell 5⟩
        have hb0 : Ext wc wc.drew := Below.drew (Below.refl _ wc)
        refine wp_region_held_drew (S := fun w' => w'.cell? ⟨gV, 0, none⟩ = some (.int .i64 4) ∧ w'.cell? ⟨gV, 1, none⟩ = some (.bool false) ∧ w'.cell? ⟨gV, 2, none⟩ = some (.string S3) ∧ w'.cell? ⟨w1.heap.size + 1, 0, none⟩ = some (.int .i64 2) ∧ w'.cell? ⟨w1.heap.size + 1, 1, none⟩ = some (.int .i64 2) ∧ w'.cell? ⟨w1.heap.size + 1, 2, none⟩ = some (.int .i64 3) ∧ w'.cell? ⟨w1.heap.size + 1, 3, none⟩ = some (.int .i64 4) ∧ w'.cell? ⟨w1.heap.size + 1, 4, none⟩ = some (.int .i64 5) ∧ w'.cell? ⟨w1.heap.size + 1, 5, none⟩ = some (.int .i64 1) ∧ w'.cell? ⟨w1.heap.size + 1 + 1, 0, none⟩ = some (.int .u64 12) ∧ w'.cell? ⟨w1.heap.size + 1 + 1, 1, none⟩ = some (.int .u64 44) ∧ w'.cell? ⟨w1.heap.size + 1 + 1, 2, none⟩ = some (.int .u64 28) ∧ w'.cell? ⟨w1.heap.size + 1 + 1, 3, none⟩ = some (.int .u64 30) ∧ w'.cell? ⟨w1.heap.size + 1 + 1, 4, none⟩ = some (.int .u64 29) ∧ w'.cell? ⟨w1.heap.size + 1 + 1, 5, none⟩ = some (.int .u64 32)) (by kernel_rfl) (HS.out _ hb0) (fun hHeld => ?_)
        refine wpAnyH_take (i := 0) (oi := { dst := some 42, op := Op.move (Operand.tmp 6), type := 33, pos := "law.go:431", after := #[], guard := none }) (v := ?_) rfl (by kernel_rfl) (by kernel_rfl) (by kernel_rfl) (fun _ _ _ h => h) (Or.inl ⟨by rfl, ?_⟩) (by assumption) ?_
        rotate_left
        · intro w' hSw
          (try dsimp only at hSw)
          go_simp <;> with_reducible rfl
        try simp only [Act.put, List.setIfInBounds_toArray, List.set_cons_zero, List.set_cons_succ]
        refine wpAnyH_take (i := 1) (oi := { dst := some 43, op := Op.binOp BinOp.neq 33 (Operand.tmp 42) (Operand.const (Value.int IntKind.i64 0)) 33, type := 4, pos := "law.go:431", after := #[{ on := 0, ground := Ground.data }], guard := none }) (v := ?_) rfl (by kernel_rfl) (by kernel_rfl) (by kernel_rfl) (fun _ _ _ h => h) (Or.inl ⟨by rfl, ?_⟩) (by assumption) ?_
        rotate_left
        · intro w' hSw
          (try dsimp only at hSw)
          go_simp <;> with_reducible rfl
        try simp only [Act.put, List.setIfInBounds_toArray, List.set_cons_zero, List.set_cons_succ]
        refine wpAnyH_take (i := 2) (oi := { dst := some 44, op := Op.move (Operand.tmp 43), type := 4, pos := "law.go:431", after := #[{ on := 1, ground := Ground.data }], guard := none }) (v := ?_) rfl (by kernel_rfl) (by kernel_rfl) (by kernel_rfl) (fun _ _ _ h => h) (Or.inl ⟨by rfl, ?_⟩) (by assumption) ?_
        rotate_left
        · intro w' hSw
          (try dsimp only at hSw)
          go_simp <;> with_reducible rfl
        try simp only [Act.put, List.setIfInBounds_toArray, List.set_cons_zero, List.set_cons_succ]
        refine wpAnyH_take (i := 3) (oi := { dst := some 45, op := Op.fieldAddr 50 (Operand.tmp 5) 0, type := 0, pos := "law.go:431", after := #[{ on := 2, ground := Ground.guard }], guard := some (2, false) }) (v := ?_) rfl (by kernel_rfl) (by kernel_rfl) (by kernel_rfl) (fun _ _ _ h => h) (Or.inl ⟨by rfl, ?_⟩) (by assumption) ?_
        rotate_left
        · intro w' hSw
          (try dsimp only at hSw)
          go_simp <;> with_reducible rfl
        try simp only [Act.put, List.setIfInBounds_toArray, List.set_cons_zero, List.set_cons_succ]
        refine wpAnyH_take (i := 4) (oi := { dst := some 46, op := Op.load 3 (Operand.tmp 45), type := 3, pos := "law.go:431", after := #[{ on := 3, ground := Ground.data }, { on := 2, ground := Ground.guard }], guard := some (2, false) }) (v := ?_) rfl (by kernel_rfl) (by kernel_rfl) (by kernel_rfl) (fun _ _ _ h => h) (Or.inl ⟨by rfl, ?_⟩) (by assumption) ?_
        rotate_left
        · intro w' hSw
          (try dsimp only at hSw)
          go_simp <;> with_reducible rfl
        try simp only [Act.put, List.setIfInBounds_toArray, List.set_cons_zero, List.set_cons_succ]
        refine wpAnyH_take (i := 5) (oi := { dst := some 47, op := Op.move (Operand.tmp 2), type := 46, pos := "law.go:431", after := #[{ on := 2, ground := Ground.guard }], guard := some (2, false) }) (v := ?_) rfl (by kernel_rfl) (by kernel_rfl) (by kernel_rfl) (fun _ _ _ h => h) (Or.inl ⟨by rfl, ?_⟩) (by assumption) ?_
        rotate_left
        · intro w' hSw
          (try dsimp only at hSw)
          go_simp <;> with_reducible rfl
        try simp only [Act.put, List.setIfInBounds_toArray, List.set_cons_zero, List.set_cons_succ]
        refine wpAnyH_take (i := 6) (oi := { dst := some 48, op := Op.move (Operand.tmp 4), type := 3, pos := "law.go:431", after := #[{ on := 2, ground := Ground.guard }], guard := some (2, false) }) (v := ?_) rfl (by kernel_rfl) (by kernel_rfl) (by kernel_rfl) (fun _ _ _ h => h) (Or.inl ⟨by rfl, ?_⟩) (by assumption) ?_
        rotate_left
        · intro w' hSw
          (try dsimp only at hSw)
          go_simp <;> with_reducible rfl
        try simp only [Act.put, List.setIfInBounds_toArray, List.set_cons_zero, List.set_cons_succ]
        refine wpAnyH_take (i := 7) (oi := { dst := some 49, op := Op.indexAddr 46 (Operand.tmp 47) (Operand.tmp 48), type := 0, pos := "law.go:431", after := #[{ on := 5, ground := Ground.data }, { on := 6, ground := Ground.data }, { on := 2, ground := Ground.guard }], guard := some (2, false) }) (v := ?_) rfl (by kernel_rfl) (by kernel_rfl) (by kernel_rfl) (fun _ _ _ h => h) (Or.inl ⟨by rfl, ?_⟩) (by assumption) ?_
        rotate_left
        · intro w' hSw
          (try dsimp only at hSw)
          go_simp <;> with_reducible rfl
        try simp only [Act.put, List.setIfInBounds_toArray, List.set_cons_zero, List.set_cons_succ]
        refine wpAnyH_take (i := 8) (oi := { dst := some 50, op := Op.load 3 (Operand.tmp 49), type := 3, pos := "law.go:431", after := #[{ on := 7, ground := Ground.data }, { on := 2, ground := Ground.guard }], guard := some (2, false) }) (v := ?_) rfl (by kernel_rfl) (by kernel_rfl) (by kernel_rfl) (fun _ _ _ h => h) (Or.inl ⟨by rfl, ?_⟩) (by assumption) ?_
        rotate_left
        · intro w' hSw
          (try dsimp only at hSw)
          go_simp <;> with_reducible rfl
        try simp only [Act.put, List.setIfInBounds_toArray, List.set_cons_zero, List.set_cons_succ]
        refine wpAnyH_take (i := 9) (oi := { dst := some 51, op := Op.binOp BinOp.neq 3 (Operand.tmp 46) (Operand.tmp 50) 3, type := 4, pos := "law.go:431", after := #[{ on := 4, ground := Ground.data }, { on := 8, ground := Ground.data }, { on := 2, ground := Ground.guard }], guard := some (2, false) }) (v := ?_) rfl (by kernel_rfl) (by kernel_rfl) (by kernel_rfl) (fun _ _ _ h => h) (Or.inl ⟨by rfl, ?_⟩) (by assumption) ?_
        rotate_left
        · intro w' hSw
          (try dsimp only at hSw)
          go_simp <;> with_reducible rfl
        try simp only [Act.put, List.setIfInBounds_toArray, List.set_cons_zero, List.set_cons_succ]
        refine wpAnyH_take (i := 10) (oi := { dst := some 52, op := Op.pick (Operand.tmp 44) (Operand.const (Value.bool true)) (Operand.tmp 51), type := 4, pos := "law.go:431", after := #[{ on := 2, ground := Ground.data }, { on := 9, ground := Ground.data }], guard := none }) (v := ?_) rfl (by kernel_rfl) (by kernel_rfl) (by kernel_rfl) (fun _ _ _ h => h) (Or.inl ⟨by rfl, ?_⟩) (by assumption) ?_
        rotate_left
        · intro w' hSw
          (try dsimp only at hSw)
          go_simp <;> with_reducible rfl
        try simp only [Act.put, List.setIfInBounds_toArray, List.set_cons_zero, List.set_cons_succ]
        refine wpAnyH_take (i := 11) (oi := { dst := some 53, op := Op.move (Operand.tmp 52), type := 4, pos := "law.go:431", after := #[{ on := 10, ground := Ground.data }, { on := 2, ground := Ground.chain }], guard := none }) (v := ?_) rfl (by kernel_rfl) (by kernel_rfl) (by kernel_rfl) (fun _ _ _ h => h) (Or.inl ⟨by rfl, ?_⟩) (by assumption) ?_
        rotate_left
        · intro w' hSw
          (try dsimp only at hSw)
          go_simp <;> with_reducible rfl
        try simp only [Act.put, List.setIfInBounds_toArray, List.set_cons_zero, List.set_cons_succ]
        refine wpAnyH_take (i := 12) (oi := { dst := some 54, op := Op.fieldAddr 50 (Operand.tmp 5) 1, type := 0, pos := "law.go:431", after := #[{ on := 11, ground := Ground.guard }], guard := some (11, false) }) (v := ?_) rfl (by kernel_rfl) (by kernel_rfl) (by kernel_rfl) (fun _ _ _ h => h) (Or.inl ⟨by rfl, ?_⟩) (by assumption) ?_
        rotate_left
        · intro w' hSw
          (try dsimp only at hSw)
          go_simp <;> with_reducible rfl
        try simp only [Act.put, List.setIfInBounds_toArray, List.set_cons_zero, List.set_cons_succ]
        refine wpAnyH_take (i := 13) (oi := { dst := some 55, op := Op.load 4 (Operand.tmp 54), type := 4, pos := "law.go:431", after := #[{ on := 12, ground := Ground.data }, { on := 11, ground := Ground.guard }], guard := some (11, false) }) (v := ?_) rfl (by kernel_rfl) (by kernel_rfl) (by kernel_rfl) (fun _ _ _ h => h) (Or.inl ⟨by rfl, ?_⟩) (by assumption) ?_
        rotate_left
        · intro w' hSw
          (try dsimp only at hSw)
          go_simp <;> with_reducible rfl
        try simp only [Act.put, List.setIfInBounds_toArray, List.set_cons_zero, List.set_cons_succ]
        refine wpAnyH_take (i := 14) (oi := { dst := some 56, op := Op.move (Operand.tmp 3), type := 47, pos := "law.go:431", after := #[{ on := 11, ground := Ground.guard }], guard := some (11, false) }) (v := ?_) rfl (by kernel_rfl) (by kernel_rfl) (by kernel_rfl) (fun _ _ _ h => h) (Or.inl ⟨by rfl, ?_⟩) (by assumption) ?_
        rotate_left
        · intro w' hSw
          (try dsimp only at hSw)
          go_simp <;> with_reducible rfl
        try simp only [Act.put, List.setIfInBounds_toArray, List.set_cons_zero, List.set_cons_succ]
        refine wpAnyH_take (i := 15) (oi := { dst := some 57, op := Op.move (Operand.tmp 4), type := 3, pos := "law.go:431", after := #[{ on := 11, ground := Ground.guard }], guard := some (11, false) }) (v := ?_) rfl (by kernel_rfl) (by kernel_rfl) (by kernel_rfl) (fun _ _ _ h => h) (Or.inl ⟨by rfl, ?_⟩) (by assumption) ?_
        rotate_left
        · intro w' hSw
          (try dsimp only at hSw)
          go_simp <;> with_reducible rfl
        try simp only [Act.put, List.setIfInBounds_toArray, List.set_cons_zero, List.set_cons_succ]
        refine wpAnyH_take (i := 16) (oi := { dst := some 58, op := Op.indexAddr 47 (Operand.tmp 56) (Operand.tmp 57), type := 0, pos := "law.go:431", after := #[{ on := 14, ground := Ground.data }, { on := 15, ground := Ground.data }, { on := 11, ground := Ground.guard }], guard := some (11, false) }) (v := ?_) rfl (by kernel_rfl) (by kernel_rfl) (by kernel_rfl) (fun _ _ _ h => h) (Or.inl ⟨by rfl, ?_⟩) (by assumption) ?_
        rotate_left
        · intro w' hSw
          (try dsimp only at hSw)
          go_simp <;> with_reducible rfl
        try simp only [Act.put, List.setIfInBounds_toArray, List.set_cons_zero, List.set_cons_succ]
        refine wpAnyH_take (i := 17) (oi := { dst := some 59, op := Op.load 24 (Operand.tmp 58), type := 24, pos := "law.go:431", after := #[{ on := 16, ground := Ground.data }, { on := 11, ground := Ground.guard }], guard := some (11, false) }) (v := ?_) rfl (by kernel_rfl) (by kernel_rfl) (by kernel_rfl) (fun _ _ _ h => h) (Or.inl ⟨by rfl, ?_⟩) (by assumption) ?_
        rotate_left
        · intro w' hSw
          (try dsimp only at hSw)
          go_simp <;> with_reducible rfl
        try simp only [Act.put, List.setIfInBounds_toArray, List.set_cons_zero, List.set_cons_succ]
        refine wpAnyH_take (i := 18) (oi := { dst := some 60, op := Op.binOp BinOp.geq 24 (Operand.tmp 59) (Operand.const (Value.int IntKind.u64 32)) 24, type := 4, pos := "law.go:431", after := #[{ on := 17, ground := Ground.data }, { on := 11, ground := Ground.guard }], guard := some (11, false) }) (v := ?_) rfl (by kernel_rfl) (by kernel_rfl) (by kernel_rfl) (fun _ _ _ h => h) (Or.inl ⟨by rfl, ?_⟩) (by assumption) ?_
        rotate_left
        · intro w' hSw
          (try dsimp only at hSw)
          go_simp <;> with_reducible rfl
        try simp only [Act.put, List.setIfInBounds_toArray, List.set_cons_zero, List.set_cons_succ]
        refine wpAnyH_take (i := 19) (oi := { dst := some 61, op := Op.binOp BinOp.neq 4 (Operand.tmp 55) (Operand.tmp 60) 4, type := 4, pos := "law.go:431", after := #[{ on := 13, ground := Ground.data }, { on := 18, ground := Ground.data }, { on := 11, ground := Ground.guard }], guard := some (11, false) }) (v := ?_) rfl (by kernel_rfl) (by kernel_rfl) (by kernel_rfl) (fun _ _ _ h => h) (Or.inl ⟨by rfl, ?_⟩) (by assumption) ?_
        rotate_left
        · intro w' hSw
          (try dsimp only at hSw)
          go_simp <;> with_reducible rfl
        try simp only [Act.put, List.setIfInBounds_toArray, List.set_cons_zero, List.set_cons_succ]
        refine wpAnyH_take (i := 20) (oi := { dst := some 62, op := Op.pick (Operand.tmp 53) (Operand.const (Value.bool true)) (Operand.tmp 61), type := 4, pos := "law.go:431", after := #[{ on := 11, ground := Ground.data }, { on := 19, ground := Ground.data }], guard := none }) (v := ?_) rfl (by kernel_rfl) (by kernel_rfl) (by kernel_rfl) (fun _ _ _ h => h) (Or.inl ⟨by rfl, ?_⟩) (by assumption) ?_
        rotate_left
        · intro w' hSw
          (try dsimp only at hSw)
          go_simp <;> with_reducible rfl
        try simp only [Act.put, List.setIfInBounds_toArray, List.set_cons_zero, List.set_cons_succ]
        refine wpAnyH_done (by kernel_rfl) ?_ _
        clear HS hHeld
        go_wp2_with fail
        exact ⟨⟨4, by go_num, by omega, hid (HG.out.trans (gx3.out.trans hb0))⟩, by simp [intOf]⟩
    · have hj0 : ((((4 : Nat) : Nat) : Int)) = 4 := rfl
      rw [hj0]
      clear hj0 hj
      go_upto_region 7 with (fail)
      have HS : Hid (∀ w', Ext wr w' → w'.cell? ⟨w1.heap.size, 0, none⟩ = some (.int .i64 3) ∧ w'.cell? ⟨w1.heap.size, 1, none⟩ = some (.int .i64 3) ∧ w'.cell? ⟨w1.heap.size + 1 + 1, 0, none⟩ = some (.int .u64 12) ∧ w'.cell? ⟨w1.heap.size + 1 + 1, 1, none⟩ = some (.int .u64 44) ∧ w'.cell? ⟨w1.heap.size + 1 + 1, 2, none⟩ = some (.int .u64 28) ∧ w'.cell? ⟨w1.heap.size + 1 + 1, 3, none⟩ = some (.int .u64 30) ∧ w'.cell? ⟨w1.heap.size + 1 + 1, 4, none⟩ = some (.int .u64 29) ∧ w'.cell? ⟨w1.heap.size + 1 + 1, 5, none⟩ = some (.int .u64 32)) := hid fun w' h => ⟨(HB_F.out.ext h).cell 0, (HB_F.out.ext h).cell 1, (HB_C.out.ext h).cell 0, (HB_C.out.ext h).cell 1, (HB_C.out.ext h).cell 2, (HB_C.out.ext h).cell 3, (HB_C.out.ext h).cell 4, (HB_C.out.ext h).cell 5⟩
      have hlt_F : w1.heap.size < wr.heap.size := cell_lt HB_F.out
      have hlt_C : w1.heap.size + 1 + 1 < wr.heap.size := cell_lt HB_C.out
      have HSN : Hid (∀ (g : Nat) (v0 v1 v2 : Value) (w' : World), wr.heap.size ≤ g → Ext wr w' → (((w'.setCell ⟨g, 0, none⟩ v0).setCell ⟨g, 1, none⟩ v1).setCell ⟨g, 2, none⟩ v2).cell? ⟨w1.heap.size, 0, none⟩ = some (.int .i64 3) ∧ (((w'.setCell ⟨g, 0, none⟩ v0).setCell ⟨g, 1, none⟩ v1).setCell ⟨g, 2, none⟩ v2).cell? ⟨w1.heap.size, 1, none⟩ = some (.int .i64 3) ∧ (((w'.setCell ⟨g, 0, none⟩ v0).setCell ⟨g, 1, none⟩ v1).setCell ⟨g, 2, none⟩ v2).cell? ⟨w1.heap.size + 1 + 1, 0, none⟩ = some (.int .u64 12) ∧ (((w'.setCell ⟨g, 0, none⟩ v0).setCell ⟨g, 1, none⟩ v1).setCell ⟨g, 2, none⟩ v2).cell? ⟨w1.heap.size + 1 + 1, 1, none⟩ = some (.int .u64 44) ∧ (((w'.setCell ⟨g, 0, none⟩ v0).setCell ⟨g, 1, none⟩ v1).setCell ⟨g, 2, none⟩ v2).cell? ⟨w1.heap.size + 1 + 1, 2, none⟩ = some (.int .u64 28) ∧ (((w'.setCell ⟨g, 0, none⟩ v0).setCell ⟨g, 1, none⟩ v1).setCell ⟨g, 2, none⟩ v2).cell? ⟨w1.heap.size + 1 + 1, 3, none⟩ = some (.int .u64 30) ∧ (((w'.setCell ⟨g, 0, none⟩ v0).setCell ⟨g, 1, none⟩ v1).setCell ⟨g, 2, none⟩ v2).cell? ⟨w1.heap.size + 1 + 1, 4, none⟩ = some (.int .u64 29) ∧ (((w'.setCell ⟨g, 0, none⟩ v0).setCell ⟨g, 1, none⟩ v1).setCell ⟨g, 2, none⟩ v2).cell? ⟨w1.heap.size + 1 + 1, 5, none⟩ = some (.int .u64 32)) := hid fun g v0 v1 v2 w' hg h => ⟨(cell_other (show w1.heap.size ≠ g by omega) (cell_other (show w1.heap.size ≠ g by omega) (cell_other (show w1.heap.size ≠ g by omega) ((HB_F.out.ext h).cell 0)))), (cell_other (show w1.heap.size ≠ g by omega) (cell_other (show w1.heap.size ≠ g by omega) (cell_other (show w1.heap.size ≠ g by omega) ((HB_F.out.ext h).cell 1)))), (cell_other (show w1.heap.size + 1 + 1 ≠ g by omega) (cell_other (show w1.heap.size + 1 + 1 ≠ g by omega) (cell_other (show w1.heap.size + 1 + 1 ≠ g by omega) ((HB_C.out.ext h).cell 0)))), (cell_other (show w1.heap.size + 1 + 1 ≠ g by omega) (cell_other (show w1.heap.size + 1 + 1 ≠ g by omega) (cell_other (show w1.heap.size + 1 + 1 ≠ g by omega) ((HB_C.out.ext h).cell 1)))), (cell_other (show w1.heap.size + 1 + 1 ≠ g by omega) (cell_other (show w1.heap.size + 1 + 1 ≠ g by omega) (cell_other (show w1.heap.size + 1 + 1 ≠ g by omega) ((HB_C.out.ext h).cell 2)))), (cell_other (show w1.heap.size + 1 + 1 ≠ g by omega) (cell_other (show w1.heap.size + 1 + 1 ≠ g by omega) (cell_other (show w1.heap.size + 1 + 1 ≠ g by omega) ((HB_C.out.ext h).cell 3)))), (cell_other (show w1.heap.size + 1 + 1 ≠ g by omega) (cell_other (show w1.heap.size + 1 + 1 ≠ g by omega) (cell_other (show w1.heap.size + 1 + 1 ≠ g by omega) ((HB_C.out.ext h).cell 4)))), (cell_other (show w1.heap.size + 1 + 1 ≠ g by omega) (cell_other (show w1.heap.size + 1 + 1 ≠ g by omega) (cell_other (show w1.heap.size + 1 + 1 ≠ g by omega) ((HB_C.out.ext h).cell 5))))⟩
      clear hlt_F hlt_C
      have hb0 : Ext wr wr.drew := Below.drew (Below.refl _ wr)
      have HNEW := hid newValF
      go_cut [5, 6] (fun sv sm6 wx => sm6 = .int .i64 0 ∧ ∃ g : Nat, sv = .pointer (some ⟨g, 0, none⟩) ∧ Hid (Ext wr wx) ∧ wr.heap.size ≤ g ∧ Box wx g #[.int .i64 5, .bool false, .string S4] 50)
      case first =>
        go_region_held3 (fun w' => w'.cell? ⟨w1.heap.size, 0, none⟩ = some (.int .i64 3) ∧ w'.cell? ⟨w1.heap.size, 1, none⟩ = some (.int .i64 3) ∧ w'.cell? ⟨w1.heap.size + 1 + 1, 0, none⟩ = some (.int .u64 12) ∧ w'.cell? ⟨w1.heap.size + 1 + 1, 1, none⟩ = some (.int .u64 44) ∧ w'.cell? ⟨w1.heap.size + 1 + 1, 2, none⟩ = some (.int .u64 28) ∧ w'.cell? ⟨w1.heap.size + 1 + 1, 3, none⟩ = some (.int .u64 30) ∧ w'.cell? ⟨w1.heap.size + 1 + 1, 4, none⟩ = some (.int .u64 29) ∧ w'.cell? ⟨w1.heap.size + 1 + 1, 5, none⟩ = some (.int .u64 32))
            (first | exact HS.out _ (by assumption) | exact HS.out _ (Ext.trans (by assumption) (Ext.alloc _ _)) | exact HSN.out _ _ _ _ _ (by first | omega | (simp only [World.size_drew]; omega)) (by assumption) | exact HSN.out _ _ _ _ _ (by first | omega | (simp only [World.size_drew]; omega)) (Ext.trans (by assumption) (Ext.alloc _ _)))
          (first
              | (go_at_call 15; (with_reducible refine (CD4.out _ (HT.out.ext (HE.out.trans (by first | exact hb0 | exact (hb0.trans (Ext.alloc _ _)))))).mono ?_); rintro e x1_1 ⟨rfl, g1⟩; have hb1 : Ext wr x1_1 := (by first | exact hb0.trans g1 | exact (hb0.trans (Ext.alloc _ _)).trans g1); have hs1 := hb1.size; (first | (have yy := HNEW.out _ _ (Ext.undrew g1); (try simp only [World.size_drew] at yy); obtain ⟨y0, y1, y2, y3, y4, y5⟩ := yy) | (obtain ⟨y0, y1, y2, y3, y4, y5⟩ := HNEW.out x1_1 _ (Below.refl _ _)))))
        all_goals (go_wp2_with fail; go_meet; first | exact ⟨rfl, _, rfl, newVal0 hb1 _ _ _⟩ | exact ⟨rfl, _, rfl, newVal hb1 (by first | omega | (simp only [World.size_drew]; omega)) ((Box.new _ _ _).ext (Ext.undrew g1)) _ _ _⟩)
      case rest =>
        obtain ⟨rfl, gV, rfl, gx3, hg3, B3⟩ := hcut
        have hz_wc := gx3.out.size
        replace HE := hid (HE.out.trans gx3.out)
        replace HB_F := hid (HB_F.out.ext gx3.out)
        replace HB_K := hid (HB_K.out.ext gx3.out)
        replace HB_C := hid (HB_C.out.ext gx3.out)
        have HB_V := hid B3
        clear B3 HS HSN HNEW
        go_upto_region 8 with (fail)
        have HS : Hid (∀ w', Ext wc w' → w'.cell? ⟨gV, 0, none⟩ = some (.int .i64 5) ∧ w'.cell? ⟨gV, 1, none⟩ = some (.bool false) ∧ w'.cell? ⟨gV, 2, none⟩ = some (.string S4) ∧ w'.cell? ⟨w1.heap.size + 1, 0, none⟩ = some (.int .i64 2) ∧ w'.cell? ⟨w1.heap.size + 1, 1, none⟩ = some (.int .i64 2) ∧ w'.cell? ⟨w1.heap.size + 1, 2, none⟩ = some (.int .i64 3) ∧ w'.cell? ⟨w1.heap.size + 1, 3, none⟩ = some (.int .i64 4) ∧ w'.cell? ⟨w1.heap.size + 1, 4, none⟩ = some (.int .i64 5) ∧ w'.cell? ⟨w1.heap.size + 1, 5, none⟩ = some (.int .i64 1) ∧ w'.cell? ⟨w1.heap.size + 1 + 1, 0, none⟩ = some (.int .u64 12) ∧ w'.cell? ⟨w1.heap.size + 1 + 1, 1, none⟩ = some (.int .u64 44) ∧ w'.cell? ⟨w1.heap.size + 1 + 1, 2, none⟩ = some (.int .u64 28) ∧ w'.cell? ⟨w1.heap.size + 1 + 1, 3, none⟩ = some (.int .u64 30) ∧ w'.cell? ⟨w1.heap.size + 1 + 1, 4, none⟩ = some (.int .u64 29) ∧ w'.cell? ⟨w1.heap.size + 1 + 1, 5, none⟩ = some (.int .u64 32)) := hid fun w' h => ⟨(HB_V.out.ext h).cell 0, (HB_V.out.ext h).cell 1, (HB_V.out.ext h).cell 2, (HB_K.out.ext h).cell 0, (HB_K.out.ext h).cell 1, (HB_K.out.ext h).cell 2, (HB_K.out.ext h).cell 3, (HB_K.out.ext h).cell 4, (HB_K.out.ext h).cell 5, (HB_C.out.ext h).cell 0, (HB_C.out.ext h).cell 1, (HB_C.out.ext h).cell 2, (HB_C.out.ext h).cell 3, (HB_C.out.ext h).cell 4, (HB_C.out.ext h).cell 5⟩
        have hb0 : Ext wc wc.drew := Below.drew (Below.refl _ wc)
        refine wp_region_held_drew (S := fun w' => w'.cell? ⟨gV, 0, none⟩ = some (.int .i64 5) ∧ w'.cell? ⟨gV, 1, none⟩ = some (.bool false) ∧ w'.cell? ⟨gV, 2, none⟩ = some (.string S4) ∧ w'.cell? ⟨w1.heap.size + 1, 0, none⟩ = some (.int .i64 2) ∧ w'.cell? ⟨w1.heap.size + 1, 1, none⟩ = some (.int .i64 2) ∧ w'.cell? ⟨w1.heap.size + 1, 2, none⟩ = some (.int .i64 3) ∧ w'.cell? ⟨w1.heap.size + 1, 3, none⟩ = some (.int .i64 4) ∧ w'.cell? ⟨w1.heap.size + 1, 4, none⟩ = some (.int .i64 5) ∧ w'.cell? ⟨w1.heap.size + 1, 5, none⟩ = some (.int .i64 1) ∧ w'.cell? ⟨w1.heap.size + 1 + 1, 0, none⟩ = some (.int .u64 12) ∧ w'.cell? ⟨w1.heap.size + 1 + 1, 1, none⟩ = some (.int .u64 44) ∧ w'.cell? ⟨w1.heap.size + 1 + 1, 2, none⟩ = some (.int .u64 28) ∧ w'.cell? ⟨w1.heap.size + 1 + 1, 3, none⟩ = some (.int .u64 30) ∧ w'.cell? ⟨w1.heap.size + 1 + 1, 4, none⟩ = some (.int .u64 29) ∧ w'.cell? ⟨w1.heap.size + 1 + 1, 5, none⟩ = some (.int .u64 32)) (by kernel_rfl) (HS.out _ hb0) (fun hHeld => ?_)
        refine wpAnyH_take (i := 0) (oi := { dst := some 42, op := Op.move (Operand.tmp 6), type := 33, pos := "law.go:431", after := #[], guard := none }) (v := ?_) rfl (by kernel_rfl) (by kernel_rfl) (by kernel_rfl) (fun _ _ _ h => h) (Or.inl ⟨by rfl, ?_⟩) (by assumption) ?_
        rotate_left
        · intro w' hSw
          (try dsimp only at hSw)
          go_simp <;> with_reducible rfl
        try simp only [Act.put, List.setIfInBounds_toArray, List.set_cons_zero, List.set_cons_succ]
        refine wpAnyH_take (i := 1) (oi := { dst := some 43, op := Op.binOp BinOp.neq 33 (Operand.tmp 42) (Operand.const (Value.int IntKind.i64 0)) 33, type := 4, pos := "law.go:431", after := #[{ on := 0, ground := Ground.data }], guard := none }) (v := ?_) rfl (by kernel_rfl) (by kernel_rfl) (by kernel_rfl) (fun _ _ _ h => h) (Or.inl ⟨by rfl, ?_⟩) (by assumption) ?_
        rotate_left
        · intro w' hSw
          (try dsimp only at hSw)
          go_simp <;> with_reducible rfl
        try simp only [Act.put, List.setIfInBounds_toArray, List.set_cons_zero, List.set_cons_succ]
        refine wpAnyH_take (i := 2) (oi := { dst := some 44, op := Op.move (Operand.tmp 43), type := 4, pos := "law.go:431", after := #[{ on := 1, ground := Ground.data }], guard := none }) (v := ?_) rfl (by kernel_rfl) (by kernel_rfl) (by kernel_rfl) (fun _ _ _ h => h) (Or.inl ⟨by rfl, ?_⟩) (by assumption) ?_
        rotate_left
        · intro w' hSw
          (try dsimp only at hSw)
          go_simp <;> with_reducible rfl
        try simp only [Act.put, List.setIfInBounds_toArray, List.set_cons_zero, List.set_cons_succ]
        refine wpAnyH_take (i := 3) (oi := { dst := some 45, op := Op.fieldAddr 50 (Operand.tmp 5) 0, type := 0, pos := "law.go:431", after := #[{ on := 2, ground := Ground.guard }], guard := some (2, false) }) (v := ?_) rfl (by kernel_rfl) (by kernel_rfl) (by kernel_rfl) (fun _ _ _ h => h) (Or.inl ⟨by rfl, ?_⟩) (by assumption) ?_
        rotate_left
        · intro w' hSw
          (try dsimp only at hSw)
          go_simp <;> with_reducible rfl
        try simp only [Act.put, List.setIfInBounds_toArray, List.set_cons_zero, List.set_cons_succ]
        refine wpAnyH_take (i := 4) (oi := { dst := some 46, op := Op.load 3 (Operand.tmp 45), type := 3, pos := "law.go:431", after := #[{ on := 3, ground := Ground.data }, { on := 2, ground := Ground.guard }], guard := some (2, false) }) (v := ?_) rfl (by kernel_rfl) (by kernel_rfl) (by kernel_rfl) (fun _ _ _ h => h) (Or.inl ⟨by rfl, ?_⟩) (by assumption) ?_
        rotate_left
        · intro w' hSw
          (try dsimp only at hSw)
          go_simp <;> with_reducible rfl
        try simp only [Act.put, List.setIfInBounds_toArray, List.set_cons_zero, List.set_cons_succ]
        refine wpAnyH_take (i := 5) (oi := { dst := some 47, op := Op.move (Operand.tmp 2), type := 46, pos := "law.go:431", after := #[{ on := 2, ground := Ground.guard }], guard := some (2, false) }) (v := ?_) rfl (by kernel_rfl) (by kernel_rfl) (by kernel_rfl) (fun _ _ _ h => h) (Or.inl ⟨by rfl, ?_⟩) (by assumption) ?_
        rotate_left
        · intro w' hSw
          (try dsimp only at hSw)
          go_simp <;> with_reducible rfl
        try simp only [Act.put, List.setIfInBounds_toArray, List.set_cons_zero, List.set_cons_succ]
        refine wpAnyH_take (i := 6) (oi := { dst := some 48, op := Op.move (Operand.tmp 4), type := 3, pos := "law.go:431", after := #[{ on := 2, ground := Ground.guard }], guard := some (2, false) }) (v := ?_) rfl (by kernel_rfl) (by kernel_rfl) (by kernel_rfl) (fun _ _ _ h => h) (Or.inl ⟨by rfl, ?_⟩) (by assumption) ?_
        rotate_left
        · intro w' hSw
          (try dsimp only at hSw)
          go_simp <;> with_reducible rfl
        try simp only [Act.put, List.setIfInBounds_toArray, List.set_cons_zero, List.set_cons_succ]
        refine wpAnyH_take (i := 7) (oi := { dst := some 49, op := Op.indexAddr 46 (Operand.tmp 47) (Operand.tmp 48), type := 0, pos := "law.go:431", after := #[{ on := 5, ground := Ground.data }, { on := 6, ground := Ground.data }, { on := 2, ground := Ground.guard }], guard := some (2, false) }) (v := ?_) rfl (by kernel_rfl) (by kernel_rfl) (by kernel_rfl) (fun _ _ _ h => h) (Or.inl ⟨by rfl, ?_⟩) (by assumption) ?_
        rotate_left
        · intro w' hSw
          (try dsimp only at hSw)
          go_simp <;> with_reducible rfl
        try simp only [Act.put, List.setIfInBounds_toArray, List.set_cons_zero, List.set_cons_succ]
        refine wpAnyH_take (i := 8) (oi := { dst := some 50, op := Op.load 3 (Operand.tmp 49), type := 3, pos := "law.go:431", after := #[{ on := 7, ground := Ground.data }, { on := 2, ground := Ground.guard }], guard := some (2, false) }) (v := ?_) rfl (by kernel_rfl) (by kernel_rfl) (by kernel_rfl) (fun _ _ _ h => h) (Or.inl ⟨by rfl, ?_⟩) (by assumption) ?_
        rotate_left
        · intro w' hSw
          (try dsimp only at hSw)
          go_simp <;> with_reducible rfl
        try simp only [Act.put, List.setIfInBounds_toArray, List.set_cons_zero, List.set_cons_succ]
        refine wpAnyH_take (i := 9) (oi := { dst := some 51, op := Op.binOp BinOp.neq 3 (Operand.tmp 46) (Operand.tmp 50) 3, type := 4, pos := "law.go:431", after := #[{ on := 4, ground := Ground.data }, { on := 8, ground := Ground.data }, { on := 2, ground := Ground.guard }], guard := some (2, false) }) (v := ?_) rfl (by kernel_rfl) (by kernel_rfl) (by kernel_rfl) (fun _ _ _ h => h) (Or.inl ⟨by rfl, ?_⟩) (by assumption) ?_
        rotate_left
        · intro w' hSw
          (try dsimp only at hSw)
          go_simp <;> with_reducible rfl
        try simp only [Act.put, List.setIfInBounds_toArray, List.set_cons_zero, List.set_cons_succ]
        refine wpAnyH_take (i := 10) (oi := { dst := some 52, op := Op.pick (Operand.tmp 44) (Operand.const (Value.bool true)) (Operand.tmp 51), type := 4, pos := "law.go:431", after := #[{ on := 2, ground := Ground.data }, { on := 9, ground := Ground.data }], guard := none }) (v := ?_) rfl (by kernel_rfl) (by kernel_rfl) (by kernel_rfl) (fun _ _ _ h => h) (Or.inl ⟨by rfl, ?_⟩) (by assumption) ?_
        rotate_left
        · intro w' hSw
          (try dsimp only at hSw)
          go_simp <;> with_reducible rfl
        try simp only [Act.put, List.setIfInBounds_toArray, List.set_cons_zero, List.set_cons_succ]
        refine wpAnyH_take (i := 11) (oi := { dst := some 53, op := Op.move (Operand.tmp 52), type := 4, pos := "law.go:431", after := #[{ on := 10, ground := Ground.data }, { on := 2, ground := Ground.chain }], guard := none }) (v := ?_) rfl (by kernel_rfl) (by kernel_rfl) (by kernel_rfl) (fun _ _ _ h => h) (Or.inl ⟨by rfl, ?_⟩) (by assumption) ?_
        rotate_left
        · intro w' hSw
          (try dsimp only at hSw)
          go_simp <;> with_reducible rfl
        try simp only [Act.put, List.setIfInBounds_toArray, List.set_cons_zero, List.set_cons_succ]
        refine wpAnyH_take (i := 12) (oi := { dst := some 54, op := Op.fieldAddr 50 (Operand.tmp 5) 1, type := 0, pos := "law.go:431", after := #[{ on := 11, ground := Ground.guard }], guard := some (11, false) }) (v := ?_) rfl (by kernel_rfl) (by kernel_rfl) (by kernel_rfl) (fun _ _ _ h => h) (Or.inl ⟨by rfl, ?_⟩) (by assumption) ?_
        rotate_left
        · intro w' hSw
          (try dsimp only at hSw)
          go_simp <;> with_reducible rfl
        try simp only [Act.put, List.setIfInBounds_toArray, List.set_cons_zero, List.set_cons_succ]
        refine wpAnyH_take (i := 13) (oi := { dst := some 55, op := Op.load 4 (Operand.tmp 54), type := 4, pos := "law.go:431", after := #[{ on := 12, ground := Ground.data }, { on := 11, ground := Ground.guard }], guard := some (11, false) }) (v := ?_) rfl (by kernel_rfl) (by kernel_rfl) (by kernel_rfl) (fun _ _ _ h => h) (Or.inl ⟨by rfl, ?_⟩) (by assumption) ?_
        rotate_left
        · intro w' hSw
          (try dsimp only at hSw)
          go_simp <;> with_reducible rfl
        try simp only [Act.put, List.setIfInBounds_toArray, List.set_cons_zero, List.set_cons_succ]
        refine wpAnyH_take (i := 14) (oi := { dst := some 56, op := Op.move (Operand.tmp 3), type := 47, pos := "law.go:431", after := #[{ on := 11, ground := Ground.guard }], guard := some (11, false) }) (v := ?_) rfl (by kernel_rfl) (by kernel_rfl) (by kernel_rfl) (fun _ _ _ h => h) (Or.inl ⟨by rfl, ?_⟩) (by assumption) ?_
        rotate_left
        · intro w' hSw
          (try dsimp only at hSw)
          go_simp <;> with_reducible rfl
        try simp only [Act.put, List.setIfInBounds_toArray, List.set_cons_zero, List.set_cons_succ]
        refine wpAnyH_take (i := 15) (oi := { dst := some 57, op := Op.move (Operand.tmp 4), type := 3, pos := "law.go:431", after := #[{ on := 11, ground := Ground.guard }], guard := some (11, false) }) (v := ?_) rfl (by kernel_rfl) (by kernel_rfl) (by kernel_rfl) (fun _ _ _ h => h) (Or.inl ⟨by rfl, ?_⟩) (by assumption) ?_
        rotate_left
        · intro w' hSw
          (try dsimp only at hSw)
          go_simp <;> with_reducible rfl
        try simp only [Act.put, List.setIfInBounds_toArray, List.set_cons_zero, List.set_cons_succ]
        refine wpAnyH_take (i := 16) (oi := { dst := some 58, op := Op.indexAddr 47 (Operand.tmp 56) (Operand.tmp 57), type := 0, pos := "law.go:431", after := #[{ on := 14, ground := Ground.data }, { on := 15, ground := Ground.data }, { on := 11, ground := Ground.guard }], guard := some (11, false) }) (v := ?_) rfl (by kernel_rfl) (by kernel_rfl) (by kernel_rfl) (fun _ _ _ h => h) (Or.inl ⟨by rfl, ?_⟩) (by assumption) ?_
        rotate_left
        · intro w' hSw
          (try dsimp only at hSw)
          go_simp <;> with_reducible rfl
        try simp only [Act.put, List.setIfInBounds_toArray, List.set_cons_zero, List.set_cons_succ]
        refine wpAnyH_take (i := 17) (oi := { dst := some 59, op := Op.load 24 (Operand.tmp 58), type := 24, pos := "law.go:431", after := #[{ on := 16, ground := Ground.data }, { on := 11, ground := Ground.guard }], guard := some (11, false) }) (v := ?_) rfl (by kernel_rfl) (by kernel_rfl) (by kernel_rfl) (fun _ _ _ h => h) (Or.inl ⟨by rfl, ?_⟩) (by assumption) ?_
        rotate_left
        · intro w' hSw
          (try dsimp only at hSw)
          go_simp <;> with_reducible rfl
        try simp only [Act.put, List.setIfInBounds_toArray, List.set_cons_zero, List.set_cons_succ]
        refine wpAnyH_take (i := 18) (oi := { dst := some 60, op := Op.binOp BinOp.geq 24 (Operand.tmp 59) (Operand.const (Value.int IntKind.u64 32)) 24, type := 4, pos := "law.go:431", after := #[{ on := 17, ground := Ground.data }, { on := 11, ground := Ground.guard }], guard := some (11, false) }) (v := ?_) rfl (by kernel_rfl) (by kernel_rfl) (by kernel_rfl) (fun _ _ _ h => h) (Or.inl ⟨by rfl, ?_⟩) (by assumption) ?_
        rotate_left
        · intro w' hSw
          (try dsimp only at hSw)
          go_simp <;> with_reducible rfl
        try simp only [Act.put, List.setIfInBounds_toArray, List.set_cons_zero, List.set_cons_succ]
        refine wpAnyH_take (i := 19) (oi := { dst := some 61, op := Op.binOp BinOp.neq 4 (Operand.tmp 55) (Operand.tmp 60) 4, type := 4, pos := "law.go:431", after := #[{ on := 13, ground := Ground.data }, { on := 18, ground := Ground.data }, { on := 11, ground := Ground.guard }], guard := some (11, false) }) (v := ?_) rfl (by kernel_rfl) (by kernel_rfl) (by kernel_rfl) (fun _ _ _ h => h) (Or.inl ⟨by rfl, ?_⟩) (by assumption) ?_
        rotate_left
        · intro w' hSw
          (try dsimp only at hSw)
          go_simp <;> with_reducible rfl
        try simp only [Act.put, List.setIfInBounds_toArray, List.set_cons_zero, List.set_cons_succ]
        refine wpAnyH_take (i := 20) (oi := { dst := some 62, op := Op.pick (Operand.tmp 53) (Operand.const (Value.bool true)) (Operand.tmp 61), type := 4, pos := "law.go:431", after := #[{ on := 11, ground := Ground.data }, { on := 19, ground := Ground.data }], guard := none }) (v := ?_) rfl (by kernel_rfl) (by kernel_rfl) (by kernel_rfl) (fun _ _ _ h => h) (Or.inl ⟨by rfl, ?_⟩) (by assumption) ?_
        rotate_left
        · intro w' hSw
          (try dsimp only at hSw)
          go_simp <;> with_reducible rfl
        try simp only [Act.put, List.setIfInBounds_toArray, List.set_cons_zero, List.set_cons_succ]
        refine wpAnyH_done (by kernel_rfl) ?_ _
        clear HS hHeld
        go_wp2_with fail
        exact ⟨⟨5, by go_num, by omega, hid (HG.out.trans (gx3.out.trans hb0))⟩, by simp [intOf]⟩
    · have hj0 : ((((5 : Nat) : Nat) : Int)) = 5 := rfl
      rw [hj0]
      clear hj0 hj
      go_upto_region 7 with (fail)
      have HS : Hid (∀ w', Ext wr w' → w'.cell? ⟨w1.heap.size, 0, none⟩ = some (.int .i64 3) ∧ w'.cell? ⟨w1.heap.size, 1, none⟩ = some (.int .i64 3) ∧ w'.cell? ⟨w1.heap.size + 1 + 1, 0, none⟩ = some (.int .u64 12) ∧ w'.cell? ⟨w1.heap.size + 1 + 1, 1, none⟩ = some (.int .u64 44) ∧ w'.cell? ⟨w1.heap.size + 1 + 1, 2, none⟩ = some (.int .u64 28) ∧ w'.cell? ⟨w1.heap.size + 1 + 1, 3, none⟩ = some (.int .u64 30) ∧ w'.cell? ⟨w1.heap.size + 1 + 1, 4, none⟩ = some (.int .u64 29) ∧ w'.cell? ⟨w1.heap.size + 1 + 1, 5, none⟩ = some (.int .u64 32)) := hid fun w' h => ⟨(HB_F.out.ext h).cell 0, (HB_F.out.ext h).cell 1, (HB_C.out.ext h).cell 0, (HB_C.out.ext h).cell 1, (HB_C.out.ext h).cell 2, (HB_C.out.ext h).cell 3, (HB_C.out.ext h).cell 4, (HB_C.out.ext h).cell 5⟩
      have hlt_F : w1.heap.size < wr.heap.size := cell_lt HB_F.out
      have hlt_C : w1.heap.size + 1 + 1 < wr.heap.size := cell_lt HB_C.out
      have HSN : Hid (∀ (g : Nat) (v0 v1 v2 : Value) (w' : World), wr.heap.size ≤ g → Ext wr w' → (((w'.setCell ⟨g, 0, none⟩ v0).setCell ⟨g, 1, none⟩ v1).setCell ⟨g, 2, none⟩ v2).cell? ⟨w1.heap.size, 0, none⟩ = some (.int .i64 3) ∧ (((w'.setCell ⟨g, 0, none⟩ v0).setCell ⟨g, 1, none⟩ v1).setCell ⟨g, 2, none⟩ v2).cell? ⟨w1.heap.size, 1, none⟩ = some (.int .i64 3) ∧ (((w'.setCell ⟨g, 0, none⟩ v0).setCell ⟨g, 1, none⟩ v1).setCell ⟨g, 2, none⟩ v2).cell? ⟨w1.heap.size + 1 + 1, 0, none⟩ = some (.int .u64 12) ∧ (((w'.setCell ⟨g, 0, none⟩ v0).setCell ⟨g, 1, none⟩ v1).setCell ⟨g, 2, none⟩ v2).cell? ⟨w1.heap.size + 1 + 1, 1, none⟩ = some (.int .u64 44) ∧ (((w'.setCell ⟨g, 0, none⟩ v0).setCell ⟨g, 1, none⟩ v1).setCell ⟨g, 2, none⟩ v2).cell? ⟨w1.heap.size + 1 + 1, 2, none⟩ = some (.int .u64 28) ∧ (((w'.setCell ⟨g, 0, none⟩ v0).setCell ⟨g, 1, none⟩ v1).setCell ⟨g, 2, none⟩ v2).cell? ⟨w1.heap.size + 1 + 1, 3, none⟩ = some (.int .u64 30) ∧ (((w'.setCell ⟨g, 0, none⟩ v0).setCell ⟨g, 1, none⟩ v1).setCell ⟨g, 2, none⟩ v2).cell? ⟨w1.heap.size + 1 + 1, 4, none⟩ = some (.int .u64 29) ∧ (((w'.setCell ⟨g, 0, none⟩ v0).setCell ⟨g, 1, none⟩ v1).setCell ⟨g, 2, none⟩ v2).cell? ⟨w1.heap.size + 1 + 1, 5, none⟩ = some (.int .u64 32)) := hid fun g v0 v1 v2 w' hg h => ⟨(cell_other (show w1.heap.size ≠ g by omega) (cell_other (show w1.heap.size ≠ g by omega) (cell_other (show w1.heap.size ≠ g by omega) ((HB_F.out.ext h).cell 0)))), (cell_other (show w1.heap.size ≠ g by omega) (cell_other (show w1.heap.size ≠ g by omega) (cell_other (show w1.heap.size ≠ g by omega) ((HB_F.out.ext h).cell 1)))), (cell_other (show w1.heap.size + 1 + 1 ≠ g by omega) (cell_other (show w1.heap.size + 1 + 1 ≠ g by omega) (cell_other (show w1.heap.size + 1 + 1 ≠ g by omega) ((HB_C.out.ext h).cell 0)))), (cell_other (show w1.heap.size + 1 + 1 ≠ g by omega) (cell_other (show w1.heap.size + 1 + 1 ≠ g by omega) (cell_other (show w1.heap.size + 1 + 1 ≠ g by omega) ((HB_C.out.ext h).cell 1)))), (cell_other (show w1.heap.size + 1 + 1 ≠ g by omega) (cell_other (show w1.heap.size + 1 + 1 ≠ g by omega) (cell_other (show w1.heap.size + 1 + 1 ≠ g by omega) ((HB_C.out.ext h).cell 2)))), (cell_other (show w1.heap.size + 1 + 1 ≠ g by omega) (cell_other (show w1.heap.size + 1 + 1 ≠ g by omega) (cell_other (show w1.heap.size + 1 + 1 ≠ g by omega) ((HB_C.out.ext h).cell 3)))), (cell_other (show w1.heap.size + 1 + 1 ≠ g by omega) (cell_other (show w1.heap.size + 1 + 1 ≠ g by omega) (cell_other (show w1.heap.size + 1 + 1 ≠ g by omega) ((HB_C.out.ext h).cell 4)))), (cell_other (show w1.heap.size + 1 + 1 ≠ g by omega) (cell_other (show w1.heap.size + 1 + 1 ≠ g by omega) (cell_other (show w1.heap.size + 1 + 1 ≠ g by omega) ((HB_C.out.ext h).cell 5))))⟩
      clear hlt_F hlt_C
      have hb0 : Ext wr wr.drew := Below.drew (Below.refl _ wr)
      have HNEW := hid newValF
      go_cut [5, 6] (fun sv sm6 wx => sm6 = .int .i64 0 ∧ ∃ g : Nat, sv = .pointer (some ⟨g, 0, none⟩) ∧ Hid (Ext wr wx) ∧ wr.heap.size ≤ g ∧ Box wx g #[.int .i64 1, .bool true, .string S5] 50)
      case first =>
        go_region_held3 (fun w' => w'.cell? ⟨w1.heap.size, 0, none⟩ = some (.int .i64 3) ∧ w'.cell? ⟨w1.heap.size, 1, none⟩ = some (.int .i64 3) ∧ w'.cell? ⟨w1.heap.size + 1 + 1, 0, none⟩ = some (.int .u64 12) ∧ w'.cell? ⟨w1.heap.size + 1 + 1, 1, none⟩ = some (.int .u64 44) ∧ w'.cell? ⟨w1.heap.size + 1 + 1, 2, none⟩ = some (.int .u64 28) ∧ w'.cell? ⟨w1.heap.size + 1 + 1, 3, none⟩ = some (.int .u64 30) ∧ w'.cell? ⟨w1.heap.size + 1 + 1, 4, none⟩ = some (.int .u64 29) ∧ w'.cell? ⟨w1.heap.size + 1 + 1, 5, none⟩ = some (.int .u64 32))
            (first | exact HS.out _ (by assumption) | exact HS.out _ (Ext.trans (by assumption) (Ext.alloc _ _)) | exact HSN.out _ _ _ _ _ (by first | omega | (simp only [World.size_drew]; omega)) (by assumption) | exact HSN.out _ _ _ _ _ (by first | omega | (simp only [World.size_drew]; omega)) (Ext.trans (by assumption) (Ext.alloc _ _)))
          (first
              | (go_at_call 15; (with_reducible refine (CD5.out _ (HT.out.ext (HE.out.trans (by first | exact hb0 | exact (hb0.trans (Ext.alloc _ _)))))).mono ?_); rintro e x1_1 ⟨rfl, g1⟩; have hb1 : Ext wr x1_1 := (by first | exact hb0.trans g1 | exact (hb0.trans (Ext.alloc _ _)).trans g1); have hs1 := hb1.size; (first | (have yy := HNEW.out _ _ (Ext.undrew g1); (try simp only [World.size_drew] at yy); obtain ⟨y0, y1, y2, y3, y4, y5⟩ := yy) | (obtain ⟨y0, y1, y2, y3, y4, y5⟩ := HNEW.out x1_1 _ (Below.refl _ _)))))
        all_goals (go_wp2_with fail; go_meet; first | exact ⟨rfl, _, rfl, newVal0 hb1 _ _ _⟩ | exact ⟨rfl, _, rfl, newVal hb1 (by first | omega | (simp only [World.size_drew]; omega)) ((Box.new _ _ _).ext (Ext.undrew g1)) _ _ _⟩)
      case rest =>
        obtain ⟨rfl, gV, rfl, gx3, hg3, B3⟩ := hcut
        have hz_wc := gx3.out.size
        replace HE := hid (HE.out.trans gx3.out)
        replace HB_F := hid (HB_F.out.ext gx3.out)
        replace HB_K := hid (HB_K.out.ext gx3.out)
        replace HB_C := hid (HB_C.out.ext gx3.out)
        have HB_V := hid B3
        clear B3 HS HSN HNEW
        go_upto_region 8 with (fail)
        have HS : Hid (∀ w', Ext wc w' → w'.cell? ⟨gV, 0, none⟩ = some (.int .i64 1) ∧ w'.cell? ⟨gV, 1, none⟩ = some (.bool true) ∧ w'.cell? ⟨gV, 2, none⟩ = some (.string S5) ∧ w'.cell? ⟨w1.heap.size + 1, 0, none⟩ = some (.int .i64 2) ∧ w'.cell? ⟨w1.heap.size + 1, 1, none⟩ = some (.int .i64 2) ∧ w'.cell? ⟨w1.heap.size + 1, 2, none⟩ = some (.int .i64 3) ∧ w'.cell? ⟨w1.heap.size + 1, 3, none⟩ = some (.int .i64 4) ∧ w'.cell? ⟨w1.heap.size + 1, 4, none⟩ = some (.int .i64 5) ∧ w'.cell? ⟨w1.heap.size + 1, 5, none⟩ = some (.int .i64 1) ∧ w'.cell? ⟨w1.heap.size + 1 + 1, 0, none⟩ = some (.int .u64 12) ∧ w'.cell? ⟨w1.heap.size + 1 + 1, 1, none⟩ = some (.int .u64 44) ∧ w'.cell? ⟨w1.heap.size + 1 + 1, 2, none⟩ = some (.int .u64 28) ∧ w'.cell? ⟨w1.heap.size + 1 + 1, 3, none⟩ = some (.int .u64 30) ∧ w'.cell? ⟨w1.heap.size + 1 + 1, 4, none⟩ = some (.int .u64 29) ∧ w'.cell? ⟨w1.heap.size + 1 + 1, 5, none⟩ = some (.int .u64 32)) := hid fun w' h => ⟨(HB_V.out.ext h).cell 0, (HB_V.out.ext h).cell 1, (HB_V.out.ext h).cell 2, (HB_K.out.ext h).cell 0, (HB_K.out.ext h).cell 1, (HB_K.out.ext h).cell 2, (HB_K.out.ext h).cell 3, (HB_K.out.ext h).cell 4, (HB_K.out.ext h).cell 5, (HB_C.out.ext h).cell 0, (HB_C.out.ext h).cell 1, (HB_C.out.ext h).cell 2, (HB_C.out.ext h).cell 3, (HB_C.out.ext h).cell 4, (HB_C.out.ext h).cell 5⟩
        have hb0 : Ext wc wc.drew := Below.drew (Below.refl _ wc)
        refine wp_region_held_drew (S := fun w' => w'.cell? ⟨gV, 0, none⟩ = some (.int .i64 1) ∧ w'.cell? ⟨gV, 1, none⟩ = some (.bool true) ∧ w'.cell? ⟨gV, 2, none⟩ = some (.string S5) ∧ w'.cell? ⟨w1.heap.size + 1, 0, none⟩ = some (.int .i64 2) ∧ w'.cell? ⟨w1.heap.size + 1, 1, none⟩ = some (.int .i64 2) ∧ w'.cell? ⟨w1.heap.size + 1, 2, none⟩ = some (.int .i64 3) ∧ w'.cell? ⟨w1.heap.size + 1, 3, none⟩ = some (.int .i64 4) ∧ w'.cell? ⟨w1.heap.size + 1, 4, none⟩ = some (.int .i64 5) ∧ w'.cell? ⟨w1.heap.size + 1, 5, none⟩ = some (.int .i64 1) ∧ w'.cell? ⟨w1.heap.size + 1 + 1, 0, none⟩ = some (.int .u64 12) ∧ w'.cell? ⟨w1.heap.size + 1 + 1, 1, none⟩ = some (.int .u64 44) ∧ w'.cell? ⟨w1.heap.size + 1 + 1, 2, none⟩ = some (.int .u64 28) ∧ w'.cell? ⟨w1.heap.size + 1 + 1, 3, none⟩ = some (.int .u64 30) ∧ w'.cell? ⟨w1.heap.size + 1 + 1, 4, none⟩ = some (.int .u64 29) ∧ w'.cell? ⟨w1.heap.size + 1 + 1, 5, none⟩ = some (.int .u64 32)) (by kernel_rfl) (HS.out _ hb0) (fun hHeld => ?_)
        refine wpAnyH_take (i := 0) (oi := { dst := some 42, op := Op.move (Operand.tmp 6), type := 33, pos := "law.go:431", after := #[], guard := none }) (v := ?_) rfl (by kernel_rfl) (by kernel_rfl) (by kernel_rfl) (fun _ _ _ h => h) (Or.inl ⟨by rfl, ?_⟩) (by assumption) ?_
        rotate_left
        · intro w' hSw
          (try dsimp only at hSw)
          go_simp <;> with_reducible rfl
        try simp only [Act.put, List.setIfInBounds_toArray, List.set_cons_zero, List.set_cons_succ]
        refine wpAnyH_take (i := 1) (oi := { dst := some 43, op := Op.binOp BinOp.neq 33 (Operand.tmp 42) (Operand.const (Value.int IntKind.i64 0)) 33, type := 4, pos := "law.go:431", after := #[{ on := 0, ground := Ground.data }], guard := none }) (v := ?_) rfl (by kernel_rfl) (by kernel_rfl) (by kernel_rfl) (fun _ _ _ h => h) (Or.inl ⟨by rfl, ?_⟩) (by assumption) ?_
        rotate_left
        · intro w' hSw
          (try dsimp only at hSw)
          go_simp <;> with_reducible rfl
        try simp only [Act.put, List.setIfInBounds_toArray, List.set_cons_zero, List.set_cons_succ]
        refine wpAnyH_take (i := 2) (oi := { dst := some 44, op := Op.move (Operand.tmp 43), type := 4, pos := "law.go:431", after := #[{ on := 1, ground := Ground.data }], guard := none }) (v := ?_) rfl (by kernel_rfl) (by kernel_rfl) (by kernel_rfl) (fun _ _ _ h => h) (Or.inl ⟨by rfl, ?_⟩) (by assumption) ?_
        rotate_left
        · intro w' hSw
          (try dsimp only at hSw)
          go_simp <;> with_reducible rfl
        try simp only [Act.put, List.setIfInBounds_toArray, List.set_cons_zero, List.set_cons_succ]
        refine wpAnyH_take (i := 3) (oi := { dst := some 45, op := Op.fieldAddr 50 (Operand.tmp 5) 0, type := 0, pos := "law.go:431", after := #[{ on := 2, ground := Ground.guard }], guard := some (2, false) }) (v := ?_) rfl (by kernel_rfl) (by kernel_rfl) (by kernel_rfl) (fun _ _ _ h => h) (Or.inl ⟨by rfl, ?_⟩) (by assumption) ?_
        rotate_left
        · intro w' hSw
          (try dsimp only at hSw)
          go_simp <;> with_reducible rfl
        try simp only [Act.put, List.setIfInBounds_toArray, List.set_cons_zero, List.set_cons_succ]
        refine wpAnyH_take (i := 4) (oi := { dst := some 46, op := Op.load 3 (Operand.tmp 45), type := 3, pos := "law.go:431", after := #[{ on := 3, ground := Ground.data }, { on := 2, ground := Ground.guard }], guard := some (2, false) }) (v := ?_) rfl (by kernel_rfl) (by kernel_rfl) (by kernel_rfl) (fun _ _ _ h => h) (Or.inl ⟨by rfl, ?_⟩) (by assumption) ?_
        rotate_left
        · intro w' hSw
          (try dsimp only at hSw)
          go_simp <;> with_reducible rfl
        try simp only [Act.put, List.setIfInBounds_toArray, List.set_cons_zero, List.set_cons_succ]
        refine wpAnyH_take (i := 5) (oi := { dst := some 47, op := Op.move (Operand.tmp 2), type := 46, pos := "law.go:431", after := #[{ on := 2, ground := Ground.guard }], guard := some (2, false) }) (v := ?_) rfl (by kernel_rfl) (by kernel_rfl) (by kernel_rfl) (fun _ _ _ h => h) (Or.inl ⟨by rfl, ?_⟩) (by assumption) ?_
        rotate_left
        · intro w' hSw
          (try dsimp only at hSw)
          go_simp <;> with_reducible rfl
        try simp only [Act.put, List.setIfInBounds_toArray, List.set_cons_zero, List.set_cons_succ]
        refine wpAnyH_take (i := 6) (oi := { dst := some 48, op := Op.move (Operand.tmp 4), type := 3, pos := "law.go:431", after := #[{ on := 2, ground := Ground.guard }], guard := some (2, false) }) (v := ?_) rfl (by kernel_rfl) (by kernel_rfl) (by kernel_rfl) (fun _ _ _ h => h) (Or.inl ⟨by rfl, ?_⟩) (by assumption) ?_
        rotate_left
        · intro w' hSw
          (try dsimp only at hSw)
          go_simp <;> with_reducible rfl
        try simp only [Act.put, List.setIfInBounds_toArray, List.set_cons_zero, List.set_cons_succ]
        refine wpAnyH_take (i := 7) (oi := { dst := some 49, op := Op.indexAddr 46 (Operand.tmp 47) (Operand.tmp 48), type := 0, pos := "law.go:431", after := #[{ on := 5, ground := Ground.data }, { on := 6, ground := Ground.data }, { on := 2, ground := Ground.guard }], guard := some (2, false) }) (v := ?_) rfl (by kernel_rfl) (by kernel_rfl) (by kernel_rfl) (fun _ _ _ h => h) (Or.inl ⟨by rfl, ?_⟩) (by assumption) ?_
        rotate_left
        · intro w' hSw
          (try dsimp only at hSw)
          go_simp <;> with_reducible rfl
        try simp only [Act.put, List.setIfInBounds_toArray, List.set_cons_zero, List.set_cons_succ]
        refine wpAnyH_take (i := 8) (oi := { dst := some 50, op := Op.load 3 (Operand.tmp 49), type := 3, pos := "law.go:431", after := #[{ on := 7, ground := Ground.data }, { on := 2, ground := Ground.guard }], guard := some (2, false) }) (v := ?_) rfl (by kernel_rfl) (by kernel_rfl) (by kernel_rfl) (fun _ _ _ h => h) (Or.inl ⟨by rfl, ?_⟩) (by assumption) ?_
        rotate_left
        · intro w' hSw
          (try dsimp only at hSw)
          go_simp <;> with_reducible rfl
        try simp only [Act.put, List.setIfInBounds_toArray, List.set_cons_zero, List.set_cons_succ]
        refine wpAnyH_take (i := 9) (oi := { dst := some 51, op := Op.binOp BinOp.neq 3 (Operand.tmp 46) (Operand.tmp 50) 3, type := 4, pos := "law.go:431", after := #[{ on := 4, ground := Ground.data }, { on := 8, ground := Ground.data }, { on := 2, ground := Ground.guard }], guard := some (2, false) }) (v := ?_) rfl (by kernel_rfl) (by kernel_rfl) (by kernel_rfl) (fun _ _ _ h => h) (Or.inl ⟨by rfl, ?_⟩) (by assumption) ?_
        rotate_left
        · intro w' hSw
          (try dsimp only at hSw)
          go_simp <;> with_reducible rfl
        try simp only [Act.put, List.setIfInBounds_toArray, List.set_cons_zero, List.set_cons_succ]
        refine wpAnyH_take (i := 10) (oi := { dst := some 52, op := Op.pick (Operand.tmp 44) (Operand.const (Value.bool true)) (Operand.tmp 51), type := 4, pos := "law.go:431", after := #[{ on := 2, ground := Ground.data }, { on := 9, ground := Ground.data }], guard := none }) (v := ?_) rfl (by kernel_rfl) (by kernel_rfl) (by kernel_rfl) (fun _ _ _ h => h) (Or.inl ⟨by rfl, ?_⟩) (by assumption) ?_
        rotate_left
        · intro w' hSw
          (try dsimp only at hSw)
          go_simp <;> with_reducible rfl
        try simp only [Act.put, List.setIfInBounds_toArray, List.set_cons_zero, List.set_cons_succ]
        refine wpAnyH_take (i := 11) (oi := { dst := some 53, op := Op.move (Operand.tmp 52), type := 4, pos := "law.go:431", after := #[{ on := 10, ground := Ground.data }, { on := 2, ground := Ground.chain }], guard := none }) (v := ?_) rfl (by kernel_rfl) (by kernel_rfl) (by kernel_rfl) (fun _ _ _ h => h) (Or.inl ⟨by rfl, ?_⟩) (by assumption) ?_
        rotate_left
        · intro w' hSw
          (try dsimp only at hSw)
          go_simp <;> with_reducible rfl
        try simp only [Act.put, List.setIfInBounds_toArray, List.set_cons_zero, List.set_cons_succ]
        refine wpAnyH_take (i := 12) (oi := { dst := some 54, op := Op.fieldAddr 50 (Operand.tmp 5) 1, type := 0, pos := "law.go:431", after := #[{ on := 11, ground := Ground.guard }], guard := some (11, false) }) (v := ?_) rfl (by kernel_rfl) (by kernel_rfl) (by kernel_rfl) (fun _ _ _ h => h) (Or.inl ⟨by rfl, ?_⟩) (by assumption) ?_
        rotate_left
        · intro w' hSw
          (try dsimp only at hSw)
          go_simp <;> with_reducible rfl
        try simp only [Act.put, List.setIfInBounds_toArray, List.set_cons_zero, List.set_cons_succ]
        refine wpAnyH_take (i := 13) (oi := { dst := some 55, op := Op.load 4 (Operand.tmp 54), type := 4, pos := "law.go:431", after := #[{ on := 12, ground := Ground.data }, { on := 11, ground := Ground.guard }], guard := some (11, false) }) (v := ?_) rfl (by kernel_rfl) (by kernel_rfl) (by kernel_rfl) (fun _ _ _ h => h) (Or.inl ⟨by rfl, ?_⟩) (by assumption) ?_
        rotate_left
        · intro w' hSw
          (try dsimp only at hSw)
          go_simp <;> with_reducible rfl
        try simp only [Act.put, List.setIfInBounds_toArray, List.set_cons_zero, List.set_cons_succ]
        refine wpAnyH_take (i := 14) (oi := { dst := some 56, op := Op.move (Operand.tmp 3), type := 47, pos := "law.go:431", after := #[{ on := 11, ground := Ground.guard }], guard := some (11, false) }) (v := ?_) rfl (by kernel_rfl) (by kernel_rfl) (by kernel_rfl) (fun _ _ _ h => h) (Or.inl ⟨by rfl, ?_⟩) (by assumption) ?_
        rotate_left
        · intro w' hSw
          (try dsimp only at hSw)
          go_simp <;> with_reducible rfl
        try simp only [Act.put, List.setIfInBounds_toArray, List.set_cons_zero, List.set_cons_succ]
        refine wpAnyH_take (i := 15) (oi := { dst := some 57, op := Op.move (Operand.tmp 4), type := 3, pos := "law.go:431", after := #[{ on := 11, ground := Ground.guard }], guard := some (11, false) }) (v := ?_) rfl (by kernel_rfl) (by kernel_rfl) (by kernel_rfl) (fun _ _ _ h => h) (Or.inl ⟨by rfl, ?_⟩) (by assumption) ?_
        rotate_left
        · intro w' hSw
          (try dsimp only at hSw)
          go_simp <;> with_reducible rfl
        try simp only [Act.put, List.setIfInBounds_toArray, List.set_cons_zero, List.set_cons_succ]
        refine wpAnyH_take (i := 16) (oi := { dst := some 58, op := Op.indexAddr 47 (Operand.tmp 56) (Operand.tmp 57), type := 0, pos := "law.go:431", after := #[{ on := 14, ground := Ground.data }, { on := 15, ground := Ground.data }, { on := 11, ground := Ground.guard }], guard := some (11, false) }) (v := ?_) rfl (by kernel_rfl) (by kernel_rfl) (by kernel_rfl) (fun _ _ _ h => h) (Or.inl ⟨by rfl, ?_⟩) (by assumption) ?_
        rotate_left
        · intro w' hSw
          (try dsimp only at hSw)
          go_simp <;> with_reducible rfl
        try simp only [Act.put, List.setIfInBounds_toArray, List.set_cons_zero, List.set_cons_succ]
        refine wpAnyH_take (i := 17) (oi := { dst := some 59, op := Op.load 24 (Operand.tmp 58), type := 24, pos := "law.go:431", after := #[{ on := 16, ground := Ground.data }, { on := 11, ground := Ground.guard }], guard := some (11, false) }) (v := ?_) rfl (by kernel_rfl) (by kernel_rfl) (by kernel_rfl) (fun _ _ _ h => h) (Or.inl ⟨by rfl, ?_⟩) (by assumption) ?_
        rotate_left
        · intro w' hSw
          (try dsimp only at hSw)
          go_simp <;> with_reducible rfl
        try simp only [Act.put, List.setIfInBounds_toArray, List.set_cons_zero, List.set_cons_succ]
        refine wpAnyH_take (i := 18) (oi := { dst := some 60, op := Op.binOp BinOp.geq 24 (Operand.tmp 59) (Operand.const (Value.int IntKind.u64 32)) 24, type := 4, pos := "law.go:431", after := #[{ on := 17, ground := Ground.data }, { on := 11, ground := Ground.guard }], guard := some (11, false) }) (v := ?_) rfl (by kernel_rfl) (by kernel_rfl) (by kernel_rfl) (fun _ _ _ h => h) (Or.inl ⟨by rfl, ?_⟩) (by assumption) ?_
        rotate_left
        · intro w' hSw
          (try dsimp only at hSw)
          go_simp <;> with_reducible rfl
        try simp only [Act.put, List.setIfInBounds_toArray, List.set_cons_zero, List.set_cons_succ]
        refine wpAnyH_take (i := 19) (oi := { dst := some 61, op := Op.binOp BinOp.neq 4 (Operand.tmp 55) (Operand.tmp 60) 4, type := 4, pos := "law.go:431", after := #[{ on := 13, ground := Ground.data }, { on := 18, ground := Ground.data }, { on := 11, ground := Ground.guard }], guard := some (11, false) }) (v := ?_) rfl (by kernel_rfl) (by kernel_rfl) (by kernel_rfl) (fun _ _ _ h => h) (Or.inl ⟨by rfl, ?_⟩) (by assumption) ?_
        rotate_left
        · intro w' hSw
          (try dsimp only at hSw)
          go_simp <;> with_reducible rfl
        try simp only [Act.put, List.setIfInBounds_toArray, List.set_cons_zero, List.set_cons_succ]
        refine wpAnyH_take (i := 20) (oi := { dst := some 62, op := Op.pick (Operand.tmp 53) (Operand.const (Value.bool true)) (Operand.tmp 61), type := 4, pos := "law.go:431", after := #[{ on := 11, ground := Ground.data }, { on := 19, ground := Ground.data }], guard := none }) (v := ?_) rfl (by kernel_rfl) (by kernel_rfl) (by kernel_rfl) (fun _ _ _ h => h) (Or.inl ⟨by rfl, ?_⟩) (by assumption) ?_
        rotate_left
        · intro w' hSw
          (try dsimp only at hSw)
          go_simp <;> with_reducible rfl
        try simp only [Act.put, List.setIfInBounds_toArray, List.set_cons_zero, List.set_cons_succ]
        refine wpAnyH_done (by kernel_rfl) ?_ _
        clear HS hHeld
        go_wp2_with fail
        exact ⟨⟨6, by go_num, by omega, hid (HG.out.trans (gx3.out.trans hb0))⟩, by simp [intOf]⟩
    · have hj0 : ((((6 : Nat) : Nat) : Int)) = 6 := rfl
      rw [hj0]
      clear hj0 hj
      obtain ⟨c_1, c_2⟩ := HB_F.out.c2
      obtain ⟨c_3, c_4, c_5, c_6, c_7, c_8⟩ := HB_K.out.c6
      obtain ⟨c_9, c_10, c_11, c_12, c_13, c_14⟩ := HB_C.out.c6
      go_wp2_with fail
      clear c_1 c_2 c_3 c_4 c_5 c_6 c_7 c_8 c_9 c_10 c_11 c_12 c_13 c_14
      refine (CI15.out _).mono ?_
      rintro e w3 ⟨v15, rfl, k15, g3⟩
      have hz_w3 := g3.size
      replace HE := hid (HE.out.trans g3)
      replace HB_F := hid (HB_F.out.ext g3)
      replace HB_K := hid (HB_K.out.ext g3)
      replace HB_C := hid (HB_C.out.ext g3)
      obtain ⟨ngq15, aq15, nq15, cq15, aq15', nq15', cq15', rfl⟩ := k15.shape
      have gA := Ext.alloc w3 (.cells #[.bool ngq15, .slice aq15 nq15 cq15, .slice aq15' nq15' cq15'] 32)
      obtain ⟨c_16, c_17⟩ := (HB_F.out.ext gA).c2
      obtain ⟨c_18, c_19, c_20, c_21, c_22, c_23⟩ := (HB_K.out.ext gA).c6
      obtain ⟨c_24, c_25, c_26, c_27, c_28, c_29⟩ := (HB_C.out.ext gA).c6
      go_wp2_with fail
      clear gA c_16 c_17 c_18 c_19 c_20 c_21 c_22 c_23 c_24 c_25 c_26 c_27 c_28 c_29
      obtain ⟨W4, hW4, g4, hy4, B_N⟩ := pro1 w3 #[.bool ngq15, .slice aq15 nq15 cq15, .slice aq15' nq15' cq15'] 32
      rw [← hW4]
      clear hW4
      have hz_W4 := g4.size
      replace HE := hid (HE.out.trans g4)
      replace HB_F := hid (HB_F.out.ext g4)
      replace HB_K := hid (HB_K.out.ext g4)
      replace HB_C := hid (HB_C.out.ext g4)
      replace k15 := k15.ext g4
      have HB_N := hid B_N
      clear B_N
      refine (CR15.out _ _ k15 (HT.out.ext HE.out)).mono ?_
      rintro e w5 ⟨rfl, g5⟩
      have hz_w5 := g5.size
      replace HE := hid (HE.out.trans g5)
      replace HB_F := hid (HB_F.out.ext g5)
      replace HB_K := hid (HB_K.out.ext g5)
      replace HB_C := hid (HB_C.out.ext g5)
      replace HB_N := hid (HB_N.out.ext g5)
      replace k15 := k15.ext g5
      have gA := Ext.alloc w5 (.cells #[.int .u64 0, .int .u64 28] 26)
      obtain ⟨c_30, c_31⟩ := (HB_F.out.ext gA).c2
      obtain ⟨c_32, c_33, c_34, c_35, c_36, c_37⟩ := (HB_K.out.ext gA).c6
      obtain ⟨c_38, c_39, c_40, c_41, c_42, c_43⟩ := (HB_C.out.ext gA).c6
      obtain ⟨c_44, c_45, c_46⟩ := (HB_N.out.ext gA).c3
      go_wp2_with fail
      clear gA c_30 c_31 c_32 c_33 c_34 c_35 c_36 c_37 c_38 c_39 c_40 c_41 c_42 c_43 c_44 c_45 c_46
      obtain ⟨W6, hW6, g6, hy6, B_W⟩ := pro1 w5 #[.int .u64 0, .int .u64 28] 26
      rw [← hW6]
      clear hW6
      have hz_W6 := g6.size
      replace HE := hid (HE.out.trans g6)
      replace HB_F := hid (HB_F.out.ext g6)
      replace HB_K := hid (HB_K.out.ext g6)
      replace HB_C := hid (HB_C.out.ext g6)
      replace HB_N := hid (HB_N.out.ext g6)
      replace k15 := k15.ext g6
      have HB_W := hid B_W
      clear B_W
      refine (CN15.out _ _ k15 (HT.out.ext HE.out)).mono ?_
      rintro e w7 ⟨v14, rfl, k14, g7⟩
      have hz_w7 := g7.size
      replace HE := hid (HE.out.trans g7)
      replace HB_F := hid (HB_F.out.ext g7)
      replace HB_K := hid (HB_K.out.ext g7)
      replace HB_C := hid (HB_C.out.ext g7)
      replace HB_N := hid (HB_N.out.ext g7)
      replace HB_W := hid (HB_W.out.ext g7)
      replace k15 := k15.ext g7
      obtain ⟨ngq47, aq47, nq47, cq47, aq47', nq47', cq47', rfl⟩ := k14.shape
      have gA := Ext.alloc w7 (.cells #[.bool ngq47, .slice aq47 nq47 cq47, .slice aq47' nq47' cq47'] 32)
      obtain ⟨c_48, c_49⟩ := (HB_F.out.ext gA).c2
      obtain ⟨c_50, c_51, c_52, c_53, c_54, c_55⟩ := (HB_K.out.ext gA).c6
      obtain ⟨c_56, c_57, c_58, c_59, c_60, c_61⟩ := (HB_C.out.ext gA).c6
      obtain ⟨c_62, c_63, c_64⟩ := (HB_N.out.ext gA).c3
      obtain ⟨c_65, c_66⟩ := (HB_W.out.ext gA).c2
      go_wp2_with fail
      clear gA c_48 c_49 c_50 c_51 c_52 c_53 c_54 c_55 c_56 c_57 c_58 c_59 c_60 c_61 c_62 c_63 c_64 c_65 c_66
      obtain ⟨W8, hW8, g8, hy8, B_X⟩ := pro1 w7 #[.bool ngq47, .slice aq47 nq47 cq47, .slice aq47' nq47' cq47'] 32
      rw [← hW8]
      clear hW8
      have hz_W8 := g8.size
      replace HE := hid (HE.out.trans g8)
      replace HB_F := hid (HB_F.out.ext g8)
      replace HB_K := hid (HB_K.out.ext g8)
      replace HB_C := hid (HB_C.out.ext g8)
      replace HB_N := hid (HB_N.out.ext g8)
      replace HB_W := hid (HB_W.out.ext g8)
      replace k15 := k15.ext g8
      replace k14 := k14.ext g8
      have HB_X := hid B_X
      clear B_X
      refine (CRA.out _).mono ?_
      rintro e w9 ⟨v40, rfl, k40, g9⟩
      have hz_w9 := g9.size
      replace HE := hid (HE.out.trans g9)
      replace HB_F := hid (HB_F.out.ext g9)
      replace HB_K := hid (HB_K.out.ext g9)
      replace HB_C := hid (HB_C.out.ext g9)
      replace HB_N := hid (HB_N.out.ext g9)
      replace HB_W := hid (HB_W.out.ext g9)
      replace HB_X := hid (HB_X.out.ext g9)
      replace k15 := k15.ext g9
      replace k14 := k14.ext g9
      obtain ⟨ngq67, aq67, nq67, cq67, aq67', nq67', cq67', rfl⟩ := k40.shape
      have gA := Ext.alloc w9 (.cells #[.bool ngq67, .slice aq67 nq67 cq67, .slice aq67' nq67' cq67'] 32)
      obtain ⟨c_68, c_69⟩ := (HB_F.out.ext gA).c2
      obtain ⟨c_70, c_71, c_72, c_73, c_74, c_75⟩ := (HB_K.out.ext gA).c6
      obtain ⟨c_76, c_77, c_78, c_79, c_80, c_81⟩ := (HB_C.out.ext gA).c6
      obtain ⟨c_82, c_83, c_84⟩ := (HB_N.out.ext gA).c3
      obtain ⟨c_85, c_86⟩ := (HB_W.out.ext gA).c2
      obtain ⟨c_87, c_88, c_89⟩ := (HB_X.out.ext gA).c3
      go_wp2_with fail
      clear gA c_68 c_69 c_70 c_71 c_72 c_73 c_74 c_75 c_76 c_77 c_78 c_79 c_80 c_81 c_82 c_83 c_84 c_85 c_86 c_87 c_88 c_89
      obtain ⟨W10, hW10, g10, hy10, B_S⟩ := pro1 w9 #[.bool ngq67, .slice aq67 nq67 cq67, .slice aq67' nq67' cq67'] 32
      rw [← hW10]
      clear hW10
      have hz_W10 := g10.size
      replace HE := hid (HE.out.trans g10)
      replace HB_F := hid (HB_F.out.ext g10)
      replace HB_K := hid (HB_K.out.ext g10)
      replace HB_C := hid (HB_C.out.ext g10)
      replace HB_N := hid (HB_N.out.ext g10)
      replace HB_W := hid (HB_W.out.ext g10)
      replace HB_X := hid (HB_X.out.ext g10)
      replace k15 := k15.ext g10
      replace k14 := k14.ext g10
      replace k40 := k40.ext g10
      have HB_S := hid B_S
      clear B_S
      refine (CR40.out _ _ k40 (HT.out.ext HE.out)).mono ?_
      rintro e w11 ⟨rfl, g11⟩
      have hz_w11 := g11.size
      replace HE := hid (HE.out.trans g11)
      replace HB_F := hid (HB_F.out.ext g11)
      replace HB_K := hid (HB_K.out.ext g11)
      replace HB_C := hid (HB_C.out.ext g11)
      replace HB_N := hid (HB_N.out.ext g11)
      replace HB_W := hid (HB_W.out.ext g11)
      replace HB_X := hid (HB_X.out.ext g11)
      replace HB_S := hid (HB_S.out.ext g11)
      replace k15 := k15.ext g11
      replace k14 := k14.ext g11
      replace k40 := k40.ext g11
      have gA := Ext.alloc w11 (.cells #[.int .u64 0, .int .u64 32] 26)
      go_upto_region 15 with (fail)
      clear gA
      obtain ⟨W12, hW12, g12, hy12, B_V⟩ := pro1 w11 #[.int .u64 0, .int .u64 32] 26
      rw [← hW12]
      clear hW12
      have hz_W12 := g12.size
      replace HE := hid (HE.out.trans g12)
      replace HB_F := hid (HB_F.out.ext g12)
      replace HB_K := hid (HB_K.out.ext g12)
      replace HB_C := hid (HB_C.out.ext g12)
      replace HB_N := hid (HB_N.out.ext g12)
      replace HB_W := hid (HB_W.out.ext g12)
      replace HB_X := hid (HB_X.out.ext g12)
      replace HB_S := hid (HB_S.out.ext g12)
      replace k15 := k15.ext g12
      replace k14 := k14.ext g12
      replace k40 := k40.ext g12
      have HB_V := hid B_V
      clear B_V
      have HS : Hid (∀ w', Ext W12 w' → w'.cell? ⟨w1.heap.size, 0, none⟩ = some (.int .i64 3) ∧ w'.cell? ⟨w1.heap.size, 1, none⟩ = some (.int .i64 3)) := hid fun w' h => ⟨(HB_F.out.ext h).cell 0, (HB_F.out.ext h).cell 1⟩
      have hb0 : Ext W12 W12.drew := Below.drew (Below.refl _ W12)
      refine wp_region_held_drew (S := fun w' => w'.cell? ⟨w1.heap.size, 0, none⟩ = some (.int .i64 3) ∧ w'.cell? ⟨w1.heap.size, 1, none⟩ = some (.int .i64 3)) (by kernel_rfl) (HS.out _ hb0) (fun hHeld => ?_)
      refine wpAnyH_take (i := 0) (oi := { dst := some 89, op := Op.load 23 (Operand.tmp 1), type := 23, pos := "law.go:440", after := #[], guard := none }) (v := ?_) rfl (by kernel_rfl) (by kernel_rfl) (by kernel_rfl) (fun _ _ _ h => h) (Or.inl ⟨by rfl, ?_⟩) (by assumption) ?_
      rotate_left
      · intro w' hSw
        (try dsimp only at hSw)
        go_simp <;> with_reducible rfl
      try simp only [Act.put, List.setIfInBounds_toArray, List.set_cons_zero, List.set_cons_succ]
      refine wpAnyH_ready (rs := [1]) (by kernel_rfl) (by simp) ?_
      refine AllReadyH.cons (o := { dst := some 90, op := Op.call { callee := Callee.value (Operand.func 16), args := #[Operand.const (Value.int IntKind.i64 (-1))], argTypes := #[2] }, type := 32, pos := "law.go:440", after := #[], guard := none }) rfl (fun K hK => ?_) AllReadyH.nil
      go_simp
      refine (CIm.out _).mono ?_
      rintro e x90_1 ⟨u1, rfl, m1, g1⟩
      have hb1 : Ext W12 x90_1 := hb0.trans g1
      try dsimp only
      refine hK.out _ _ (HS.out _ hb1) ?_
      clear hHeld
      intro hHeld
      clear hK K
      try simp only [Act.put, List.setIfInBounds_toArray, List.set_cons_zero, List.set_cons_succ]
      refine wpAnyH_ready (rs := [2]) (by kernel_rfl) (by simp) ?_
      refine AllReadyH.cons (o := { dst := some 91, op := Op.call { callee := Callee.value (Operand.func 16), args := #[Operand.const (Value.int IntKind.i64 1)], argTypes := #[2] }, type := 32, pos := "law.go:440", after := #[{ on := 1, ground := Ground.chain }], guard := none }) rfl (fun K hK => ?_) AllReadyH.nil
      go_simp
      refine (CI1.out _).mono ?_
      rintro e x90_2 ⟨u2, rfl, m2, g2⟩
      have hb2 : Ext W12 x90_2 := hb1.trans g2
      try dsimp only
      refine hK.out _ _ (HS.out _ hb2) ?_
      clear hHeld
      intro hHeld
      clear hK K
      try simp only [Act.put, List.setIfInBounds_toArray, List.set_cons_zero, List.set_cons_succ]
      refine wpAnyH_ready (rs := [3]) (by kernel_rfl) (by simp) ?_
      refine AllReadyH.cons (o := { dst := some 92, op := Op.call { callee := Callee.value (Operand.func 20), args := #[Operand.tmp 89, Operand.tmp 90, Operand.tmp 91], argTypes := #[23, 32, 32] }, type := 57, pos := "law.go:440", after := #[{ on := 0, ground := Ground.data }, { on := 1, ground := Ground.data }, { on := 2, ground := Ground.data }, { on := 2, ground := Ground.chain }], guard := none }) rfl (fun K hK => ?_) AllReadyH.nil
      go_simp
      refine (CCO.out _ _ _ (m1.ext g2) m2 (HT.out.ext (HE.out.trans hb2))).mono ?_
      rintro e x90_3 ⟨rfl, g3⟩
      have hb3 : Ext W12 x90_3 := hb2.trans g3
      try dsimp only
      refine hK.out _ _ (HS.out _ hb3) ?_
      clear hHeld
      intro hHeld
      clear hK K
      try simp only [Act.put, List.setIfInBounds_toArray, List.set_cons_zero, List.set_cons_succ]
      refine wpAnyH_take (i := 4) (oi := { dst := some 88, op := Op.move (Operand.tmp 92), type := 57, pos := "law.go:440", after := #[{ on := 3, ground := Ground.data }], guard := none }) (v := ?_) rfl (by kernel_rfl) (by kernel_rfl) (by kernel_rfl) (fun _ _ _ h => h) (Or.inl ⟨by rfl, ?_⟩) (by assumption) ?_
      rotate_left
      · intro w' hSw
        (try dsimp only at hSw)
        go_simp <;> with_reducible rfl
      try simp only [Act.put, List.setIfInBounds_toArray, List.set_cons_zero, List.set_cons_succ]
      refine wpAnyH_take (i := 5) (oi := { dst := some 93, op := Op.extract (Operand.tmp 88) 0, type := 2, pos := "law.go:440", after := #[{ on := 4, ground := Ground.data }], guard := none }) (v := ?_) rfl (by kernel_rfl) (by kernel_rfl) (by kernel_rfl) (fun _ _ _ h => h) (Or.inl ⟨by rfl, ?_⟩) (by assumption) ?_
      rotate_left
      · intro w' hSw
        (try dsimp only at hSw)
        go_simp <;> with_reducible rfl
      try simp only [Act.put, List.setIfInBounds_toArray, List.set_cons_zero, List.set_cons_succ]
      refine wpAnyH_take (i := 6) (oi := { dst := some 94, op := Op.extract (Operand.tmp 88) 1, type := 33, pos := "law.go:440", after := #[{ on := 4, ground := Ground.data }, { on := 7, ground := Ground.gcOnly Departure.lateStores }], guard := none }) (v := ?_) rfl (by kernel_rfl) (by kernel_rfl) (by kernel_rfl) (fun _ _ _ h => h) (Or.inl ⟨by rfl, ?_⟩) (by assumption) ?_
      rotate_left
      · intro w' hSw
        (try dsimp only at hSw)
        go_simp <;> with_reducible rfl
      try simp only [Act.put, List.setIfInBounds_toArray, List.set_cons_zero, List.set_cons_succ]
      refine wpAnyH_take (i := 7) (oi := { dst := some 18, op := Op.assign (Operand.tmp 93), type := 2, pos := "law.go:440", after := #[{ on := 5, ground := Ground.data }, { on := 3, ground := Ground.chain }, { on := 0, ground := Ground.phase }, { on := 1, ground := Ground.phase }, { on := 2, ground := Ground.phase }, { on := 3, ground := Ground.phase }, { on := 4, ground := Ground.phase }, { on := 5, ground := Ground.phase }, { on := 6, ground := Ground.textOnly Departure.lateStores }], guard := none }) (v := ?_) rfl (by kernel_rfl) (by kernel_rfl) (by kernel_rfl) (fun _ _ _ h => h) (Or.inl ⟨by rfl, ?_⟩) (by assumption) ?_
      rotate_left
      · intro w' hSw
        (try dsimp only at hSw)
        go_simp <;> with_reducible rfl
      try simp only [Act.put, List.setIfInBounds_toArray, List.set_cons_zero, List.set_cons_succ]
      refine wpAnyH_take (i := 8) (oi := { dst := some 19, op := Op.assign (Operand.tmp 94), type := 33, pos := "law.go:440", after := #[{ on := 6, ground := Ground.data }, { on := 7, ground := Ground.chain }, { on := 0, ground := Ground.phase }, { on := 1, ground := Ground.phase }, { on := 2, ground := Ground.phase }, { on := 3, ground := Ground.phase }, { on := 4, ground := Ground.phase }, { on := 5, ground := Ground.phase }, { on := 6, ground := Ground.phase }, { on := 7, ground := Ground.phase }], guard := none }) (v := ?_) rfl (by kernel_rfl) (by kernel_rfl) (by kernel_rfl) (fun _ _ _ h => h) (Or.inl ⟨by rfl, ?_⟩) (by assumption) ?_
      rotate_left
      · intro w' hSw
        (try dsimp only at hSw)
        go_simp <;> with_reducible rfl
      try simp only [Act.put, List.setIfInBounds_toArray, List.set_cons_zero, List.set_cons_succ]
      refine wpAnyH_done (by kernel_rfl) ?_ _
      clear HS hHeld
      have hz_x90_3 := hb3.size
      replace HE := hid (HE.out.trans hb3)
      replace HB_F := hid (HB_F.out.ext hb3)
      replace HB_K := hid (HB_K.out.ext hb3)
      replace HB_C := hid (HB_C.out.ext hb3)
      replace HB_N := hid (HB_N.out.ext hb3)
      replace HB_W := hid (HB_W.out.ext hb3)
      replace HB_X := hid (HB_X.out.ext hb3)
      replace HB_S := hid (HB_S.out.ext hb3)
      replace HB_V := hid (HB_V.out.ext hb3)
      replace k15 := k15.ext hb3
      replace k14 := k14.ext hb3
      replace k40 := k40.ext hb3
      obtain ⟨c_91, c_92⟩ := HB_F.out.c2
      obtain ⟨c_93, c_94, c_95, c_96, c_97, c_98⟩ := HB_K.out.c6
      obtain ⟨c_99, c_100, c_101, c_102, c_103, c_104⟩ := HB_C.out.c6
      obtain ⟨c_105, c_106, c_107⟩ := HB_N.out.c3
      obtain ⟨c_108, c_109⟩ := HB_W.out.c2
      obtain ⟨c_110, c_111, c_112⟩ := HB_X.out.c3
      obtain ⟨c_113, c_114, c_115⟩ := HB_S.out.c3
      obtain ⟨c_116, c_117⟩ := HB_V.out.c2
      go_wp2_with fail
      clear c_91 c_92 c_93 c_94 c_95 c_96 c_97 c_98 c_99 c_100 c_101 c_102 c_103 c_104 c_105 c_106 c_107 c_108 c_109 c_110 c_111 c_112 c_113 c_114 c_115 c_116 c_117
      refine (CTX.out _ _ k14 (HT.out.ext HE.out)).mono ?_
      rintro e w13 ⟨rfl, g13⟩
      have hz_w13 := g13.size
      replace HE := hid (HE.out.trans g13)
      replace HB_F := hid (HB_F.out.ext g13)
      replace HB_K := hid (HB_K.out.ext g13)
      replace HB_C := hid (HB_C.out.ext g13)
      replace HB_N := hid (HB_N.out.ext g13)
      replace HB_W := hid (HB_W.out.ext g13)
      replace HB_X := hid (HB_X.out.ext g13)
      replace HB_S := hid (HB_S.out.ext g13)
      replace HB_V := hid (HB_V.out.ext g13)
      replace k15 := k15.ext g13
      replace k14 := k14.ext g13
      replace k40 := k40.ext g13
      obtain ⟨c_118, c_119⟩ := HB_F.out.c2
      obtain ⟨c_120, c_121, c_122, c_123, c_124, c_125⟩ := HB_K.out.c6
      obtain ⟨c_126, c_127, c_128, c_129, c_130, c_131⟩ := HB_C.out.c6
      obtain ⟨c_132, c_133, c_134⟩ := HB_N.out.c3
      obtain ⟨c_135, c_136⟩ := HB_W.out.c2
      obtain ⟨c_137, c_138, c_139⟩ := HB_X.out.c3
      obtain ⟨c_140, c_141, c_142⟩ := HB_S.out.c3
      obtain ⟨c_143, c_144⟩ := HB_V.out.c2
      go_wp2_with fail
      clear c_118 c_119 c_120 c_121 c_122 c_123 c_124 c_125 c_126 c_127 c_128 c_129 c_130 c_131 c_132 c_133 c_134 c_135 c_136 c_137 c_138 c_139 c_140 c_141 c_142 c_143 c_144
      refine (CDI.out _ (HT.out.ext HE.out)).mono ?_
      rintro e w14 ⟨rfl, g14⟩
      have hz_w14 := g14.size
      replace HE := hid (HE.out.trans g14)
      replace HB_F := hid (HB_F.out.ext g14)
      replace HB_K := hid (HB_K.out.ext g14)
      replace HB_C := hid (HB_C.out.ext g14)
      replace HB_N := hid (HB_N.out.ext g14)
      replace HB_W := hid (HB_W.out.ext g14)
      replace HB_X := hid (HB_X.out.ext g14)
      replace HB_S := hid (HB_S.out.ext g14)
      replace HB_V := hid (HB_V.out.ext g14)
      replace k15 := k15.ext g14
      replace k14 := k14.ext g14
      replace k40 := k40.ext g14
      have gA := Ext.alloc w14 (.cells #[.int .u64 0, .int .u64 60] 26)
      obtain ⟨c_145, c_146⟩ := (HB_F.out.ext gA).c2
      obtain ⟨c_147, c_148, c_149, c_150, c_151, c_152⟩ := (HB_K.out.ext gA).c6
      obtain ⟨c_153, c_154, c_155, c_156, c_157, c_158⟩ := (HB_C.out.ext gA).c6
      obtain ⟨c_159, c_160, c_161⟩ := (HB_N.out.ext gA).c3
      obtain ⟨c_162, c_163⟩ := (HB_W.out.ext gA).c2
      obtain ⟨c_164, c_165, c_166⟩ := (HB_X.out.ext gA).c3
      obtain ⟨c_167, c_168, c_169⟩ := (HB_S.out.ext gA).c3
      obtain ⟨c_170, c_171⟩ := (HB_V.out.ext gA).c2
      go_wp2_with fail
      clear gA c_145 c_146 c_147 c_148 c_149 c_150 c_151 c_152 c_153 c_154 c_155 c_156 c_157 c_158 c_159 c_160 c_161 c_162 c_163 c_164 c_165 c_166 c_167 c_168 c_169 c_170 c_171
      obtain ⟨W15, hW15, g15, hy15, B_D⟩ := pro1 w14 #[.int .u64 0, .int .u64 60] 26
      rw [← hW15]
      clear hW15
      have hz_W15 := g15.size
      replace HE := hid (HE.out.trans g15)
      replace HB_F := hid (HB_F.out.ext g15)
      replace HB_K := hid (HB_K.out.ext g15)
      replace HB_C := hid (HB_C.out.ext g15)
      replace HB_N := hid (HB_N.out.ext g15)
      replace HB_W := hid (HB_W.out.ext g15)
      replace HB_X := hid (HB_X.out.ext g15)
      replace HB_S := hid (HB_S.out.ext g15)
      replace HB_V := hid (HB_V.out.ext g15)
      replace k15 := k15.ext g15
      replace k14 := k14.ext g15
      replace k40 := k40.ext g15
      have HB_D := hid B_D
      clear B_D
      refine (CSQ.out _ (HT.out.ext HE.out)).mono ?_
      rintro e w16 ⟨rfl, g16⟩
      have hz_w16 := g16.size
      replace HE := hid (HE.out.trans g16)
      replace HB_F := hid (HB_F.out.ext g16)
      replace HB_K := hid (HB_K.out.ext g16)
      replace HB_C := hid (HB_C.out.ext g16)
      replace HB_N := hid (HB_N.out.ext g16)
      replace HB_W := hid (HB_W.out.ext g16)
      replace HB_X := hid (HB_X.out.ext g16)
      replace HB_S := hid (HB_S.out.ext g16)
      replace HB_V := hid (HB_V.out.ext g16)
      replace HB_D := hid (HB_D.out.ext g16)
      replace k15 := k15.ext g16
      replace k14 := k14.ext g16
      replace k40 := k40.ext g16
      have gA := Ext.alloc w16 (.cells #[.int .u64 0, .int .u64 30] 26)
      obtain ⟨c_172, c_173⟩ := (HB_F.out.ext gA).c2
      obtain ⟨c_174, c_175, c_176, c_177, c_178, c_179⟩ := (HB_K.out.ext gA).c6
      obtain ⟨c_180, c_181, c_182, c_183, c_184, c_185⟩ := (HB_C.out.ext gA).c6
      obtain ⟨c_186, c_187, c_188⟩ := (HB_N.out.ext gA).c3
      obtain ⟨c_189, c_190⟩ := (HB_W.out.ext gA).c2
      obtain ⟨c_191, c_192, c_193⟩ := (HB_X.out.ext gA).c3
      obtain ⟨c_194, c_195, c_196⟩ := (HB_S.out.ext gA).c3
      obtain ⟨c_197, c_198⟩ := (HB_V.out.ext gA).c2
      obtain ⟨c_199, c_200⟩ := (HB_D.out.ext gA).c2
      go_wp2_with fail
      clear gA c_172 c_173 c_174 c_175 c_176 c_177 c_178 c_179 c_180 c_181 c_182 c_183 c_184 c_185 c_186 c_187 c_188 c_189 c_190 c_191 c_192 c_193 c_194 c_195 c_196 c_197 c_198 c_199 c_200
      obtain ⟨W17, hW17, g17, hy17, B_R⟩ := pro1 w16 #[.int .u64 0, .int .u64 30] 26
      rw [← hW17]
      clear hW17
      have hz_W17 := g17.size
      replace HE := hid (HE.out.trans g17)
      replace HB_F := hid (HB_F.out.ext g17)
      replace HB_K := hid (HB_K.out.ext g17)
      replace HB_C := hid (HB_C.out.ext g17)
      replace HB_N := hid (HB_N.out.ext g17)
      replace HB_W := hid (HB_W.out.ext g17)
      replace HB_X := hid (HB_X.out.ext g17)
      replace HB_S := hid (HB_S.out.ext g17)
      replace HB_V := hid (HB_V.out.ext g17)
      replace HB_D := hid (HB_D.out.ext g17)
      replace k15 := k15.ext g17
      replace k14 := k14.ext g17
      replace k40 := k40.ext g17
      have HB_R := hid B_R
      clear B_R
      refine (CW.out _ (HP.out.ext HE.out) (HT.out.ext HE.out)).mono ?_
      rintro e w18 ⟨rfl, g18⟩
      have hz_w18 := g18.size
      replace HE := hid (HE.out.trans g18)
      replace HB_F := hid (HB_F.out.ext g18)
      replace HB_K := hid (HB_K.out.ext g18)
      replace HB_C := hid (HB_C.out.ext g18)
      replace HB_N := hid (HB_N.out.ext g18)
      replace HB_W := hid (HB_W.out.ext g18)
      replace HB_X := hid (HB_X.out.ext g18)
      replace HB_S := hid (HB_S.out.ext g18)
      replace HB_V := hid (HB_V.out.ext g18)
      replace HB_D := hid (HB_D.out.ext g18)
      replace HB_R := hid (HB_R.out.ext g18)
      replace k15 := k15.ext g18
      replace k14 := k14.ext g18
      replace k40 := k40.ext g18
      obtain ⟨c_201, c_202⟩ := HB_F.out.c2
      obtain ⟨c_203, c_204, c_205, c_206, c_207, c_208⟩ := HB_K.out.c6
      obtain ⟨c_209, c_210, c_211, c_212, c_213, c_214⟩ := HB_C.out.c6
      obtain ⟨c_215, c_216, c_217⟩ := HB_N.out.c3
      obtain ⟨c_218, c_219⟩ := HB_W.out.c2
      obtain ⟨c_220, c_221, c_222⟩ := HB_X.out.c3
      obtain ⟨c_223, c_224, c_225⟩ := HB_S.out.c3
      obtain ⟨c_226, c_227⟩ := HB_V.out.c2
      obtain ⟨c_228, c_229⟩ := HB_D.out.c2
      obtain ⟨c_230, c_231⟩ := HB_R.out.c2
      go_wp2_with fail
      clear c_201 c_202 c_203 c_204 c_205 c_206 c_207 c_208 c_209 c_210 c_211 c_212 c_213 c_214 c_215 c_216 c_217 c_218 c_219 c_220 c_221 c_222 c_223 c_224 c_225 c_226 c_227 c_228 c_229 c_230 c_231
      refine bodyPost_ret (v := .bool true) (by simp [results, Tryz.results4, go_sem]) rfl ⟨rfl, HE.out⟩
end Go.Proofs.YtpdjenblkgaffaaGreatDoor
