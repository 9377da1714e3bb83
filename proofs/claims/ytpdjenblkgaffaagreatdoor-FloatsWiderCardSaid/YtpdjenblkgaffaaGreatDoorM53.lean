/- floats: Has, of whatever number. -/
import Derived.Test.YtpdjenblkgaffaaGreatDoorM39
import Derived.Test.YtpdjenblkgaffaaGreatDoorM52
import Derived.Test.YtpdjenblkgaffaaGreatDoorM49
namespace Go.Proofs.YtpdjenblkgaffaaGreatDoor
open Go.RowKit Vn

set_option maxRecDepth 100000 in
set_option maxHeartbeats 4000000 in
theorem Has_good (E P : Nat) (x : Value) (q : Rat) (K : Nat) (h : Bool) (w : World) (hF : Fmt E P) (hx : NumV w x q) (sx : SmQ K q) (hK : K ≤ 16000) (hh : h = true ↔ (IsVal P (bias E) q ∧ absQ q ≤ grQ P (bias E))) :
   Calls Tryz.prog 10 #[.agg #[.int .i64 (E : Nat), .int .i64 (P : Nat)], x] w fun e w' => e = .returned (.bool h) ∧ Ext w w' := by
  obtain ⟨ng, a, n, c, a', n', c', rfl⟩ := hx.shape
  have hE : 2 ≤ E ∧ E ≤ 11 := by unfold Fmt at hF; omega
  have hP : 2 ≤ P ∧ P ≤ 113 := by unfold Fmt at hF; omega
  have hb : bias E ≤ 1023 := by
    have : 2 ^ (E - 1) ≤ 1024 := Nat.pow_le_pow_right (n := 2) (by decide) (show E - 1 ≤ 10 by omega)
    unfold bias; omega
  have HX := hid hx
  have CW : Hid (∀ (w : World), Calls Tryz.prog 24 #[.agg #[.int .i64 (E : Nat), .int .i64 (P : Nat)], .int .i64 0, .slice none 0 0] w fun e w' => e = .returned (.tuple #[.agg #[.int .i64 (E : Nat), .int .i64 (P : Nat), .int .i64 0, .int .i64 (bias E : Nat)], .int .i64 0]) ∧ Ext w w') := hid fun w => by
    have := with_good E P 0 _ [] w (by decide) hF (WSl.nil w)
    rwa [show withRes E P 0 [] = .tuple #[.agg #[.int .i64 (E : Nat), .int .i64 (P : Nat), .int .i64 0, .int .i64 (bias E : Nat)], .int .i64 0] from by unfold withRes; rw [if_pos (fun x hx => by simp at hx)]; rfl] at this
  obtain ⟨s0, hs0⟩ : ∃ s, s = q.num.sign := ⟨_, rfl⟩
  obtain ⟨l, hl0⟩ := log_there q
  have HL : Hid (q.num ≠ 0 → IsLog (absQ q) l) := hid fun h => hl0 (fun e => h (by rw [e]; rfl))
  have hlb : q.num ≠ 0 → -17000 ≤ l ∧ l ≤ 17000 := fun h0 => by
    have := (HL.out h0).bound sx.absQ
    omega
  obtain ⟨s, hs⟩ : ∃ s : Int, s = max l (1 - (bias E : Int)) - P + 1 := ⟨_, rfl⟩
  obtain ⟨ii, hii⟩ : ∃ i : Bool, i = decide ((q * (2 : Rat) ^ (-s)).den = 1) := ⟨_, rfl⟩
  have hi2 : q.num ≠ 0 → (ii = true ↔ IsVal P (bias E) q) := fun h0 => by
    rw [hii, hs, decide_eq_true_iff]; exact isVal_iff_int (HL.out h0)
  have CSG : Hid (∀ v w, NumV w v q → Calls Tryz.prog 30 #[v] w fun e w' => e = .returned (.int .i64 s0) ∧ Ext w w') := hid fun v w h => by rw [hs0]; exact sign_c v q w h
  have CLG : Hid (q.num ≠ 0 → ∀ v w, NumV w v q → Calls Tryz.prog 33 #[v] w fun e w' => e = .returned (.int .i64 l) ∧ Ext w w') := hid fun h0 v w h => (flogA_c v q K w h sx (by omega) h0).mono fun e w' ⟨l', h1, h2, h3⟩ => ⟨by rw [h1, h2.unique (HL.out h0)], h3⟩
  have HST : Hid (q.num ≠ 0 → ∀ w, Calls Tryz.prog 32 #[.agg #[.int .i64 (E : Nat), .int .i64 (P : Nat), .int .i64 0, .int .i64 (bias E : Nat)], .int .i64 l] w fun e w' => e = .returned (.int .i64 s) ∧ Ext w w') := hid fun h0 w => by
    have := hlb h0
    rw [hs]
    exact step_c E P 0 (bias E) l w hP hb (by omega)
  have hsb : q.num ≠ 0 → -20000 ≤ s ∧ s ≤ 20000 := fun h0 => by have := hlb h0; omega
  have CSH : Hid (q.num ≠ 0 → ∀ v w, NumV w v q → _) := hid fun h0 v w h => shift_c v q K (-s) w h sx (by have := hsb h0; omega) (by have := hsb h0; omega) (by omega)
  have CII : Hid (∀ v w, NumV w v (q * (2 : Rat) ^ (-s)) → Calls Tryz.prog 34 #[v] w fun e w' => e = .returned (.bool ii) ∧ Ext w w') := hid fun v w h => by
    have := isInt_c v _ w h
    rwa [← hii] at this
  have CAB : Hid (∀ v w, NumV w v q → Calls Tryz.prog 35 #[v] w fun e w' => ∃ z, e = .returned z ∧ NumV w' z (absQ q) ∧ Ext w w') := hid fun v w h => abs_c v q w h
  have CGR : Hid (∀ w, Calls Tryz.prog 27 #[.agg #[.int .i64 (E : Nat), .int .i64 (P : Nat), .int .i64 0, .int .i64 (bias E : Nat)]] w fun e w' => ∃ v, e = .returned v ∧ NumV w' v (grQ P (bias E)) ∧ Ext w w') := hid fun w => greatest_c E P 0 (bias E) w hP hb
  obtain ⟨cG, hcG⟩ : ∃ s, s = cmpQ (absQ q) (grQ P (bias E)) := ⟨_, rfl⟩
  have hcg : cG ≤ 0 ↔ absQ q ≤ grQ P (bias E) := by rw [hcG]; exact cmpQ_iff
  have sg : SmQ 16000 (grQ P (bias E)) := grQ_sm hP hb
  have CCM : Hid (∀ u v w, NumV w u (absQ q) → NumV w v (grQ P (bias E)) → Calls Tryz.prog 13 #[u, v] w fun e w' => e = .returned (.int .i64 cG) ∧ Ext w w') := hid fun u v w h k => by
    rw [hcG]; exact Cmp_c u v _ _ 16000 w h k (sx.absQ.mono hK) sg (by decide)
  have HS0 := hid hs0; have HH := hid hh; have HCG := hid hcg; have HI2 := hid hi2; have HSB := hid hsb
  clear hF hx sx hK hh hE hP hb hs0 hcG sg hl0 hlb hs hii hi2 hcg hsb
  obtain ⟨W0, hW0, g0, hz0, B_F, B_X⟩ := pro2s w #[.int .i64 (E : Nat), .int .i64 (P : Nat)] #[.bool ng, .slice a n c, .slice a' n' c'] 23 32
  have HE := hid g0
  have HB_F := hid B_F
  have HB_X := hid B_X
  clear g0 B_F B_X 
  go_enter Tryz.func10, Tryz.ntmps10
  go_upto_region 1 with (fail)
  rw [← hW0]
  clear hW0
  have kx := HX.out.ext HE.out
  obtain ⟨c_1, c_2⟩ := HB_F.out.c2
  obtain ⟨c_3, c_4, c_5⟩ := HB_X.out.c3
  go_wp2_with fail
  clear c_1 c_2 c_3 c_4 c_5
  refine (CW.out _).mono ?_
  rintro e w1 ⟨rfl, g1⟩
  have hz_w1 := g1.size
  replace HE := hid (HE.out.trans g1)
  replace HB_F := hid (HB_F.out.ext g1)
  replace HB_X := hid (HB_X.out.ext g1)
  replace kx := kx.ext g1
  have gA := Ext.alloc w1 (.cells #[.int .i64 (E : Nat), .int .i64 (P : Nat), .int .i64 0, .int .i64 (bias E : Nat)] 63)
  obtain ⟨c_6, c_7⟩ := (HB_F.out.ext gA).c2
  obtain ⟨c_8, c_9, c_10⟩ := (HB_X.out.ext gA).c3
  go_wp2_with fail
  clear gA c_6 c_7 c_8 c_9 c_10
  obtain ⟨W2, hW2, g2, hy2, B_M⟩ := pro1 w1 #[.int .i64 (E : Nat), .int .i64 (P : Nat), .int .i64 0, .int .i64 (bias E : Nat)] 63
  rw [← hW2]
  clear hW2
  have hz_W2 := g2.size
  replace HE := hid (HE.out.trans g2)
  replace HB_F := hid (HB_F.out.ext g2)
  replace HB_X := hid (HB_X.out.ext g2)
  replace kx := kx.ext g2
  have HB_M := hid B_M
  clear B_M
  refine (CSG.out _ _ kx).mono ?_
  rintro e w3 ⟨rfl, g3⟩
  have hz_w3 := g3.size
  replace HE := hid (HE.out.trans g3)
  replace HB_F := hid (HB_F.out.ext g3)
  replace HB_X := hid (HB_X.out.ext g3)
  replace HB_M := hid (HB_M.out.ext g3)
  replace kx := kx.ext g3
  by_cases h0 : s0 = 0
  · subst h0
    have ht : Hid (h = true) := hid (HH.out.2 (by
      have : q = 0 := Rat.num_eq_zero.1 (Int.sign_eq_zero_iff_zero.1 HS0.out.symm)
      rw [this, absQ_nonneg Rat.le_refl]
      exact ⟨IsVal.zero _ _, grQ_nonneg _ _⟩))
    obtain ⟨c_11, c_12⟩ := HB_F.out.c2
    obtain ⟨c_13, c_14, c_15⟩ := HB_X.out.c3
    obtain ⟨c_16, c_17, c_18, c_19⟩ := HB_M.out.c4
    go_wp2_with fail
    clear c_11 c_12 c_13 c_14 c_15 c_16 c_17 c_18 c_19
    refine bodyPost_ret (v := .bool true) (by simp [results, Tryz.results10, go_sem]) rfl ⟨by rw [ht.out], HE.out⟩
  · have hq0 : q.num ≠ 0 := fun e => h0 (by rw [HS0.out, e]; rfl)
    have HQ0 := hid hq0
    have hsb : (s0 == 0) = false := beq_eq_false_iff_ne.2 h0
    have hsr := HSB.out hq0
    obtain ⟨hs1, hs2⟩ := hsr
    have hw2 : wrap64 (-s) = -s := (IntWalk.i64_left (-s)).symm.trans (by rw [IntKind.wrap_i64]; omega)
    have hw3 : IntKind.i64.wrap (-s) = -s := IntWalk.i64_in _ (by omega)
    clear hq0
    obtain ⟨c_11, c_12⟩ := HB_F.out.c2
    obtain ⟨c_13, c_14, c_15⟩ := HB_X.out.c3
    obtain ⟨c_16, c_17, c_18, c_19⟩ := HB_M.out.c4
    go_wp2_with fail
    clear c_11 c_12 c_13 c_14 c_15 c_16 c_17 c_18 c_19
    have hii : ii = true ↔ IsVal P (bias E) q := HI2.out HQ0.out
    have HII := hid hii
    clear hii
    by_cases hi : ii = true
    · subst hi
      by_cases hc : cG ≤ 0
      · have ht : Hid (h = true) := hid (HH.out.2 ⟨HII.out.1 rfl, HCG.out.1 hc⟩)
        have HS : Hid (∀ w', Ext w3 w' → w'.cell? ⟨w1.heap.size, 0, none⟩ = some (.int .i64 (E : Nat)) ∧ w'.cell? ⟨w1.heap.size, 1, none⟩ = some (.int .i64 (P : Nat)) ∧ w'.cell? ⟨w1.heap.size, 2, none⟩ = some (.int .i64 0) ∧ w'.cell? ⟨w1.heap.size, 3, none⟩ = some (.int .i64 (bias E : Nat)) ∧ w'.cell? ⟨w.heap.size + 1, 0, none⟩ = some (.bool ng) ∧ w'.cell? ⟨w.heap.size + 1, 1, none⟩ = some (.slice a n c) ∧ w'.cell? ⟨w.heap.size + 1, 2, none⟩ = some (.slice a' n' c')) := hid fun w' h => ⟨(HB_M.out.ext h).cell 0, (HB_M.out.ext h).cell 1, (HB_M.out.ext h).cell 2, (HB_M.out.ext h).cell 3, (HB_X.out.ext h).cell 0, (HB_X.out.ext h).cell 1, (HB_X.out.ext h).cell 2⟩
        have hb0 : Ext w3 w3.drew := Below.drew (Below.refl _ w3)
        refine wp_region_held_drew (S := fun w' => w'.cell? ⟨w1.heap.size, 0, none⟩ = some (.int .i64 (E : Nat)) ∧ w'.cell? ⟨w1.heap.size, 1, none⟩ = some (.int .i64 (P : Nat)) ∧ w'.cell? ⟨w1.heap.size, 2, none⟩ = some (.int .i64 0) ∧ w'.cell? ⟨w1.heap.size, 3, none⟩ = some (.int .i64 (bias E : Nat)) ∧ w'.cell? ⟨w.heap.size + 1, 0, none⟩ = some (.bool ng) ∧ w'.cell? ⟨w.heap.size + 1, 1, none⟩ = some (.slice a n c) ∧ w'.cell? ⟨w.heap.size + 1, 2, none⟩ = some (.slice a' n' c')) (by kernel_rfl) (HS.out _ hb0) (fun hHeld => ?_)
        refine wpAnyH_take (i := 0) (oi := { dst := some 19, op := Op.load 32 (Operand.tmp 3), type := 32, pos := "floats.go:144", after := #[], guard := none }) (v := ?_) rfl (by kernel_rfl) (by kernel_rfl) (by kernel_rfl) (fun _ _ _ h => h) (Or.inl ⟨by rfl, ?_⟩) (by assumption) ?_
        rotate_left
        · intro w' hSw
          (try dsimp only at hSw)
          go_simp <;> with_reducible rfl
        try simp only [Act.put, List.setIfInBounds_toArray, List.set_cons_zero, List.set_cons_succ]
        refine wpAnyH_take (i := 1) (oi := { dst := some 20, op := Op.load 63 (Operand.tmp 5), type := 63, pos := "floats.go:144", after := #[], guard := none }) (v := ?_) rfl (by kernel_rfl) (by kernel_rfl) (by kernel_rfl) (fun _ _ _ h => h) (Or.inl ⟨by rfl, ?_⟩) (by assumption) ?_
        rotate_left
        · intro w' hSw
          (try dsimp only at hSw)
          go_simp <;> with_reducible rfl
        try simp only [Act.put, List.setIfInBounds_toArray, List.set_cons_zero, List.set_cons_succ]
        refine wpAnyH_take (i := 2) (oi := { dst := some 21, op := Op.load 32 (Operand.tmp 3), type := 32, pos := "floats.go:144", after := #[], guard := none }) (v := ?_) rfl (by kernel_rfl) (by kernel_rfl) (by kernel_rfl) (fun _ _ _ h => h) (Or.inl ⟨by rfl, ?_⟩) (by assumption) ?_
        rotate_left
        · intro w' hSw
          (try dsimp only at hSw)
          go_simp <;> with_reducible rfl
        try simp only [Act.put, List.setIfInBounds_toArray, List.set_cons_zero, List.set_cons_succ]
        refine wpAnyH_ready (rs := [3]) (by kernel_rfl) (by simp) ?_
        refine AllReadyH.cons (o := { dst := some 22, op := Op.call { callee := Callee.value (Operand.func 33), args := #[Operand.tmp 21], argTypes := #[32] }, type := 3, pos := "floats.go:144", after := #[{ on := 2, ground := Ground.data }], guard := none }) rfl (fun K hK => ?_) AllReadyH.nil
        go_simp
        refine (CLG.out HQ0.out _ _ (kx.ext hb0)).mono ?_
        rintro e x20_1 ⟨rfl, g1⟩
        have hb1 : Ext w3 x20_1 := hb0.trans g1
        try dsimp only
        refine hK.out _ _ (HS.out _ hb1) ?_
        clear hHeld
        intro hHeld
        clear hK K
        try simp only [Act.put, List.setIfInBounds_toArray, List.set_cons_zero, List.set_cons_succ]
        refine wpAnyH_ready (rs := [4]) (by kernel_rfl) (by simp) ?_
        refine AllReadyH.cons (o := { dst := some 23, op := Op.call { callee := Callee.value (Operand.func 32), args := #[Operand.tmp 20, Operand.tmp 22], argTypes := #[63, 3] }, type := 3, pos := "floats.go:144", after := #[{ on := 1, ground := Ground.data }, { on := 3, ground := Ground.data }, { on := 3, ground := Ground.chain }], guard := none }) rfl (fun K hK => ?_) AllReadyH.nil
        go_simp
        refine (HST.out HQ0.out _).mono ?_
        rintro e x20_2 ⟨rfl, g2⟩
        have hb2 : Ext w3 x20_2 := hb1.trans g2
        try dsimp only
        refine hK.out _ _ (HS.out _ hb2) ?_
        clear hHeld
        intro hHeld
        clear hK K
        try simp only [Act.put, List.setIfInBounds_toArray, List.set_cons_zero, List.set_cons_succ]
        refine wpAnyH_take (i := 5) (oi := { dst := some 24, op := Op.unOp UnOp.neg 3 (Operand.tmp 23), type := 3, pos := "floats.go:144", after := #[{ on := 4, ground := Ground.data }], guard := none }) (v := ?_) rfl (by kernel_rfl) (by kernel_rfl) (by kernel_rfl) (fun _ _ _ h => h) (Or.inl ⟨by rfl, ?_⟩) (by assumption) ?_
        rotate_left
        · intro w' hSw
          (try dsimp only at hSw)
          go_simp <;> with_reducible rfl
        try simp only [Act.put, List.setIfInBounds_toArray, List.set_cons_zero, List.set_cons_succ]
        refine wpAnyH_ready (rs := [6]) (by kernel_rfl) (by simp) ?_
        refine AllReadyH.cons (o := { dst := some 25, op := Op.call { callee := Callee.value (Operand.func 31), args := #[Operand.tmp 19, Operand.tmp 24], argTypes := #[32, 3] }, type := 32, pos := "floats.go:144", after := #[{ on := 0, ground := Ground.data }, { on := 5, ground := Ground.data }, { on := 4, ground := Ground.chain }], guard := none }) rfl (fun K hK => ?_) AllReadyH.nil
        go_simp
        refine (CSH.out HQ0.out _ _ (kx.ext hb2)).mono ?_
        rintro e x20_3 ⟨v3, rfl, k3, g3⟩
        have hb3 : Ext w3 x20_3 := hb2.trans g3
        try dsimp only
        refine hK.out _ _ (HS.out _ hb3) ?_
        clear hHeld
        intro hHeld
        clear hK K
        try simp only [Act.put, List.setIfInBounds_toArray, List.set_cons_zero, List.set_cons_succ]
        refine wpAnyH_ready (rs := [7]) (by kernel_rfl) (by simp) ?_
        refine AllReadyH.cons (o := { dst := some 26, op := Op.call { callee := Callee.value (Operand.func 34), args := #[Operand.tmp 25], argTypes := #[32] }, type := 4, pos := "floats.go:144", after := #[{ on := 6, ground := Ground.data }, { on := 6, ground := Ground.chain }], guard := none }) rfl (fun K hK => ?_) AllReadyH.nil
        go_simp
        refine (CII.out _ _ k3).mono ?_
        rintro e x20_4 ⟨rfl, g4⟩
        have hb4 : Ext w3 x20_4 := hb3.trans g4
        try dsimp only
        refine hK.out _ _ (HS.out _ hb4) ?_
        clear hHeld
        intro hHeld
        clear hK K
        try simp only [Act.put, List.setIfInBounds_toArray, List.set_cons_zero, List.set_cons_succ]
        refine wpAnyH_take (i := 8) (oi := { dst := some 27, op := Op.move (Operand.tmp 26), type := 4, pos := "floats.go:144", after := #[{ on := 7, ground := Ground.data }, { on := 7, ground := Ground.chain }], guard := none }) (v := ?_) rfl (by kernel_rfl) (by kernel_rfl) (by kernel_rfl) (fun _ _ _ h => h) (Or.inl ⟨by rfl, ?_⟩) (by assumption) ?_
        rotate_left
        · intro w' hSw
          (try dsimp only at hSw)
          go_simp <;> with_reducible rfl
        try simp only [Act.put, List.setIfInBounds_toArray, List.set_cons_zero, List.set_cons_succ]
        refine wpAnyH_take (i := 9) (oi := { dst := some 28, op := Op.load 32 (Operand.tmp 3), type := 32, pos := "floats.go:144", after := #[{ on := 8, ground := Ground.guard }], guard := some (8, true) }) (v := ?_) rfl (by kernel_rfl) (by kernel_rfl) (by kernel_rfl) (fun _ _ _ h => h) (Or.inl ⟨by rfl, ?_⟩) (by assumption) ?_
        rotate_left
        · intro w' hSw
          (try dsimp only at hSw)
          go_simp <;> with_reducible rfl
        try simp only [Act.put, List.setIfInBounds_toArray, List.set_cons_zero, List.set_cons_succ]
        refine wpAnyH_take (i := 11) (oi := { dst := some 30, op := Op.load 63 (Operand.tmp 5), type := 63, pos := "floats.go:144", after := #[{ on := 8, ground := Ground.guard }], guard := some (8, true) }) (v := ?_) rfl (by kernel_rfl) (by kernel_rfl) (by kernel_rfl) (fun _ _ _ h => h) (Or.inl ⟨by rfl, ?_⟩) (by assumption) ?_
        rotate_left
        · intro w' hSw
          (try dsimp only at hSw)
          go_simp <;> with_reducible rfl
        try simp only [Act.put, List.setIfInBounds_toArray, List.set_cons_zero, List.set_cons_succ]
        refine wpAnyH_ready (rs := [10]) (by kernel_rfl) (by simp) ?_
        refine AllReadyH.cons (o := { dst := some 29, op := Op.call { callee := Callee.value (Operand.func 35), args := #[Operand.tmp 28], argTypes := #[32] }, type := 32, pos := "floats.go:144", after := #[{ on := 9, ground := Ground.data }, { on := 8, ground := Ground.chain }, { on := 8, ground := Ground.guard }], guard := some (8, true) }) rfl (fun K hK => ?_) AllReadyH.nil
        go_simp
        refine (CAB.out _ _ (kx.ext hb4)).mono ?_
        rintro e x20_5 ⟨v5, rfl, k5, g5⟩
        have hb5 : Ext w3 x20_5 := hb4.trans g5
        try dsimp only
        refine hK.out _ _ (HS.out _ hb5) ?_
        clear hHeld
        intro hHeld
        clear hK K
        try simp only [Act.put, List.setIfInBounds_toArray, List.set_cons_zero, List.set_cons_succ]
        refine wpAnyH_ready (rs := [12]) (by kernel_rfl) (by simp) ?_
        refine AllReadyH.cons (o := { dst := some 31, op := Op.call { callee := Callee.value (Operand.func 27), args := #[Operand.tmp 30], argTypes := #[63] }, type := 32, pos := "floats.go:144", after := #[{ on := 11, ground := Ground.data }, { on := 10, ground := Ground.chain }, { on := 8, ground := Ground.guard }], guard := some (8, true) }) rfl (fun K hK => ?_) AllReadyH.nil
        go_simp
        refine (CGR.out _).mono ?_
        rintro e x20_6 ⟨v6, rfl, k6, g6⟩
        have hb6 : Ext w3 x20_6 := hb5.trans g6
        try dsimp only
        refine hK.out _ _ (HS.out _ hb6) ?_
        clear hHeld
        intro hHeld
        clear hK K
        try simp only [Act.put, List.setIfInBounds_toArray, List.set_cons_zero, List.set_cons_succ]
        refine wpAnyH_ready (rs := [13]) (by kernel_rfl) (by simp) ?_
        refine AllReadyH.cons (o := { dst := some 32, op := Op.call { callee := Callee.value (Operand.func 13), args := #[Operand.tmp 29, Operand.tmp 31], argTypes := #[32, 32] }, type := 3, pos := "floats.go:144", after := #[{ on := 10, ground := Ground.data }, { on := 12, ground := Ground.data }, { on := 12, ground := Ground.chain }, { on := 8, ground := Ground.guard }], guard := some (8, true) }) rfl (fun K hK => ?_) AllReadyH.nil
        go_simp
        refine (CCM.out _ _ _ (k5.ext g6) k6).mono ?_
        rintro e x20_7 ⟨rfl, g7⟩
        have hb7 : Ext w3 x20_7 := hb6.trans g7
        try dsimp only
        refine hK.out _ _ (HS.out _ hb7) ?_
        clear hHeld
        intro hHeld
        clear hK K
        try simp only [Act.put, List.setIfInBounds_toArray, List.set_cons_zero, List.set_cons_succ]
        refine wpAnyH_take (i := 14) (oi := { dst := some 33, op := Op.binOp BinOp.leq 3 (Operand.tmp 32) (Operand.const (Value.int IntKind.i64 0)) 3, type := 4, pos := "floats.go:144", after := #[{ on := 13, ground := Ground.data }, { on := 8, ground := Ground.guard }], guard := some (8, true) }) (v := ?_) rfl (by kernel_rfl) (by kernel_rfl) (by kernel_rfl) (fun _ _ _ h => h) (Or.inl ⟨by rfl, ?_⟩) (by assumption) ?_
        rotate_left
        · intro w' hSw
          (try dsimp only at hSw)
          go_simp <;> with_reducible rfl
        try simp only [Act.put, List.setIfInBounds_toArray, List.set_cons_zero, List.set_cons_succ]
        refine wpAnyH_take (i := 15) (oi := { dst := some 34, op := Op.pick (Operand.tmp 27) (Operand.tmp 33) (Operand.const (Value.bool false)), type := 4, pos := "floats.go:144", after := #[{ on := 8, ground := Ground.data }, { on := 14, ground := Ground.data }], guard := none }) (v := ?_) rfl (by kernel_rfl) (by kernel_rfl) (by kernel_rfl) (fun _ _ _ h => h) (Or.inl ⟨by rfl, ?_⟩) (by assumption) ?_
        rotate_left
        · intro w' hSw
          (try dsimp only at hSw)
          go_simp <;> with_reducible rfl
        try simp only [Act.put, List.setIfInBounds_toArray, List.set_cons_zero, List.set_cons_succ]
        refine wpAnyH_take (i := 16) (oi := { dst := some 4, op := Op.assign (Operand.tmp 34), type := 4, pos := "floats.go:144", after := #[{ on := 15, ground := Ground.data }, { on := 13, ground := Ground.chain }, { on := 0, ground := Ground.phase }, { on := 1, ground := Ground.phase }, { on := 2, ground := Ground.phase }, { on := 3, ground := Ground.phase }, { on := 4, ground := Ground.phase }, { on := 5, ground := Ground.phase }, { on := 6, ground := Ground.phase }, { on := 7, ground := Ground.phase }, { on := 8, ground := Ground.phase }, { on := 9, ground := Ground.phase }, { on := 10, ground := Ground.phase }, { on := 11, ground := Ground.phase }, { on := 12, ground := Ground.phase }, { on := 13, ground := Ground.phase }, { on := 14, ground := Ground.phase }, { on := 15, ground := Ground.phase }], guard := none }) (v := ?_) rfl (by kernel_rfl) (by kernel_rfl) (by kernel_rfl) (fun _ _ _ h => h) (Or.inl ⟨by rfl, ?_⟩) (by assumption) ?_
        rotate_left
        · intro w' hSw
          (try dsimp only at hSw)
          go_simp <;> with_reducible rfl
        try simp only [Act.put, List.setIfInBounds_toArray, List.set_cons_zero, List.set_cons_succ]
        refine wpAnyH_done (by kernel_rfl) ?_ _
        clear HS hHeld
        have hz_x20_7 := hb7.size
        replace HE := hid (HE.out.trans hb7)
        replace HB_F := hid (HB_F.out.ext hb7)
        replace HB_X := hid (HB_X.out.ext hb7)
        replace HB_M := hid (HB_M.out.ext hb7)
        replace kx := kx.ext hb7
        obtain ⟨c_21, c_22⟩ := HB_F.out.c2
        obtain ⟨c_23, c_24, c_25⟩ := HB_X.out.c3
        obtain ⟨c_26, c_27, c_28, c_29⟩ := HB_M.out.c4
        go_wp2_with fail
        clear c_21 c_22 c_23 c_24 c_25 c_26 c_27 c_28 c_29
        refine bodyPost_ret (v := .bool true) (by simp [results, Tryz.results10, go_sem]) rfl ⟨by rw [ht.out], HE.out⟩
      · have hc2 : 0 < cG := by omega
        have ht : Hid (h = false) := hid (by cases h; rfl; exact absurd (HCG.out.2 (HH.out.1 rfl).2) hc)
        have HS : Hid (∀ w', Ext w3 w' → w'.cell? ⟨w1.heap.size, 0, none⟩ = some (.int .i64 (E : Nat)) ∧ w'.cell? ⟨w1.heap.size, 1, none⟩ = some (.int .i64 (P : Nat)) ∧ w'.cell? ⟨w1.heap.size, 2, none⟩ = some (.int .i64 0) ∧ w'.cell? ⟨w1.heap.size, 3, none⟩ = some (.int .i64 (bias E : Nat)) ∧ w'.cell? ⟨w.heap.size + 1, 0, none⟩ = some (.bool ng) ∧ w'.cell? ⟨w.heap.size + 1, 1, none⟩ = some (.slice a n c) ∧ w'.cell? ⟨w.heap.size + 1, 2, none⟩ = some (.slice a' n' c')) := hid fun w' h => ⟨(HB_M.out.ext h).cell 0, (HB_M.out.ext h).cell 1, (HB_M.out.ext h).cell 2, (HB_M.out.ext h).cell 3, (HB_X.out.ext h).cell 0, (HB_X.out.ext h).cell 1, (HB_X.out.ext h).cell 2⟩
        have hb0 : Ext w3 w3.drew := Below.drew (Below.refl _ w3)
        refine wp_region_held_drew (S := fun w' => w'.cell? ⟨w1.heap.size, 0, none⟩ = some (.int .i64 (E : Nat)) ∧ w'.cell? ⟨w1.heap.size, 1, none⟩ = some (.int .i64 (P : Nat)) ∧ w'.cell? ⟨w1.heap.size, 2, none⟩ = some (.int .i64 0) ∧ w'.cell? ⟨w1.heap.size, 3, none⟩ = some (.int .i64 (bias E : Nat)) ∧ w'.cell? ⟨w.heap.size + 1, 0, none⟩ = some (.bool ng) ∧ w'.cell? ⟨w.heap.size + 1, 1, none⟩ = some (.slice a n c) ∧ w'.cell? ⟨w.heap.size + 1, 2, none⟩ = some (.slice a' n' c')) (by kernel_rfl) (HS.out _ hb0) (fun hHeld => ?_)
        refine wpAnyH_take (i := 0) (oi := { dst := some 19, op := Op.load 32 (Operand.tmp 3), type := 32, pos := "floats.go:144", after := #[], guard := none }) (v := ?_) rfl (by kernel_rfl) (by kernel_rfl) (by kernel_rfl) (fun _ _ _ h => h) (Or.inl ⟨by rfl, ?_⟩) (by assumption) ?_
        rotate_left
        · intro w' hSw
          (try dsimp only at hSw)
          go_simp <;> with_reducible rfl
        try simp only [Act.put, List.setIfInBounds_toArray, List.set_cons_zero, List.set_cons_succ]
        refine wpAnyH_take (i := 1) (oi := { dst := some 20, op := Op.load 63 (Operand.tmp 5), type := 63, pos := "floats.go:144", after := #[], guard := none }) (v := ?_) rfl (by kernel_rfl) (by kernel_rfl) (by kernel_rfl) (fun _ _ _ h => h) (Or.inl ⟨by rfl, ?_⟩) (by assumption) ?_
        rotate_left
        · intro w' hSw
          (try dsimp only at hSw)
          go_simp <;> with_reducible rfl
        try simp only [Act.put, List.setIfInBounds_toArray, List.set_cons_zero, List.set_cons_succ]
        refine wpAnyH_take (i := 2) (oi := { dst := some 21, op := Op.load 32 (Operand.tmp 3), type := 32, pos := "floats.go:144", after := #[], guard := none }) (v := ?_) rfl (by kernel_rfl) (by kernel_rfl) (by kernel_rfl) (fun _ _ _ h => h) (Or.inl ⟨by rfl, ?_⟩) (by assumption) ?_
        rotate_left
        · intro w' hSw
          (try dsimp only at hSw)
          go_simp <;> with_reducible rfl
        try simp only [Act.put, List.setIfInBounds_toArray, List.set_cons_zero, List.set_cons_succ]
        refine wpAnyH_ready (rs := [3]) (by kernel_rfl) (by simp) ?_
        refine AllReadyH.cons (o := { dst := some 22, op := Op.call { callee := Callee.value (Operand.func 33), args := #[Operand.tmp 21], argTypes := #[32] }, type := 3, pos := "floats.go:144", after := #[{ on := 2, ground := Ground.data }], guard := none }) rfl (fun K hK => ?_) AllReadyH.nil
        go_simp
        refine (CLG.out HQ0.out _ _ (kx.ext hb0)).mono ?_
        rintro e x20_1 ⟨rfl, g1⟩
        have hb1 : Ext w3 x20_1 := hb0.trans g1
        try dsimp only
        refine hK.out _ _ (HS.out _ hb1) ?_
        clear hHeld
        intro hHeld
        clear hK K
        try simp only [Act.put, List.setIfInBounds_toArray, List.set_cons_zero, List.set_cons_succ]
        refine wpAnyH_ready (rs := [4]) (by kernel_rfl) (by simp) ?_
        refine AllReadyH.cons (o := { dst := some 23, op := Op.call { callee := Callee.value (Operand.func 32), args := #[Operand.tmp 20, Operand.tmp 22], argTypes := #[63, 3] }, type := 3, pos := "floats.go:144", after := #[{ on := 1, ground := Ground.data }, { on := 3, ground := Ground.data }, { on := 3, ground := Ground.chain }], guard := none }) rfl (fun K hK => ?_) AllReadyH.nil
        go_simp
        refine (HST.out HQ0.out _).mono ?_
        rintro e x20_2 ⟨rfl, g2⟩
        have hb2 : Ext w3 x20_2 := hb1.trans g2
        try dsimp only
        refine hK.out _ _ (HS.out _ hb2) ?_
        clear hHeld
        intro hHeld
        clear hK K
        try simp only [Act.put, List.setIfInBounds_toArray, List.set_cons_zero, List.set_cons_succ]
        refine wpAnyH_take (i := 5) (oi := { dst := some 24, op := Op.unOp UnOp.neg 3 (Operand.tmp 23), type := 3, pos := "floats.go:144", after := #[{ on := 4, ground := Ground.data }], guard := none }) (v := ?_) rfl (by kernel_rfl) (by kernel_rfl) (by kernel_rfl) (fun _ _ _ h => h) (Or.inl ⟨by rfl, ?_⟩) (by assumption) ?_
        rotate_left
        · intro w' hSw
          (try dsimp only at hSw)
          go_simp <;> with_reducible rfl
        try simp only [Act.put, List.setIfInBounds_toArray, List.set_cons_zero, List.set_cons_succ]
        refine wpAnyH_ready (rs := [6]) (by kernel_rfl) (by simp) ?_
        refine AllReadyH.cons (o := { dst := some 25, op := Op.call { callee := Callee.value (Operand.func 31), args := #[Operand.tmp 19, Operand.tmp 24], argTypes := #[32, 3] }, type := 32, pos := "floats.go:144", after := #[{ on := 0, ground := Ground.data }, { on := 5, ground := Ground.data }, { on := 4, ground := Ground.chain }], guard := none }) rfl (fun K hK => ?_) AllReadyH.nil
        go_simp
        refine (CSH.out HQ0.out _ _ (kx.ext hb2)).mono ?_
        rintro e x20_3 ⟨v3, rfl, k3, g3⟩
        have hb3 : Ext w3 x20_3 := hb2.trans g3
        try dsimp only
        refine hK.out _ _ (HS.out _ hb3) ?_
        clear hHeld
        intro hHeld
        clear hK K
        try simp only [Act.put, List.setIfInBounds_toArray, List.set_cons_zero, List.set_cons_succ]
        refine wpAnyH_ready (rs := [7]) (by kernel_rfl) (by simp) ?_
        refine AllReadyH.cons (o := { dst := some 26, op := Op.call { callee := Callee.value (Operand.func 34), args := #[Operand.tmp 25], argTypes := #[32] }, type := 4, pos := "floats.go:144", after := #[{ on := 6, ground := Ground.data }, { on := 6, ground := Ground.chain }], guard := none }) rfl (fun K hK => ?_) AllReadyH.nil
        go_simp
        refine (CII.out _ _ k3).mono ?_
        rintro e x20_4 ⟨rfl, g4⟩
        have hb4 : Ext w3 x20_4 := hb3.trans g4
        try dsimp only
        refine hK.out _ _ (HS.out _ hb4) ?_
        clear hHeld
        intro hHeld
        clear hK K
        try simp only [Act.put, List.setIfInBounds_toArray, List.set_cons_zero, List.set_cons_succ]
        refine wpAnyH_take (i := 8) (oi := { dst := some 27, op := Op.move (Operand.tmp 26), type := 4, pos := "floats.go:144", after := #[{ on := 7, ground := Ground.data }, { on := 7, ground := Ground.chain }], guard := none }) (v := ?_) rfl (by kernel_rfl) (by kernel_rfl) (by kernel_rfl) (fun _ _ _ h => h) (Or.inl ⟨by rfl, ?_⟩) (by assumption) ?_
        rotate_left
        · intro w' hSw
          (try dsimp only at hSw)
          go_simp <;> with_reducible rfl
        try simp only [Act.put, List.setIfInBounds_toArray, List.set_cons_zero, List.set_cons_succ]
        refine wpAnyH_take (i := 9) (oi := { dst := some 28, op := Op.load 32 (Operand.tmp 3), type := 32, pos := "floats.go:144", after := #[{ on := 8, ground := Ground.guard }], guard := some (8, true) }) (v := ?_) rfl (by kernel_rfl) (by kernel_rfl) (by kernel_rfl) (fun _ _ _ h => h) (Or.inl ⟨by rfl, ?_⟩) (by assumption) ?_
        rotate_left
        · intro w' hSw
          (try dsimp only at hSw)
          go_simp <;> with_reducible rfl
        try simp only [Act.put, List.setIfInBounds_toArray, List.set_cons_zero, List.set_cons_succ]
        refine wpAnyH_take (i := 11) (oi := { dst := some 30, op := Op.load 63 (Operand.tmp 5), type := 63, pos := "floats.go:144", after := #[{ on := 8, ground := Ground.guard }], guard := some (8, true) }) (v := ?_) rfl (by kernel_rfl) (by kernel_rfl) (by kernel_rfl) (fun _ _ _ h => h) (Or.inl ⟨by rfl, ?_⟩) (by assumption) ?_
        rotate_left
        · intro w' hSw
          (try dsimp only at hSw)
          go_simp <;> with_reducible rfl
        try simp only [Act.put, List.setIfInBounds_toArray, List.set_cons_zero, List.set_cons_succ]
        refine wpAnyH_ready (rs := [10]) (by kernel_rfl) (by simp) ?_
        refine AllReadyH.cons (o := { dst := some 29, op := Op.call { callee := Callee.value (Operand.func 35), args := #[Operand.tmp 28], argTypes := #[32] }, type := 32, pos := "floats.go:144", after := #[{ on := 9, ground := Ground.data }, { on := 8, ground := Ground.chain }, { on := 8, ground := Ground.guard }], guard := some (8, true) }) rfl (fun K hK => ?_) AllReadyH.nil
        go_simp
        refine (CAB.out _ _ (kx.ext hb4)).mono ?_
        rintro e x20_5 ⟨v5, rfl, k5, g5⟩
        have hb5 : Ext w3 x20_5 := hb4.trans g5
        try dsimp only
        refine hK.out _ _ (HS.out _ hb5) ?_
        clear hHeld
        intro hHeld
        clear hK K
        try simp only [Act.put, List.setIfInBounds_toArray, List.set_cons_zero, List.set_cons_succ]
        refine wpAnyH_ready (rs := [12]) (by kernel_rfl) (by simp) ?_
        refine AllReadyH.cons (o := { dst := some 31, op := Op.call { callee := Callee.value (Operand.func 27), args := #[Operand.tmp 30], argTypes := #[63] }, type := 32, pos := "floats.go:144", after := #[{ on := 11, ground := Ground.data }, { on := 10, ground := Ground.chain }, { on := 8, ground := Ground.guard }], guard := some (8, true) }) rfl (fun K hK => ?_) AllReadyH.nil
        go_simp
        refine (CGR.out _).mono ?_
        rintro e x20_6 ⟨v6, rfl, k6, g6⟩
        have hb6 : Ext w3 x20_6 := hb5.trans g6
        try dsimp only
        refine hK.out _ _ (HS.out _ hb6) ?_
        clear hHeld
        intro hHeld
        clear hK K
        try simp only [Act.put, List.setIfInBounds_toArray, List.set_cons_zero, List.set_cons_succ]
        refine wpAnyH_ready (rs := [13]) (by kernel_rfl) (by simp) ?_
        refine AllReadyH.cons (o := { dst := some 32, op := Op.call { callee := Callee.value (Operand.func 13), args := #[Operand.tmp 29, Operand.tmp 31], argTypes := #[32, 32] }, type := 3, pos := "floats.go:144", after := #[{ on := 10, ground := Ground.data }, { on := 12, ground := Ground.data }, { on := 12, ground := Ground.chain }, { on := 8, ground := Ground.guard }], guard := some (8, true) }) rfl (fun K hK => ?_) AllReadyH.nil
        go_simp
        refine (CCM.out _ _ _ (k5.ext g6) k6).mono ?_
        rintro e x20_7 ⟨rfl, g7⟩
        have hb7 : Ext w3 x20_7 := hb6.trans g7
        try dsimp only
        refine hK.out _ _ (HS.out _ hb7) ?_
        clear hHeld
        intro hHeld
        clear hK K
        try simp only [Act.put, List.setIfInBounds_toArray, List.set_cons_zero, List.set_cons_succ]
        refine wpAnyH_take (i := 14) (oi := { dst := some 33, op := Op.binOp BinOp.leq 3 (Operand.tmp 32) (Operand.const (Value.int IntKind.i64 0)) 3, type := 4, pos := "floats.go:144", after := #[{ on := 13, ground := Ground.data }, { on := 8, ground := Ground.guard }], guard := some (8, true) }) (v := ?_) rfl (by kernel_rfl) (by kernel_rfl) (by kernel_rfl) (fun _ _ _ h => h) (Or.inl ⟨by rfl, ?_⟩) (by assumption) ?_
        rotate_left
        · intro w' hSw
          (try dsimp only at hSw)
          go_simp <;> with_reducible rfl
        try simp only [Act.put, List.setIfInBounds_toArray, List.set_cons_zero, List.set_cons_succ]
        refine wpAnyH_take (i := 15) (oi := { dst := some 34, op := Op.pick (Operand.tmp 27) (Operand.tmp 33) (Operand.const (Value.bool false)), type := 4, pos := "floats.go:144", after := #[{ on := 8, ground := Ground.data }, { on := 14, ground := Ground.data }], guard := none }) (v := ?_) rfl (by kernel_rfl) (by kernel_rfl) (by kernel_rfl) (fun _ _ _ h => h) (Or.inl ⟨by rfl, ?_⟩) (by assumption) ?_
        rotate_left
        · intro w' hSw
          (try dsimp only at hSw)
          go_simp <;> with_reducible rfl
        try simp only [Act.put, List.setIfInBounds_toArray, List.set_cons_zero, List.set_cons_succ]
        refine wpAnyH_take (i := 16) (oi := { dst := some 4, op := Op.assign (Operand.tmp 34), type := 4, pos := "floats.go:144", after := #[{ on := 15, ground := Ground.data }, { on := 13, ground := Ground.chain }, { on := 0, ground := Ground.phase }, { on := 1, ground := Ground.phase }, { on := 2, ground := Ground.phase }, { on := 3, ground := Ground.phase }, { on := 4, ground := Ground.phase }, { on := 5, ground := Ground.phase }, { on := 6, ground := Ground.phase }, { on := 7, ground := Ground.phase }, { on := 8, ground := Ground.phase }, { on := 9, ground := Ground.phase }, { on := 10, ground := Ground.phase }, { on := 11, ground := Ground.phase }, { on := 12, ground := Ground.phase }, { on := 13, ground := Ground.phase }, { on := 14, ground := Ground.phase }, { on := 15, ground := Ground.phase }], guard := none }) (v := ?_) rfl (by kernel_rfl) (by kernel_rfl) (by kernel_rfl) (fun _ _ _ h => h) (Or.inl ⟨by rfl, ?_⟩) (by assumption) ?_
        rotate_left
        · intro w' hSw
          (try dsimp only at hSw)
          go_simp <;> with_reducible rfl
        try simp only [Act.put, List.setIfInBounds_toArray, List.set_cons_zero, List.set_cons_succ]
        refine wpAnyH_done (by kernel_rfl) ?_ _
        clear HS hHeld
        have hz_x20_7 := hb7.size
        replace HE := hid (HE.out.trans hb7)
        replace HB_F := hid (HB_F.out.ext hb7)
        replace HB_X := hid (HB_X.out.ext hb7)
        replace HB_M := hid (HB_M.out.ext hb7)
        replace kx := kx.ext hb7
        obtain ⟨c_21, c_22⟩ := HB_F.out.c2
        obtain ⟨c_23, c_24, c_25⟩ := HB_X.out.c3
        obtain ⟨c_26, c_27, c_28, c_29⟩ := HB_M.out.c4
        go_wp2_with fail
        clear c_21 c_22 c_23 c_24 c_25 c_26 c_27 c_28 c_29
        refine bodyPost_ret (v := .bool false) (by simp [results, Tryz.results10, go_sem]) rfl ⟨by rw [ht.out], HE.out⟩
    · obtain rfl : ii = false := by cases ii; rfl; exact absurd rfl hi
      have ht : Hid (h = false) := hid (by cases h; rfl; exact absurd (HII.out.2 (HH.out.1 rfl).1) (by decide))
      clear hi
      have HS : Hid (∀ w', Ext w3 w' → w'.cell? ⟨w1.heap.size, 0, none⟩ = some (.int .i64 (E : Nat)) ∧ w'.cell? ⟨w1.heap.size, 1, none⟩ = some (.int .i64 (P : Nat)) ∧ w'.cell? ⟨w1.heap.size, 2, none⟩ = some (.int .i64 0) ∧ w'.cell? ⟨w1.heap.size, 3, none⟩ = some (.int .i64 (bias E : Nat)) ∧ w'.cell? ⟨w.heap.size + 1, 0, none⟩ = some (.bool ng) ∧ w'.cell? ⟨w.heap.size + 1, 1, none⟩ = some (.slice a n c) ∧ w'.cell? ⟨w.heap.size + 1, 2, none⟩ = some (.slice a' n' c')) := hid fun w' h => ⟨(HB_M.out.ext h).cell 0, (HB_M.out.ext h).cell 1, (HB_M.out.ext h).cell 2, (HB_M.out.ext h).cell 3, (HB_X.out.ext h).cell 0, (HB_X.out.ext h).cell 1, (HB_X.out.ext h).cell 2⟩
      have hb0 : Ext w3 w3.drew := Below.drew (Below.refl _ w3)
      refine wp_region_held_drew (S := fun w' => w'.cell? ⟨w1.heap.size, 0, none⟩ = some (.int .i64 (E : Nat)) ∧ w'.cell? ⟨w1.heap.size, 1, none⟩ = some (.int .i64 (P : Nat)) ∧ w'.cell? ⟨w1.heap.size, 2, none⟩ = some (.int .i64 0) ∧ w'.cell? ⟨w1.heap.size, 3, none⟩ = some (.int .i64 (bias E : Nat)) ∧ w'.cell? ⟨w.heap.size + 1, 0, none⟩ = some (.bool ng) ∧ w'.cell? ⟨w.heap.size + 1, 1, none⟩ = some (.slice a n c) ∧ w'.cell? ⟨w.heap.size + 1, 2, none⟩ = some (.slice a' n' c')) (by kernel_rfl) (HS.out _ hb0) (fun hHeld => ?_)
      refine wpAnyH_take (i := 0) (oi := { dst := some 19, op := Op.load 32 (Operand.tmp 3), type := 32, pos := "floats.go:144", after := #[], guard := none }) (v := ?_) rfl (by kernel_rfl) (by kernel_rfl) (by kernel_rfl) (fun _ _ _ h => h) (Or.inl ⟨by rfl, ?_⟩) (by assumption) ?_
      rotate_left
      · intro w' hSw
        (try dsimp only at hSw)
        go_simp <;> with_reducible rfl
      try simp only [Act.put, List.setIfInBounds_toArray, List.set_cons_zero, List.set_cons_succ]
      refine wpAnyH_take (i := 1) (oi := { dst := some 20, op := Op.load 63 (Operand.tmp 5), type := 63, pos := "floats.go:144", after := #[], guard := none }) (v := ?_) rfl (by kernel_rfl) (by kernel_rfl) (by kernel_rfl) (fun _ _ _ h => h) (Or.inl ⟨by rfl, ?_⟩) (by assumption) ?_
      rotate_left
      · intro w' hSw
        (try dsimp only at hSw)
        go_simp <;> with_reducible rfl
      try simp only [Act.put, List.setIfInBounds_toArray, List.set_cons_zero, List.set_cons_succ]
      refine wpAnyH_take (i := 2) (oi := { dst := some 21, op := Op.load 32 (Operand.tmp 3), type := 32, pos := "floats.go:144", after := #[], guard := none }) (v := ?_) rfl (by kernel_rfl) (by kernel_rfl) (by kernel_rfl) (fun _ _ _ h => h) (Or.inl ⟨by rfl, ?_⟩) (by assumption) ?_
      rotate_left
      · intro w' hSw
        (try dsimp only at hSw)
        go_simp <;> with_reducible rfl
      try simp only [Act.put, List.setIfInBounds_toArray, List.set_cons_zero, List.set_cons_succ]
      refine wpAnyH_ready (rs := [3]) (by kernel_rfl) (by simp) ?_
      refine AllReadyH.cons (o := { dst := some 22, op := Op.call { callee := Callee.value (Operand.func 33), args := #[Operand.tmp 21], argTypes := #[32] }, type := 3, pos := "floats.go:144", after := #[{ on := 2, ground := Ground.data }], guard := none }) rfl (fun K hK => ?_) AllReadyH.nil
      go_simp
      refine (CLG.out HQ0.out _ _ (kx.ext hb0)).mono ?_
      rintro e x20_1 ⟨rfl, g1⟩
      have hb1 : Ext w3 x20_1 := hb0.trans g1
      try dsimp only
      refine hK.out _ _ (HS.out _ hb1) ?_
      clear hHeld
      intro hHeld
      clear hK K
      try simp only [Act.put, List.setIfInBounds_toArray, List.set_cons_zero, List.set_cons_succ]
      refine wpAnyH_ready (rs := [4]) (by kernel_rfl) (by simp) ?_
      refine AllReadyH.cons (o := { dst := some 23, op := Op.call { callee := Callee.value (Operand.func 32), args := #[Operand.tmp 20, Operand.tmp 22], argTypes := #[63, 3] }, type := 3, pos := "floats.go:144", after := #[{ on := 1, ground := Ground.data }, { on := 3, ground := Ground.data }, { on := 3, ground := Ground.chain }], guard := none }) rfl (fun K hK => ?_) AllReadyH.nil
      go_simp
      refine (HST.out HQ0.out _).mono ?_
      rintro e x20_2 ⟨rfl, g2⟩
      have hb2 : Ext w3 x20_2 := hb1.trans g2
      try dsimp only
      refine hK.out _ _ (HS.out _ hb2) ?_
      clear hHeld
      intro hHeld
      clear hK K
      try simp only [Act.put, List.setIfInBounds_toArray, List.set_cons_zero, List.set_cons_succ]
      refine wpAnyH_take (i := 5) (oi := { dst := some 24, op := Op.unOp UnOp.neg 3 (Operand.tmp 23), type := 3, pos := "floats.go:144", after := #[{ on := 4, ground := Ground.data }], guard := none }) (v := ?_) rfl (by kernel_rfl) (by kernel_rfl) (by kernel_rfl) (fun _ _ _ h => h) (Or.inl ⟨by rfl, ?_⟩) (by assumption) ?_
      rotate_left
      · intro w' hSw
        (try dsimp only at hSw)
        go_simp <;> with_reducible rfl
      try simp only [Act.put, List.setIfInBounds_toArray, List.set_cons_zero, List.set_cons_succ]
      refine wpAnyH_ready (rs := [6]) (by kernel_rfl) (by simp) ?_
      refine AllReadyH.cons (o := { dst := some 25, op := Op.call { callee := Callee.value (Operand.func 31), args := #[Operand.tmp 19, Operand.tmp 24], argTypes := #[32, 3] }, type := 32, pos := "floats.go:144", after := #[{ on := 0, ground := Ground.data }, { on := 5, ground := Ground.data }, { on := 4, ground := Ground.chain }], guard := none }) rfl (fun K hK => ?_) AllReadyH.nil
      go_simp
      refine (CSH.out HQ0.out _ _ (kx.ext hb2)).mono ?_
      rintro e x20_3 ⟨v3, rfl, k3, g3⟩
      have hb3 : Ext w3 x20_3 := hb2.trans g3
      try dsimp only
      refine hK.out _ _ (HS.out _ hb3) ?_
      clear hHeld
      intro hHeld
      clear hK K
      try simp only [Act.put, List.setIfInBounds_toArray, List.set_cons_zero, List.set_cons_succ]
      refine wpAnyH_ready (rs := [7]) (by kernel_rfl) (by simp) ?_
      refine AllReadyH.cons (o := { dst := some 26, op := Op.call { callee := Callee.value (Operand.func 34), args := #[Operand.tmp 25], argTypes := #[32] }, type := 4, pos := "floats.go:144", after := #[{ on := 6, ground := Ground.data }, { on := 6, ground := Ground.chain }], guard := none }) rfl (fun K hK => ?_) AllReadyH.nil
      go_simp
      refine (CII.out _ _ k3).mono ?_
      rintro e x20_4 ⟨rfl, g4⟩
      have hb4 : Ext w3 x20_4 := hb3.trans g4
      try dsimp only
      refine hK.out _ _ (HS.out _ hb4) ?_
      clear hHeld
      intro hHeld
      clear hK K
      try simp only [Act.put, List.setIfInBounds_toArray, List.set_cons_zero, List.set_cons_succ]
      refine wpAnyH_take (i := 8) (oi := { dst := some 27, op := Op.move (Operand.tmp 26), type := 4, pos := "floats.go:144", after := #[{ on := 7, ground := Ground.data }, { on := 7, ground := Ground.chain }], guard := none }) (v := ?_) rfl (by kernel_rfl) (by kernel_rfl) (by kernel_rfl) (fun _ _ _ h => h) (Or.inl ⟨by rfl, ?_⟩) (by assumption) ?_
      rotate_left
      · intro w' hSw
        (try dsimp only at hSw)
        go_simp <;> with_reducible rfl
      try simp only [Act.put, List.setIfInBounds_toArray, List.set_cons_zero, List.set_cons_succ]
      refine wpAnyH_take (i := 9) (oi := { dst := some 28, op := Op.load 32 (Operand.tmp 3), type := 32, pos := "floats.go:144", after := #[{ on := 8, ground := Ground.guard }], guard := some (8, true) }) (v := undef) rfl (by kernel_rfl) (by kernel_rfl) (by kernel_rfl) (fun _ _ _ h => h) (Or.inr ⟨by rfl, rfl⟩) (by assumption) ?_
      try simp only [Act.put, List.setIfInBounds_toArray, List.set_cons_zero, List.set_cons_succ]
      refine wpAnyH_take (i := 10) (oi := { dst := some 29, op := Op.call { callee := Callee.value (Operand.func 35), args := #[Operand.tmp 28], argTypes := #[32] }, type := 32, pos := "floats.go:144", after := #[{ on := 9, ground := Ground.data }, { on := 8, ground := Ground.chain }, { on := 8, ground := Ground.guard }], guard := some (8, true) }) (v := undef) rfl (by kernel_rfl) (by kernel_rfl) (by kernel_rfl) (fun _ _ _ h => h) (Or.inr ⟨by rfl, rfl⟩) (by assumption) ?_
      try simp only [Act.put, List.setIfInBounds_toArray, List.set_cons_zero, List.set_cons_succ]
      refine wpAnyH_take (i := 11) (oi := { dst := some 30, op := Op.load 63 (Operand.tmp 5), type := 63, pos := "floats.go:144", after := #[{ on := 8, ground := Ground.guard }], guard := some (8, true) }) (v := undef) rfl (by kernel_rfl) (by kernel_rfl) (by kernel_rfl) (fun _ _ _ h => h) (Or.inr ⟨by rfl, rfl⟩) (by assumption) ?_
      try simp only [Act.put, List.setIfInBounds_toArray, List.set_cons_zero, List.set_cons_succ]
      refine wpAnyH_take (i := 12) (oi := { dst := some 31, op := Op.call { callee := Callee.value (Operand.func 27), args := #[Operand.tmp 30], argTypes := #[63] }, type := 32, pos := "floats.go:144", after := #[{ on := 11, ground := Ground.data }, { on := 10, ground := Ground.chain }, { on := 8, ground := Ground.guard }], guard := some (8, true) }) (v := undef) rfl (by kernel_rfl) (by kernel_rfl) (by kernel_rfl) (fun _ _ _ h => h) (Or.inr ⟨by rfl, rfl⟩) (by assumption) ?_
      try simp only [Act.put, List.setIfInBounds_toArray, List.set_cons_zero, List.set_cons_succ]
      refine wpAnyH_take (i := 13) (oi := { dst := some 32, op := Op.call { callee := Callee.value (Operand.func 13), args := #[Operand.tmp 29, Operand.tmp 31], argTypes := #[32, 32] }, type := 3, pos := "floats.go:144", after := #[{ on := 10, ground := Ground.data }, { on := 12, ground := Ground.data }, { on := 12, ground := Ground.chain }, { on := 8, ground := Ground.guard }], guard := some (8, true) }) (v := undef) rfl (by kernel_rfl) (by kernel_rfl) (by kernel_rfl) (fun _ _ _ h => h) (Or.inr ⟨by rfl, rfl⟩) (by assumption) ?_
      try simp only [Act.put, List.setIfInBounds_toArray, List.set_cons_zero, List.set_cons_succ]
      refine wpAnyH_take (i := 14) (oi := { dst := some 33, op := Op.binOp BinOp.leq 3 (Operand.tmp 32) (Operand.const (Value.int IntKind.i64 0)) 3, type := 4, pos := "floats.go:144", after := #[{ on := 13, ground := Ground.data }, { on := 8, ground := Ground.guard }], guard := some (8, true) }) (v := undef) rfl (by kernel_rfl) (by kernel_rfl) (by kernel_rfl) (fun _ _ _ h => h) (Or.inr ⟨by rfl, rfl⟩) (by assumption) ?_
      try simp only [Act.put, List.setIfInBounds_toArray, List.set_cons_zero, List.set_cons_succ]
      refine wpAnyH_take (i := 15) (oi := { dst := some 34, op := Op.pick (Operand.tmp 27) (Operand.tmp 33) (Operand.const (Value.bool false)), type := 4, pos := "floats.go:144", after := #[{ on := 8, ground := Ground.data }, { on := 14, ground := Ground.data }], guard := none }) (v := ?_) rfl (by kernel_rfl) (by kernel_rfl) (by kernel_rfl) (fun _ _ _ h => h) (Or.inl ⟨by rfl, ?_⟩) (by assumption) ?_
      rotate_left
      · intro w' hSw
        (try dsimp only at hSw)
        go_simp <;> with_reducible rfl
      try simp only [Act.put, List.setIfInBounds_toArray, List.set_cons_zero, List.set_cons_succ]
      refine wpAnyH_take (i := 16) (oi := { dst := some 4, op := Op.assign (Operand.tmp 34), type := 4, pos := "floats.go:144", after := #[{ on := 15, ground := Ground.data }, { on := 13, ground := Ground.chain }, { on := 0, ground := Ground.phase }, { on := 1, ground := Ground.phase }, { on := 2, ground := Ground.phase }, { on := 3, ground := Ground.phase }, { on := 4, ground := Ground.phase }, { on := 5, ground := Ground.phase }, { on := 6, ground := Ground.phase }, { on := 7, ground := Ground.phase }, { on := 8, ground := Ground.phase }, { on := 9, ground := Ground.phase }, { on := 10, ground := Ground.phase }, { on := 11, ground := Ground.phase }, { on := 12, ground := Ground.phase }, { on := 13, ground := Ground.phase }, { on := 14, ground := Ground.phase }, { on := 15, ground := Ground.phase }], guard := none }) (v := ?_) rfl (by kernel_rfl) (by kernel_rfl) (by kernel_rfl) (fun _ _ _ h => h) (Or.inl ⟨by rfl, ?_⟩) (by assumption) ?_
      rotate_left
      · intro w' hSw
        (try dsimp only at hSw)
        go_simp <;> with_reducible rfl
      try simp only [Act.put, List.setIfInBounds_toArray, List.set_cons_zero, List.set_cons_succ]
      refine wpAnyH_done (by kernel_rfl) ?_ _
      clear HS hHeld
      have hz_x20_4 := hb4.size
      replace HE := hid (HE.out.trans hb4)
      replace HB_F := hid (HB_F.out.ext hb4)
      replace HB_X := hid (HB_X.out.ext hb4)
      replace HB_M := hid (HB_M.out.ext hb4)
      replace kx := kx.ext hb4
      obtain ⟨c_21, c_22⟩ := HB_F.out.c2
      obtain ⟨c_23, c_24, c_25⟩ := HB_X.out.c3
      obtain ⟨c_26, c_27, c_28, c_29⟩ := HB_M.out.c4
      go_wp2_with fail
      clear c_21 c_22 c_23 c_24 c_25 c_26 c_27 c_28 c_29
      refine bodyPost_ret (v := .bool false) (by simp [results, Tryz.results10, go_sem]) rfl ⟨by rw [ht.out], HE.out⟩
end Go.Proofs.YtpdjenblkgaffaaGreatDoor

/- The law FloatsWider: true at every input. -/
namespace Go.Proofs.YtpdjenblkgaffaaGreatDoor
open Go.RowKit Vn

theorem word_halves (h l : Nat) (hl : l < 18446744073709551616) : Word (h * 18446744073709551616 + l) = .agg #[.int .u64 h, .int .u64 l] := by
  unfold Word
  have e1 : (h * 18446744073709551616 + l) / 18446744073709551616 = h := by omega
  have e2 : (h * 18446744073709551616 + l) % 18446744073709551616 = l := by omega
  rw [e1, e2]
theorem kind_le {E P n : Nat} : wkind E P n = ((wkind E P n).toNat : Int) ∧ (wkind E P n).toNat ≤ 5 := by
  have := wkind_cases E P n
  omega
theorem bool_of (p : Prop) : ∃ b : Bool, b = true ↔ p := by
  by_cases h : p
  · exact ⟨true, by simp [h]⟩
  · exact ⟨false, by simp [h]⟩
theorem casts_ok (E P E' P' M : Int) (i : Nat) (hF : Fmt E P) (hF' : Fmt E' P') (hi : InsideP P.toNat (bias E.toNat) P'.toNat (bias E'.toNat)) (hz : (valueZ E P i).2 = 0) (m0 : 0 ≤ M) (m4 : M ≤ 4) (i0 i1 : Nat) (ei : Word i = .agg #[.int .u64 i0, .int .u64 i1]) :
    CastsOk E P E' P' M i0 i1 (valueZ E P i).1 := by
  obtain ⟨_, hi2, ki, ea⟩ := valueZ_ok hz
  rw [ea]
  clear ea hz
  obtain ⟨e, p, rfl, rfl⟩ := fmt_nat hF
  obtain ⟨e', p', rfl, rfl⟩ := fmt_nat hF'
  obtain ⟨m, rfl⟩ := Int.eq_ofNat_of_zero_le m0
  simp only [Int.toNat_natCast] at *
  obtain ⟨hE, hP, _, hEP, _⟩ := fmt_bounds hF
  obtain ⟨hE', hP', _, hEP', _⟩ := fmt_bounds hF'
  obtain ⟨l, hl⟩ := log_there (wvalK e p (bias e) i)
  obtain ⟨r, hr⟩ : ∃ r, r = castR e' p' m (wkind e p i) (wn e p i) (wvalK e p (bias e) i) l := ⟨_, rfl⟩
  obtain ⟨r2, rlt, rv, rb⟩ := wider_ok (m := m) hE.1 (by omega) hE'.1 (by omega) hi2 ki hi hl r hr
  obtain ⟨_, k2, k3⟩ := value_kind rv
  obtain ⟨r0, r1, er⟩ := Word.shape r.1
  have r8 : W128 r.1 := Nat.lt_of_lt_of_le rlt (Nat.pow_le_pow_right (n := 2) (j := 128) (by decide) (by omega))
  refine ⟨r0, r1, fun w hT => ?_, fun w => ?_, fun w hT => ?_⟩
  · have k1 := kind_le (E := e) (P := p) (n := i)
    have := Cast_good e p e' p' m i _ l 5000 w hF hF' (by omega) hi2 k1.1 k1.2 (wvalK_sm hF ki) (by decide) hl hT
    rw [← k1.1, ← hr] at this
    unfold RoundPost at this
    rw [r2, er, ei] at this
    exact this
  · have := Value_good e' p' r.1 w hF' r8
    rw [rv, er] at this
    exact this
  · have k1 := kind_le (E := e') (P := p') (n := r.1)
    have := Cast_good e' p' e p m r.1 _ l 5000 w hF' hF (by omega) rlt k1.1 k1.2 (wvalK_sm hF' k2) (by decide) (by rw [k3]; exact hl) hT
    rw [← k1.1, rb] at this
    unfold RoundPost at this
    rw [er, ei] at this
    exact this

theorem wider_c (E P M E' P' : Int) (i0 i1 j0 j1 : Nat) (c0 c1 : Int) (w : World) (hi0 : i0 < 18446744073709551616) (hi1 : i1 < 18446744073709551616) (hw : WM w) (hT : Tabs w) :
   Calls Tryz.prog 3 #[.agg #[.int .i64 E, .int .i64 P, .int .i64 M, .int .u64 (i0 : Nat), .int .u64 (i1 : Nat), .int .u64 (j0 : Nat), .int .u64 (j1 : Nat), .int .u64 c0, .int .u64 c1], .agg #[.int .i64 E', .int .i64 P']] w fun e w' => TruePost w e w' := by
  by_cases hF : Fmt E P
  · by_cases hF' : Fmt E' P'
    · have ei := word_halves i0 i1 hi1
      obtain ⟨i, hi⟩ : ∃ i, i = i0 * 18446744073709551616 + i1 := ⟨_, rfl⟩
      rw [← hi] at ei
      have wi : W128 i := by show i < 2 ^ 128; omega
      obtain ⟨e, p, hE, hP⟩ := fmt_nat hF
      obtain ⟨e', p', hE', hP'⟩ := fmt_nat hF'
      have HFn : Fmt (e : Nat) (p : Nat) := by rw [← hE, ← hP]; exact hF
      have HFn' : Fmt (e' : Nat) (p' : Nat) := by rw [← hE', ← hP']; exact hF'
      obtain ⟨bE, bP, bb, bEP, bb1⟩ := fmt_bounds HFn
      obtain ⟨bE', bP', bb', bEP', bb1'⟩ := fmt_bounds HFn'
      obtain ⟨ins, hins⟩ := bool_of (InsideP p (bias e) p' (bias e'))
      obtain ⟨h1, hh1⟩ := bool_of (IsVal p' (bias e') ((2 : Rat) ^ (2 - (bias e : Int) - p)) ∧ absQ ((2 : Rat) ^ (2 - (bias e : Int) - p)) ≤ grQ p' (bias e'))
      obtain ⟨h2, hh2⟩ := bool_of (IsVal p' (bias e') (grQ p (bias e)) ∧ absQ (grQ p (bias e)) ≤ grQ p' (bias e'))
      have s1 : SmQ 5000 ((2 : Rat) ^ (2 - (bias e : Int) - p)) := by
        have := (SmQ.nat (K := 1) (n := 1) (by decide) (by decide)).mul_p2 (2 - (bias e : Int) - p) 2000 (by omega)
        rw [show ((1 : Nat) : Rat) = 1 from rfl, Rat.one_mul] at this
        exact this.mono (by decide)
      refine wider_g E P M E' P' i0 i1 j0 j1 c0 c1 ((2 : Rat) ^ (2 - (bias e : Int) - p)) (grQ p (bias e)) (valueZ E P i).1 (valueZ E P i).2 (valueZ_cases E P i) h1 h2 ins w (hid fun w => ?_) (hid fun w => ?_) (hid fun w => ?_) (hid fun w => ?_) (hid fun w => ?_) (valueZ_sm E P i) (hid fun v w hv => ?_) (hid fun v w hv => ?_) ?_ (hid fun hi hz m0 m4 => ?_) hw hT
      · rw [hE, hP]; exact Least_good e p w HFn
      · rw [hE, hP]; exact Greatest_good e p w HFn
      · rw [hE, hP, hE', hP']; exact Inside_good e p e' p' ins w HFn HFn' hins
      · exact check_c E' P' w 0 (hid (by rw [if_pos hF']))
      · rw [← ei]; exact Value_c E P i w wi
      · rw [hE', hP']; exact Has_good e' p' v _ 5000 h1 w HFn' hv s1 (by decide) hh1
      · rw [hE', hP']; exact Has_good e' p' v _ 16000 h2 w HFn' hv (grQ_sm bP bb) (by decide) hh2
      · rw [hins, inside_iff (by omega) (by omega) bb1 bb1', ← hh1, ← hh2, hP, hP', Int.ofNat_le]
      · exact casts_ok E P E' P' M i hF hF' (by rw [hE, hP, hE', hP']; exact hins.1 hi) hz m0 m4 i0 i1 ei
    · obtain ⟨e, p, hE, hP⟩ := fmt_nat hF
      have HFn : Fmt (e : Nat) (p : Nat) := by rw [← hE, ← hP]; exact hF
      refine wider_b2 E P M E' P' i0 i1 j0 j1 c0 c1 ((2 : Rat) ^ (2 - (bias e : Int) - p)) (grQ p (bias e)) w (hid fun w => ?_) (hid fun w => ?_) (hid fun w => ?_) (hid fun w => ?_) hw hT
      · rw [hE, hP]; exact Least_good e p w HFn
      · rw [hE, hP]; exact Greatest_good e p w HFn
      · exact Inside_bad E P E' P' w (fun h => hF' h.2)
      · exact check_c E' P' w 2 (hid (by rw [if_neg hF']))
  · refine wider_b1 E P M E' P' i0 i1 j0 j1 c0 c1 0 0 w (hid fun w => ?_) (hid fun w => ?_) (hid fun w => ?_) hw hT
    · exact Least_bad E P w hF
    · exact Greatest_bad E P w hF
    · exact Inside_bad E P E' P' w (fun h => hF h.1)
end Go.Proofs.YtpdjenblkgaffaaGreatDoor
