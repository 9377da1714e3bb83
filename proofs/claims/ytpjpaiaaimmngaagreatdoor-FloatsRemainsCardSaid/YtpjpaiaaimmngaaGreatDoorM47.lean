/- the law FloatsDiffers, over contracts. -/
import Derived.Test.YtpjpaiaaimmngaaGreatDoorM40
import Derived.Test.YtpjpaiaaimmngaaGreatDoorM46
namespace Go.Proofs.YtpjpaiaaimmngaaGreatDoor
open Go.RowKit Vn

def TruePost (w : World) (e : Ending) (w' : World) : Prop := e = .returned (.bool true) ∧ Ext w w'
/-- the difference, in an abstract form. -/
def DifOk (E P M : Int) (i0 i1 j0 j1 : Nat) (d : Rat) : Prop := ∃ r0 r1 : Nat, (∀ w, Tabs w → Calls Tryz.prog 11 #[.agg #[.int .i64 E, .int .i64 P], .int .i64 M, .agg #[.int .u64 (i0 : Nat), .int .u64 (i1 : Nat)], .agg #[.int .u64 (j0 : Nat), .int .u64 (j1 : Nat)]] w fun e w' => e = .returned (.tuple #[.agg #[.int .u64 r0, .int .u64 r1], .int .i64 0, .int .i64 0]) ∧ Ext w w') ∧
  (∀ w, Calls Tryz.prog 12 #[.agg #[.int .i64 E, .int .i64 P], .agg #[.int .u64 r0, .int .u64 r1]] w (NumErr d 0 w))
theorem cmpQ_not {q r : Rat} (h : ¬ 0 < cmpQ q r) : q ≤ r := by
  unfold cmpQ at h
  split at h
  · rename_i k; exact Rat.le_of_lt k
  · split at h
    · omega
    · rename_i k; exact Rat.not_lt.1 k
theorem cmpQ_self (q : Rat) : cmpQ q q = 0 := by
  have : ¬ q < q := Rat.lt_irrefl
  simp [cmpQ, this]
theorem sign_neg {q : Rat} : q.num.sign < 0 ↔ q < 0 := by
  rw [Int.sign_neg_iff]; exact num_neg_iff

set_option maxRecDepth 100000 in
set_option maxHeartbeats 4000000 in
theorem differs_x (E P M : Int) (i0 i1 j0 j1 : Nat) (c0 c1 : Int) (qa qb : Rat) (za zb : Int) (w : World) (hza : za = 0 ∨ za = 2 ∨ za = 4 ∨ za = 6) (hzb : zb = 0 ∨ zb = 2 ∨ zb = 4 ∨ zb = 6) (CA : Hid (∀ w, Calls Tryz.prog 12 #[.agg #[.int .i64 E, .int .i64 P], .agg #[.int .u64 (i0 : Nat), .int .u64 (i1 : Nat)]] w (NumErr qa za w))) (CB : Hid (∀ w, Calls Tryz.prog 12 #[.agg #[.int .i64 E, .int .i64 P], .agg #[.int .u64 (j0 : Nat), .int .u64 (j1 : Nat)]] w (NumErr qb zb w))) (sa : SmQ 5000 qa) (sb : SmQ 5000 qb) (hw : WM w) (hT : Tabs w) (HG : Hid (za = 0 ∧ zb = 0 → 0 ≤ qa → 0 ≤ qb → qa ≤ qb + qb → qb ≤ qa + qa → 0 ≤ M → M ≤ 4 → DifOk E P M i0 i1 j0 j1 (qa - qb))) :
   Calls Tryz.prog 3 #[.agg #[.int .i64 E, .int .i64 P, .int .i64 M, .int .u64 (i0 : Nat), .int .u64 (i1 : Nat), .int .u64 (j0 : Nat), .int .u64 (j1 : Nat), .int .u64 c0, .int .u64 c1]] w fun e w' => TruePost w e w' := by
  have CN : Hid (∀ w, Calls Tryz.prog 6 #[.agg #[.int .i64 E, .int .i64 P, .int .i64 M, .int .u64 (i0 : Nat), .int .u64 (i1 : Nat), .int .u64 (j0 : Nat), .int .u64 (j1 : Nat), .int .u64 c0, .int .u64 c1]] w (TwoNums qa za qb zb w)) := hid fun w => numbers_x E P M i0 i1 j0 j1 c0 c1 qa za qb zb w hza hzb CA CB
  have CW : Hid (∀ w, WM w → Tabs w → Calls Tryz.prog 10 #[] w fun e w' => e = .returned (.bool true) ∧ Ext w w') := hid fun w h k => awake_c w h k
  obtain ⟨sA, hsA⟩ : ∃ s, s = qa.num.sign := ⟨_, rfl⟩
  obtain ⟨sB, hsB⟩ : ∃ s, s = qb.num.sign := ⟨_, rfl⟩
  obtain ⟨cA, hcA⟩ : ∃ s, s = cmpQ qa (qb + qb) := ⟨_, rfl⟩
  obtain ⟨cB, hcB⟩ : ∃ s, s = cmpQ qb (qa + qa) := ⟨_, rfl⟩
  have HSA := hid hsA; have HSB := hid hsB; have HCA := hid hcA; have HCB := hid hcB
  have CSA : Hid (∀ v w, NumV w v qa → Calls Tryz.prog 7 #[v] w fun e w' => e = .returned (.int .i64 sA) ∧ Ext w w') := hid fun v w h => by rw [hsA]; exact sign_c v qa w h
  have CSB : Hid (∀ v w, NumV w v qb → Calls Tryz.prog 7 #[v] w fun e w' => e = .returned (.int .i64 sB) ∧ Ext w w') := hid fun v w h => by rw [hsB]; exact sign_c v qb w h
  have CDB : Hid (∀ u v w, NumV w u qb → NumV w v qb → _) := hid fun u v w h k => Add_c u v qb qb 5000 w h k sb sb (by decide)
  have CDA : Hid (∀ u v w, NumV w u qa → NumV w v qa → _) := hid fun u v w h k => Add_c u v qa qa 5000 w h k sa sa (by decide)
  have CDS : Hid (∀ u v w, NumV w u qa → NumV w v qb → _) := hid fun u v w h k => Sub_c u v qa qb 5000 w h k sa sb (by decide)
  have s1 : SmQ 10010 qa := sa.mono (by decide)
  have s2 : SmQ 10010 qb := sb.mono (by decide)
  have s3 : SmQ 10010 (qb + qb) := (SmQ.add sb sb).mono (by decide)
  have s4 : SmQ 10010 (qa + qa) := (SmQ.add sa sa).mono (by decide)
  have s5 : SmQ 10010 (qa - qb) := (SmQ.sub sa sb).mono (by decide)
  have CC1 : Hid (∀ u v w, NumV w u qa → NumV w v (qb + qb) → Calls Tryz.prog 8 #[u, v] w fun e w' => e = .returned (.int .i64 cA) ∧ Ext w w') := hid fun u v w h k => by rw [hcA]; exact Cmp_c u v qa (qb + qb) 10010 w h k s1 s3 (by decide)
  have CC2 : Hid (∀ u v w, NumV w u qb → NumV w v (qa + qa) → Calls Tryz.prog 8 #[u, v] w fun e w' => e = .returned (.int .i64 cB) ∧ Ext w w') := hid fun u v w h k => by rw [hcB]; exact Cmp_c u v qb (qa + qa) 10010 w h k s2 s4 (by decide)
  have CC3 : Hid (∀ u v w, NumV w u (qa - qb) → NumV w v (qa - qb) → _) := hid fun u v w h k => Cmp_c u v (qa - qb) (qa - qb) 10010 w h k s5 s5 (by decide)
  have CBAD : Hid (¬ (0 ≤ M ∧ M ≤ 4) → ∀ w, _) := hid fun h w => Sub_bad E P M (i0 : Int) (i1 : Int) (j0 : Int) (j1 : Int) w (fun k => h ⟨k.1, k.2.1⟩)
  have HP := hid hw
  have HT := hid hT
  clear hza hzb CA CB sa sb hw hT s1 s2 s3 s4 s5 hsA hsB hcA hcB
  obtain ⟨W0, hW0, g0, hz0, B_O⟩ := pro1 w #[.int .i64 E, .int .i64 P, .int .i64 M, .int .u64 (i0 : Nat), .int .u64 (i1 : Nat), .int .u64 (j0 : Nat), .int .u64 (j1 : Nat), .int .u64 c0, .int .u64 c1] 28
  have HE := hid g0
  have HB_O := hid B_O
  clear g0 B_O 
  go_enter Tryz.func3, Tryz.ntmps3
  go_upto_region 1 with (fail)
  rw [← hW0]
  clear hW0
  obtain ⟨c_1, c_2, c_3, c_4, c_5, c_6, c_7, c_8, c_9⟩ := HB_O.out.c9
  go_wp2_with fail
  clear c_1 c_2 c_3 c_4 c_5 c_6 c_7 c_8 c_9
  refine (CN.out _).mono ?_
  rintro e w1 ⟨u, v, rfl, ku, kv, g1⟩
  have hz_w1 := g1.size
  replace HE := hid (HE.out.trans g1)
  replace HB_O := hid (HB_O.out.ext g1)
  obtain ⟨ngu, au, nu, cu, au', nu', cu', rfl⟩ := ku.shape
  obtain ⟨ngv, av, nv, cv, av', nv', cv', rfl⟩ := kv.shape
  by_cases hz : za = 0 ∧ zb = 0
  · have HBL : Hid ((decide (za = 0) && decide (zb = 0)) = true) := hid (by rw [hz.1, hz.2]; rfl)
    have HZ := hid hz
    clear hz
    rw [HBL.out]
    by_cases ha : sA < 0
    · have d0 : decide (sA < 0) = true := decide_eq_true ha
      have gA := Ext.trans (Ext.alloc w1 (.cells #[.bool ngu, .slice au nu cu, .slice au' nu' cu'] 32)) (Ext.alloc _ (.cells #[.bool ngv, .slice av nv cv, .slice av' nv' cv'] 32))
      obtain ⟨c_10, c_11, c_12, c_13, c_14, c_15, c_16, c_17, c_18⟩ := (HB_O.out.ext gA).c9
      go_wp2_with fail
      clear gA c_10 c_11 c_12 c_13 c_14 c_15 c_16 c_17 c_18
      obtain ⟨W2, hW2, g2, hy2, B_X, B_Y⟩ := pro2s w1 #[.bool ngu, .slice au nu cu, .slice au' nu' cu'] #[.bool ngv, .slice av nv cv, .slice av' nv' cv'] 32 32
      rw [← hW2]
      clear hW2
      have hz_W2 := g2.size
      replace HE := hid (HE.out.trans g2)
      replace HB_O := hid (HB_O.out.ext g2)
      replace ku := ku.ext g2
      replace kv := kv.ext g2
      have HB_X := hid B_X
      have HB_Y := hid B_Y
      clear B_X B_Y
      have HS : Hid (∀ w', Ext W2 w' → w'.cell? ⟨w1.heap.size, 0, none⟩ = some (.bool ngu) ∧ w'.cell? ⟨w1.heap.size, 1, none⟩ = some (.slice au nu cu) ∧ w'.cell? ⟨w1.heap.size, 2, none⟩ = some (.slice au' nu' cu') ∧ w'.cell? ⟨w1.heap.size + 1, 0, none⟩ = some (.bool ngv) ∧ w'.cell? ⟨w1.heap.size + 1, 1, none⟩ = some (.slice av nv cv) ∧ w'.cell? ⟨w1.heap.size + 1, 2, none⟩ = some (.slice av' nv' cv')) := hid fun w' h => ⟨(HB_X.out.ext h).cell 0, (HB_X.out.ext h).cell 1, (HB_X.out.ext h).cell 2, (HB_Y.out.ext h).cell 0, (HB_Y.out.ext h).cell 1, (HB_Y.out.ext h).cell 2⟩
      have hb0 : Ext W2 W2.drew := Below.drew (Below.refl _ W2)
      refine wp_region_held_drew (S := fun w' => w'.cell? ⟨w1.heap.size, 0, none⟩ = some (.bool ngu) ∧ w'.cell? ⟨w1.heap.size, 1, none⟩ = some (.slice au nu cu) ∧ w'.cell? ⟨w1.heap.size, 2, none⟩ = some (.slice au' nu' cu') ∧ w'.cell? ⟨w1.heap.size + 1, 0, none⟩ = some (.bool ngv) ∧ w'.cell? ⟨w1.heap.size + 1, 1, none⟩ = some (.slice av nv cv) ∧ w'.cell? ⟨w1.heap.size + 1, 2, none⟩ = some (.slice av' nv' cv')) (by kernel_rfl) (HS.out _ hb0) (fun hHeld => ?_)
      refine wpAnyH_take (i := 0) (oi := { dst := some 17, op := Op.move (Operand.tmp 5), type := 4, pos := "law.go:268", after := #[], guard := none }) (v := ?_) rfl (by kernel_rfl) (by kernel_rfl) (by kernel_rfl) (fun _ _ _ h => h) (Or.inl ⟨by rfl, ?_⟩) (by assumption) ?_
      rotate_left
      · intro w' hSw
        (try dsimp only at hSw)
        go_simp <;> with_reducible rfl
      try simp only [Act.put, List.setIfInBounds_toArray, List.set_cons_zero, List.set_cons_succ]
      refine wpAnyH_take (i := 1) (oi := { dst := some 18, op := Op.unOp UnOp.not 4 (Operand.tmp 17), type := 4, pos := "law.go:268", after := #[{ on := 0, ground := Ground.data }], guard := none }) (v := ?_) rfl (by kernel_rfl) (by kernel_rfl) (by kernel_rfl) (fun _ _ _ h => h) (Or.inl ⟨by rfl, ?_⟩) (by assumption) ?_
      rotate_left
      · intro w' hSw
        (try dsimp only at hSw)
        go_simp <;> with_reducible rfl
      try simp only [Act.put, List.setIfInBounds_toArray, List.set_cons_zero, List.set_cons_succ]
      refine wpAnyH_take (i := 2) (oi := { dst := some 19, op := Op.move (Operand.tmp 18), type := 4, pos := "law.go:268", after := #[{ on := 1, ground := Ground.data }], guard := none }) (v := ?_) rfl (by kernel_rfl) (by kernel_rfl) (by kernel_rfl) (fun _ _ _ h => h) (Or.inl ⟨by rfl, ?_⟩) (by assumption) ?_
      rotate_left
      · intro w' hSw
        (try dsimp only at hSw)
        go_simp <;> with_reducible rfl
      try simp only [Act.put, List.setIfInBounds_toArray, List.set_cons_zero, List.set_cons_succ]
      refine wpAnyH_take (i := 3) (oi := { dst := some 20, op := Op.load 32 (Operand.tmp 3), type := 32, pos := "law.go:268", after := #[{ on := 2, ground := Ground.guard }], guard := some (2, false) }) (v := ?_) rfl (by kernel_rfl) (by kernel_rfl) (by kernel_rfl) (fun _ _ _ h => h) (Or.inl ⟨by rfl, ?_⟩) (by assumption) ?_
      rotate_left
      · intro w' hSw
        (try dsimp only at hSw)
        go_simp <;> with_reducible rfl
      try simp only [Act.put, List.setIfInBounds_toArray, List.set_cons_zero, List.set_cons_succ]
      refine wpAnyH_ready (rs := [4]) (by kernel_rfl) (by simp) ?_
      refine AllReadyH.cons (o := { dst := some 21, op := Op.call { callee := Callee.value (Operand.func 7), args := #[Operand.tmp 20], argTypes := #[32] }, type := 3, pos := "law.go:268", after := #[{ on := 3, ground := Ground.data }, { on := 2, ground := Ground.chain }, { on := 2, ground := Ground.guard }], guard := some (2, false) }) rfl (fun K hK => ?_) AllReadyH.nil
      go_simp
      refine (CSA.out _ _ (ku.ext hb0)).mono ?_
      rintro e x19_1 ⟨rfl, g1⟩
      have hb1 : Ext W2 x19_1 := hb0.trans g1
      try dsimp only
      refine hK.out _ _ (HS.out _ hb1) ?_
      clear hHeld
      intro hHeld
      clear hK K
      try simp only [Act.put, List.setIfInBounds_toArray, List.set_cons_zero, List.set_cons_succ]
      refine wpAnyH_take (i := 5) (oi := { dst := some 22, op := Op.binOp BinOp.lss 3 (Operand.tmp 21) (Operand.const (Value.int IntKind.i64 0)) 3, type := 4, pos := "law.go:268", after := #[{ on := 4, ground := Ground.data }, { on := 2, ground := Ground.guard }], guard := some (2, false) }) (v := ?_) rfl (by kernel_rfl) (by kernel_rfl) (by kernel_rfl) (fun _ _ _ h => h) (Or.inl ⟨by rfl, ?_⟩) (by assumption) ?_
      rotate_left
      · intro w' hSw
        (try dsimp only at hSw)
        go_simp <;> with_reducible rfl
      try simp only [Act.put, List.setIfInBounds_toArray, List.set_cons_zero, List.set_cons_succ]
      refine wpAnyH_take (i := 6) (oi := { dst := some 23, op := Op.pick (Operand.tmp 19) (Operand.const (Value.bool true)) (Operand.tmp 22), type := 4, pos := "law.go:268", after := #[{ on := 2, ground := Ground.data }, { on := 5, ground := Ground.data }], guard := none }) (v := ?_) rfl (by kernel_rfl) (by kernel_rfl) (by kernel_rfl) (fun _ _ _ h => h) (Or.inl ⟨by rfl, ?_⟩) (by assumption) ?_
      rotate_left
      · intro w' hSw
        (try dsimp only at hSw)
        go_simp <;> with_reducible rfl
      try simp only [Act.put, List.setIfInBounds_toArray, List.set_cons_zero, List.set_cons_succ]
      refine wpAnyH_take (i := 7) (oi := { dst := some 24, op := Op.move (Operand.tmp 23), type := 4, pos := "law.go:268", after := #[{ on := 6, ground := Ground.data }, { on := 4, ground := Ground.chain }], guard := none }) (v := ?_) rfl (by kernel_rfl) (by kernel_rfl) (by kernel_rfl) (fun _ _ _ h => h) (Or.inl ⟨by rfl, ?_⟩) (by assumption) ?_
      rotate_left
      · intro w' hSw
        (try dsimp only at hSw)
        go_simp <;> with_reducible rfl
      try simp only [Act.put, List.setIfInBounds_toArray, List.set_cons_zero, List.set_cons_succ]
      refine wpAnyH_take (i := 8) (oi := { dst := some 25, op := Op.load 32 (Operand.tmp 4), type := 32, pos := "law.go:268", after := #[{ on := 7, ground := Ground.guard }], guard := some (7, false) }) (v := undef) rfl (by kernel_rfl) (by kernel_rfl) (by kernel_rfl) (fun _ _ _ h => h) (Or.inr ⟨by rfl, rfl⟩) (by assumption) ?_
      try simp only [Act.put, List.setIfInBounds_toArray, List.set_cons_zero, List.set_cons_succ]
      refine wpAnyH_take (i := 9) (oi := { dst := some 26, op := Op.call { callee := Callee.value (Operand.func 7), args := #[Operand.tmp 25], argTypes := #[32] }, type := 3, pos := "law.go:268", after := #[{ on := 8, ground := Ground.data }, { on := 7, ground := Ground.chain }, { on := 7, ground := Ground.guard }], guard := some (7, false) }) (v := undef) rfl (by kernel_rfl) (by kernel_rfl) (by kernel_rfl) (fun _ _ _ h => h) (Or.inr ⟨by rfl, rfl⟩) (by assumption) ?_
      try simp only [Act.put, List.setIfInBounds_toArray, List.set_cons_zero, List.set_cons_succ]
      refine wpAnyH_take (i := 10) (oi := { dst := some 27, op := Op.binOp BinOp.lss 3 (Operand.tmp 26) (Operand.const (Value.int IntKind.i64 0)) 3, type := 4, pos := "law.go:268", after := #[{ on := 9, ground := Ground.data }, { on := 7, ground := Ground.guard }], guard := some (7, false) }) (v := undef) rfl (by kernel_rfl) (by kernel_rfl) (by kernel_rfl) (fun _ _ _ h => h) (Or.inr ⟨by rfl, rfl⟩) (by assumption) ?_
      try simp only [Act.put, List.setIfInBounds_toArray, List.set_cons_zero, List.set_cons_succ]
      refine wpAnyH_take (i := 11) (oi := { dst := some 28, op := Op.pick (Operand.tmp 24) (Operand.const (Value.bool true)) (Operand.tmp 27), type := 4, pos := "law.go:268", after := #[{ on := 7, ground := Ground.data }, { on := 10, ground := Ground.data }], guard := none }) (v := ?_) rfl (by kernel_rfl) (by kernel_rfl) (by kernel_rfl) (fun _ _ _ h => h) (Or.inl ⟨by rfl, ?_⟩) (by assumption) ?_
      rotate_left
      · intro w' hSw
        (try dsimp only at hSw)
        go_simp <;> with_reducible rfl
      try simp only [Act.put, List.setIfInBounds_toArray, List.set_cons_zero, List.set_cons_succ]
      refine wpAnyH_take (i := 12) (oi := { dst := some 29, op := Op.move (Operand.tmp 28), type := 4, pos := "law.go:268", after := #[{ on := 11, ground := Ground.data }, { on := 9, ground := Ground.chain }], guard := none }) (v := ?_) rfl (by kernel_rfl) (by kernel_rfl) (by kernel_rfl) (fun _ _ _ h => h) (Or.inl ⟨by rfl, ?_⟩) (by assumption) ?_
      rotate_left
      · intro w' hSw
        (try dsimp only at hSw)
        go_simp <;> with_reducible rfl
      try simp only [Act.put, List.setIfInBounds_toArray, List.set_cons_zero, List.set_cons_succ]
      refine wpAnyH_take (i := 13) (oi := { dst := some 30, op := Op.load 32 (Operand.tmp 3), type := 32, pos := "law.go:268", after := #[{ on := 12, ground := Ground.guard }], guard := some (12, false) }) (v := undef) rfl (by kernel_rfl) (by kernel_rfl) (by kernel_rfl) (fun _ _ _ h => h) (Or.inr ⟨by rfl, rfl⟩) (by assumption) ?_
      try simp only [Act.put, List.setIfInBounds_toArray, List.set_cons_zero, List.set_cons_succ]
      refine wpAnyH_take (i := 14) (oi := { dst := some 31, op := Op.load 32 (Operand.tmp 4), type := 32, pos := "law.go:268", after := #[{ on := 12, ground := Ground.guard }], guard := some (12, false) }) (v := undef) rfl (by kernel_rfl) (by kernel_rfl) (by kernel_rfl) (fun _ _ _ h => h) (Or.inr ⟨by rfl, rfl⟩) (by assumption) ?_
      try simp only [Act.put, List.setIfInBounds_toArray, List.set_cons_zero, List.set_cons_succ]
      refine wpAnyH_take (i := 15) (oi := { dst := some 32, op := Op.load 32 (Operand.tmp 4), type := 32, pos := "law.go:268", after := #[{ on := 12, ground := Ground.guard }], guard := some (12, false) }) (v := undef) rfl (by kernel_rfl) (by kernel_rfl) (by kernel_rfl) (fun _ _ _ h => h) (Or.inr ⟨by rfl, rfl⟩) (by assumption) ?_
      try simp only [Act.put, List.setIfInBounds_toArray, List.set_cons_zero, List.set_cons_succ]
      refine wpAnyH_take (i := 16) (oi := { dst := some 33, op := Op.call { callee := Callee.value (Operand.func 9), args := #[Operand.tmp 31, Operand.tmp 32], argTypes := #[32, 32] }, type := 32, pos := "law.go:268", after := #[{ on := 14, ground := Ground.data }, { on := 15, ground := Ground.data }, { on := 12, ground := Ground.chain }, { on := 12, ground := Ground.guard }], guard := some (12, false) }) (v := undef) rfl (by kernel_rfl) (by kernel_rfl) (by kernel_rfl) (fun _ _ _ h => h) (Or.inr ⟨by rfl, rfl⟩) (by assumption) ?_
      try simp only [Act.put, List.setIfInBounds_toArray, List.set_cons_zero, List.set_cons_succ]
      refine wpAnyH_take (i := 17) (oi := { dst := some 34, op := Op.call { callee := Callee.value (Operand.func 8), args := #[Operand.tmp 30, Operand.tmp 33], argTypes := #[32, 32] }, type := 3, pos := "law.go:268", after := #[{ on := 13, ground := Ground.data }, { on := 16, ground := Ground.data }, { on := 16, ground := Ground.chain }, { on := 12, ground := Ground.guard }], guard := some (12, false) }) (v := undef) rfl (by kernel_rfl) (by kernel_rfl) (by kernel_rfl) (fun _ _ _ h => h) (Or.inr ⟨by rfl, rfl⟩) (by assumption) ?_
      try simp only [Act.put, List.setIfInBounds_toArray, List.set_cons_zero, List.set_cons_succ]
      refine wpAnyH_take (i := 18) (oi := { dst := some 35, op := Op.binOp BinOp.gtr 3 (Operand.tmp 34) (Operand.const (Value.int IntKind.i64 0)) 3, type := 4, pos := "law.go:268", after := #[{ on := 17, ground := Ground.data }, { on := 12, ground := Ground.guard }], guard := some (12, false) }) (v := undef) rfl (by kernel_rfl) (by kernel_rfl) (by kernel_rfl) (fun _ _ _ h => h) (Or.inr ⟨by rfl, rfl⟩) (by assumption) ?_
      try simp only [Act.put, List.setIfInBounds_toArray, List.set_cons_zero, List.set_cons_succ]
      refine wpAnyH_take (i := 19) (oi := { dst := some 36, op := Op.pick (Operand.tmp 29) (Operand.const (Value.bool true)) (Operand.tmp 35), type := 4, pos := "law.go:268", after := #[{ on := 12, ground := Ground.data }, { on := 18, ground := Ground.data }], guard := none }) (v := ?_) rfl (by kernel_rfl) (by kernel_rfl) (by kernel_rfl) (fun _ _ _ h => h) (Or.inl ⟨by rfl, ?_⟩) (by assumption) ?_
      rotate_left
      · intro w' hSw
        (try dsimp only at hSw)
        go_simp <;> with_reducible rfl
      try simp only [Act.put, List.setIfInBounds_toArray, List.set_cons_zero, List.set_cons_succ]
      refine wpAnyH_take (i := 20) (oi := { dst := some 37, op := Op.move (Operand.tmp 36), type := 4, pos := "law.go:268", after := #[{ on := 19, ground := Ground.data }, { on := 17, ground := Ground.chain }], guard := none }) (v := ?_) rfl (by kernel_rfl) (by kernel_rfl) (by kernel_rfl) (fun _ _ _ h => h) (Or.inl ⟨by rfl, ?_⟩) (by assumption) ?_
      rotate_left
      · intro w' hSw
        (try dsimp only at hSw)
        go_simp <;> with_reducible rfl
      try simp only [Act.put, List.setIfInBounds_toArray, List.set_cons_zero, List.set_cons_succ]
      refine wpAnyH_take (i := 21) (oi := { dst := some 38, op := Op.load 32 (Operand.tmp 4), type := 32, pos := "law.go:268", after := #[{ on := 20, ground := Ground.guard }], guard := some (20, false) }) (v := undef) rfl (by kernel_rfl) (by kernel_rfl) (by kernel_rfl) (fun _ _ _ h => h) (Or.inr ⟨by rfl, rfl⟩) (by assumption) ?_
      try simp only [Act.put, List.setIfInBounds_toArray, List.set_cons_zero, List.set_cons_succ]
      refine wpAnyH_take (i := 22) (oi := { dst := some 39, op := Op.load 32 (Operand.tmp 3), type := 32, pos := "law.go:268", after := #[{ on := 20, ground := Ground.guard }], guard := some (20, false) }) (v := undef) rfl (by kernel_rfl) (by kernel_rfl) (by kernel_rfl) (fun _ _ _ h => h) (Or.inr ⟨by rfl, rfl⟩) (by assumption) ?_
      try simp only [Act.put, List.setIfInBounds_toArray, List.set_cons_zero, List.set_cons_succ]
      refine wpAnyH_take (i := 23) (oi := { dst := some 40, op := Op.load 32 (Operand.tmp 3), type := 32, pos := "law.go:268", after := #[{ on := 20, ground := Ground.guard }], guard := some (20, false) }) (v := undef) rfl (by kernel_rfl) (by kernel_rfl) (by kernel_rfl) (fun _ _ _ h => h) (Or.inr ⟨by rfl, rfl⟩) (by assumption) ?_
      try simp only [Act.put, List.setIfInBounds_toArray, List.set_cons_zero, List.set_cons_succ]
      refine wpAnyH_take (i := 24) (oi := { dst := some 41, op := Op.call { callee := Callee.value (Operand.func 9), args := #[Operand.tmp 39, Operand.tmp 40], argTypes := #[32, 32] }, type := 32, pos := "law.go:268", after := #[{ on := 22, ground := Ground.data }, { on := 23, ground := Ground.data }, { on := 20, ground := Ground.chain }, { on := 20, ground := Ground.guard }], guard := some (20, false) }) (v := undef) rfl (by kernel_rfl) (by kernel_rfl) (by kernel_rfl) (fun _ _ _ h => h) (Or.inr ⟨by rfl, rfl⟩) (by assumption) ?_
      try simp only [Act.put, List.setIfInBounds_toArray, List.set_cons_zero, List.set_cons_succ]
      refine wpAnyH_take (i := 25) (oi := { dst := some 42, op := Op.call { callee := Callee.value (Operand.func 8), args := #[Operand.tmp 38, Operand.tmp 41], argTypes := #[32, 32] }, type := 3, pos := "law.go:268", after := #[{ on := 21, ground := Ground.data }, { on := 24, ground := Ground.data }, { on := 24, ground := Ground.chain }, { on := 20, ground := Ground.guard }], guard := some (20, false) }) (v := undef) rfl (by kernel_rfl) (by kernel_rfl) (by kernel_rfl) (fun _ _ _ h => h) (Or.inr ⟨by rfl, rfl⟩) (by assumption) ?_
      try simp only [Act.put, List.setIfInBounds_toArray, List.set_cons_zero, List.set_cons_succ]
      refine wpAnyH_take (i := 26) (oi := { dst := some 43, op := Op.binOp BinOp.gtr 3 (Operand.tmp 42) (Operand.const (Value.int IntKind.i64 0)) 3, type := 4, pos := "law.go:268", after := #[{ on := 25, ground := Ground.data }, { on := 20, ground := Ground.guard }], guard := some (20, false) }) (v := undef) rfl (by kernel_rfl) (by kernel_rfl) (by kernel_rfl) (fun _ _ _ h => h) (Or.inr ⟨by rfl, rfl⟩) (by assumption) ?_
      try simp only [Act.put, List.setIfInBounds_toArray, List.set_cons_zero, List.set_cons_succ]
      refine wpAnyH_take (i := 27) (oi := { dst := some 44, op := Op.pick (Operand.tmp 37) (Operand.const (Value.bool true)) (Operand.tmp 43), type := 4, pos := "law.go:268", after := #[{ on := 20, ground := Ground.data }, { on := 26, ground := Ground.data }], guard := none }) (v := ?_) rfl (by kernel_rfl) (by kernel_rfl) (by kernel_rfl) (fun _ _ _ h => h) (Or.inl ⟨by rfl, ?_⟩) (by assumption) ?_
      rotate_left
      · intro w' hSw
        (try dsimp only at hSw)
        go_simp <;> with_reducible rfl
      try simp only [Act.put, List.setIfInBounds_toArray, List.set_cons_zero, List.set_cons_succ]
      refine wpAnyH_done (by kernel_rfl) ?_ _
      clear HS hHeld
      have hz_x19_1 := hb1.size
      replace HE := hid (HE.out.trans hb1)
      replace HB_O := hid (HB_O.out.ext hb1)
      replace HB_X := hid (HB_X.out.ext hb1)
      replace HB_Y := hid (HB_Y.out.ext hb1)
      replace ku := ku.ext hb1
      replace kv := kv.ext hb1
      obtain ⟨c_20, c_21, c_22, c_23, c_24, c_25, c_26, c_27, c_28⟩ := HB_O.out.c9
      obtain ⟨c_29, c_30, c_31⟩ := HB_X.out.c3
      obtain ⟨c_32, c_33, c_34⟩ := HB_Y.out.c3
      go_wp2_with fail
      clear c_20 c_21 c_22 c_23 c_24 c_25 c_26 c_27 c_28 c_29 c_30 c_31 c_32 c_33 c_34
      refine (CW.out _ (HP.out.ext HE.out) (HT.out.ext HE.out)).mono ?_
      rintro e w3 ⟨rfl, g3⟩
      have hz_w3 := g3.size
      replace HE := hid (HE.out.trans g3)
      replace HB_O := hid (HB_O.out.ext g3)
      replace HB_X := hid (HB_X.out.ext g3)
      replace HB_Y := hid (HB_Y.out.ext g3)
      replace ku := ku.ext g3
      replace kv := kv.ext g3
      obtain ⟨c_35, c_36, c_37, c_38, c_39, c_40, c_41, c_42, c_43⟩ := HB_O.out.c9
      obtain ⟨c_44, c_45, c_46⟩ := HB_X.out.c3
      obtain ⟨c_47, c_48, c_49⟩ := HB_Y.out.c3
      go_wp2_with fail
      clear c_35 c_36 c_37 c_38 c_39 c_40 c_41 c_42 c_43 c_44 c_45 c_46 c_47 c_48 c_49
      unfold TruePost
      refine bodyPost_ret (v := .bool true) (by simp [results, Tryz.results3, go_sem]) rfl ⟨rfl, HE.out⟩
    · have d0 : decide (sA < 0) = false := decide_eq_false ha
      by_cases hb : sB < 0
      · have d1 : decide (sB < 0) = true := decide_eq_true hb
        have gA := Ext.trans (Ext.alloc w1 (.cells #[.bool ngu, .slice au nu cu, .slice au' nu' cu'] 32)) (Ext.alloc _ (.cells #[.bool ngv, .slice av nv cv, .slice av' nv' cv'] 32))
        obtain ⟨c_10, c_11, c_12, c_13, c_14, c_15, c_16, c_17, c_18⟩ := (HB_O.out.ext gA).c9
        go_wp2_with fail
        clear gA c_10 c_11 c_12 c_13 c_14 c_15 c_16 c_17 c_18
        obtain ⟨W2, hW2, g2, hy2, B_X, B_Y⟩ := pro2s w1 #[.bool ngu, .slice au nu cu, .slice au' nu' cu'] #[.bool ngv, .slice av nv cv, .slice av' nv' cv'] 32 32
        rw [← hW2]
        clear hW2
        have hz_W2 := g2.size
        replace HE := hid (HE.out.trans g2)
        replace HB_O := hid (HB_O.out.ext g2)
        replace ku := ku.ext g2
        replace kv := kv.ext g2
        have HB_X := hid B_X
        have HB_Y := hid B_Y
        clear B_X B_Y
        have HS : Hid (∀ w', Ext W2 w' → w'.cell? ⟨w1.heap.size, 0, none⟩ = some (.bool ngu) ∧ w'.cell? ⟨w1.heap.size, 1, none⟩ = some (.slice au nu cu) ∧ w'.cell? ⟨w1.heap.size, 2, none⟩ = some (.slice au' nu' cu') ∧ w'.cell? ⟨w1.heap.size + 1, 0, none⟩ = some (.bool ngv) ∧ w'.cell? ⟨w1.heap.size + 1, 1, none⟩ = some (.slice av nv cv) ∧ w'.cell? ⟨w1.heap.size + 1, 2, none⟩ = some (.slice av' nv' cv')) := hid fun w' h => ⟨(HB_X.out.ext h).cell 0, (HB_X.out.ext h).cell 1, (HB_X.out.ext h).cell 2, (HB_Y.out.ext h).cell 0, (HB_Y.out.ext h).cell 1, (HB_Y.out.ext h).cell 2⟩
        have hb0 : Ext W2 W2.drew := Below.drew (Below.refl _ W2)
        refine wp_region_held_drew (S := fun w' => w'.cell? ⟨w1.heap.size, 0, none⟩ = some (.bool ngu) ∧ w'.cell? ⟨w1.heap.size, 1, none⟩ = some (.slice au nu cu) ∧ w'.cell? ⟨w1.heap.size, 2, none⟩ = some (.slice au' nu' cu') ∧ w'.cell? ⟨w1.heap.size + 1, 0, none⟩ = some (.bool ngv) ∧ w'.cell? ⟨w1.heap.size + 1, 1, none⟩ = some (.slice av nv cv) ∧ w'.cell? ⟨w1.heap.size + 1, 2, none⟩ = some (.slice av' nv' cv')) (by kernel_rfl) (HS.out _ hb0) (fun hHeld => ?_)
        refine wpAnyH_take (i := 0) (oi := { dst := some 17, op := Op.move (Operand.tmp 5), type := 4, pos := "law.go:268", after := #[], guard := none }) (v := ?_) rfl (by kernel_rfl) (by kernel_rfl) (by kernel_rfl) (fun _ _ _ h => h) (Or.inl ⟨by rfl, ?_⟩) (by assumption) ?_
        rotate_left
        · intro w' hSw
          (try dsimp only at hSw)
          go_simp <;> with_reducible rfl
        try simp only [Act.put, List.setIfInBounds_toArray, List.set_cons_zero, List.set_cons_succ]
        refine wpAnyH_take (i := 1) (oi := { dst := some 18, op := Op.unOp UnOp.not 4 (Operand.tmp 17), type := 4, pos := "law.go:268", after := #[{ on := 0, ground := Ground.data }], guard := none }) (v := ?_) rfl (by kernel_rfl) (by kernel_rfl) (by kernel_rfl) (fun _ _ _ h => h) (Or.inl ⟨by rfl, ?_⟩) (by assumption) ?_
        rotate_left
        · intro w' hSw
          (try dsimp only at hSw)
          go_simp <;> with_reducible rfl
        try simp only [Act.put, List.setIfInBounds_toArray, List.set_cons_zero, List.set_cons_succ]
        refine wpAnyH_take (i := 2) (oi := { dst := some 19, op := Op.move (Operand.tmp 18), type := 4, pos := "law.go:268", after := #[{ on := 1, ground := Ground.data }], guard := none }) (v := ?_) rfl (by kernel_rfl) (by kernel_rfl) (by kernel_rfl) (fun _ _ _ h => h) (Or.inl ⟨by rfl, ?_⟩) (by assumption) ?_
        rotate_left
        · intro w' hSw
          (try dsimp only at hSw)
          go_simp <;> with_reducible rfl
        try simp only [Act.put, List.setIfInBounds_toArray, List.set_cons_zero, List.set_cons_succ]
        refine wpAnyH_take (i := 3) (oi := { dst := some 20, op := Op.load 32 (Operand.tmp 3), type := 32, pos := "law.go:268", after := #[{ on := 2, ground := Ground.guard }], guard := some (2, false) }) (v := ?_) rfl (by kernel_rfl) (by kernel_rfl) (by kernel_rfl) (fun _ _ _ h => h) (Or.inl ⟨by rfl, ?_⟩) (by assumption) ?_
        rotate_left
        · intro w' hSw
          (try dsimp only at hSw)
          go_simp <;> with_reducible rfl
        try simp only [Act.put, List.setIfInBounds_toArray, List.set_cons_zero, List.set_cons_succ]
        refine wpAnyH_ready (rs := [4]) (by kernel_rfl) (by simp) ?_
        refine AllReadyH.cons (o := { dst := some 21, op := Op.call { callee := Callee.value (Operand.func 7), args := #[Operand.tmp 20], argTypes := #[32] }, type := 3, pos := "law.go:268", after := #[{ on := 3, ground := Ground.data }, { on := 2, ground := Ground.chain }, { on := 2, ground := Ground.guard }], guard := some (2, false) }) rfl (fun K hK => ?_) AllReadyH.nil
        go_simp
        refine (CSA.out _ _ (ku.ext hb0)).mono ?_
        rintro e x19_1 ⟨rfl, g1⟩
        have hb1 : Ext W2 x19_1 := hb0.trans g1
        try dsimp only
        refine hK.out _ _ (HS.out _ hb1) ?_
        clear hHeld
        intro hHeld
        clear hK K
        try simp only [Act.put, List.setIfInBounds_toArray, List.set_cons_zero, List.set_cons_succ]
        refine wpAnyH_take (i := 5) (oi := { dst := some 22, op := Op.binOp BinOp.lss 3 (Operand.tmp 21) (Operand.const (Value.int IntKind.i64 0)) 3, type := 4, pos := "law.go:268", after := #[{ on := 4, ground := Ground.data }, { on := 2, ground := Ground.guard }], guard := some (2, false) }) (v := ?_) rfl (by kernel_rfl) (by kernel_rfl) (by kernel_rfl) (fun _ _ _ h => h) (Or.inl ⟨by rfl, ?_⟩) (by assumption) ?_
        rotate_left
        · intro w' hSw
          (try dsimp only at hSw)
          go_simp <;> with_reducible rfl
        try simp only [Act.put, List.setIfInBounds_toArray, List.set_cons_zero, List.set_cons_succ]
        refine wpAnyH_take (i := 6) (oi := { dst := some 23, op := Op.pick (Operand.tmp 19) (Operand.const (Value.bool true)) (Operand.tmp 22), type := 4, pos := "law.go:268", after := #[{ on := 2, ground := Ground.data }, { on := 5, ground := Ground.data }], guard := none }) (v := ?_) rfl (by kernel_rfl) (by kernel_rfl) (by kernel_rfl) (fun _ _ _ h => h) (Or.inl ⟨by rfl, ?_⟩) (by assumption) ?_
        rotate_left
        · intro w' hSw
          (try dsimp only at hSw)
          go_simp <;> with_reducible rfl
        try simp only [Act.put, List.setIfInBounds_toArray, List.set_cons_zero, List.set_cons_succ]
        refine wpAnyH_take (i := 7) (oi := { dst := some 24, op := Op.move (Operand.tmp 23), type := 4, pos := "law.go:268", after := #[{ on := 6, ground := Ground.data }, { on := 4, ground := Ground.chain }], guard := none }) (v := ?_) rfl (by kernel_rfl) (by kernel_rfl) (by kernel_rfl) (fun _ _ _ h => h) (Or.inl ⟨by rfl, ?_⟩) (by assumption) ?_
        rotate_left
        · intro w' hSw
          (try dsimp only at hSw)
          go_simp <;> with_reducible rfl
        try simp only [Act.put, List.setIfInBounds_toArray, List.set_cons_zero, List.set_cons_succ]
        refine wpAnyH_take (i := 8) (oi := { dst := some 25, op := Op.load 32 (Operand.tmp 4), type := 32, pos := "law.go:268", after := #[{ on := 7, ground := Ground.guard }], guard := some (7, false) }) (v := ?_) rfl (by kernel_rfl) (by kernel_rfl) (by kernel_rfl) (fun _ _ _ h => h) (Or.inl ⟨by rfl, ?_⟩) (by assumption) ?_
        rotate_left
        · intro w' hSw
          (try dsimp only at hSw)
          go_simp <;> with_reducible rfl
        try simp only [Act.put, List.setIfInBounds_toArray, List.set_cons_zero, List.set_cons_succ]
        refine wpAnyH_ready (rs := [9]) (by kernel_rfl) (by simp) ?_
        refine AllReadyH.cons (o := { dst := some 26, op := Op.call { callee := Callee.value (Operand.func 7), args := #[Operand.tmp 25], argTypes := #[32] }, type := 3, pos := "law.go:268", after := #[{ on := 8, ground := Ground.data }, { on := 7, ground := Ground.chain }, { on := 7, ground := Ground.guard }], guard := some (7, false) }) rfl (fun K hK => ?_) AllReadyH.nil
        go_simp
        refine (CSB.out _ _ (kv.ext hb1)).mono ?_
        rintro e x19_2 ⟨rfl, g2⟩
        have hb2 : Ext W2 x19_2 := hb1.trans g2
        try dsimp only
        refine hK.out _ _ (HS.out _ hb2) ?_
        clear hHeld
        intro hHeld
        clear hK K
        try simp only [Act.put, List.setIfInBounds_toArray, List.set_cons_zero, List.set_cons_succ]
        refine wpAnyH_take (i := 10) (oi := { dst := some 27, op := Op.binOp BinOp.lss 3 (Operand.tmp 26) (Operand.const (Value.int IntKind.i64 0)) 3, type := 4, pos := "law.go:268", after := #[{ on := 9, ground := Ground.data }, { on := 7, ground := Ground.guard }], guard := some (7, false) }) (v := ?_) rfl (by kernel_rfl) (by kernel_rfl) (by kernel_rfl) (fun _ _ _ h => h) (Or.inl ⟨by rfl, ?_⟩) (by assumption) ?_
        rotate_left
        · intro w' hSw
          (try dsimp only at hSw)
          go_simp <;> with_reducible rfl
        try simp only [Act.put, List.setIfInBounds_toArray, List.set_cons_zero, List.set_cons_succ]
        refine wpAnyH_take (i := 11) (oi := { dst := some 28, op := Op.pick (Operand.tmp 24) (Operand.const (Value.bool true)) (Operand.tmp 27), type := 4, pos := "law.go:268", after := #[{ on := 7, ground := Ground.data }, { on := 10, ground := Ground.data }], guard := none }) (v := ?_) rfl (by kernel_rfl) (by kernel_rfl) (by kernel_rfl) (fun _ _ _ h => h) (Or.inl ⟨by rfl, ?_⟩) (by assumption) ?_
        rotate_left
        · intro w' hSw
          (try dsimp only at hSw)
          go_simp <;> with_reducible rfl
        try simp only [Act.put, List.setIfInBounds_toArray, List.set_cons_zero, List.set_cons_succ]
        refine wpAnyH_take (i := 12) (oi := { dst := some 29, op := Op.move (Operand.tmp 28), type := 4, pos := "law.go:268", after := #[{ on := 11, ground := Ground.data }, { on := 9, ground := Ground.chain }], guard := none }) (v := ?_) rfl (by kernel_rfl) (by kernel_rfl) (by kernel_rfl) (fun _ _ _ h => h) (Or.inl ⟨by rfl, ?_⟩) (by assumption) ?_
        rotate_left
        · intro w' hSw
          (try dsimp only at hSw)
          go_simp <;> with_reducible rfl
        try simp only [Act.put, List.setIfInBounds_toArray, List.set_cons_zero, List.set_cons_succ]
        refine wpAnyH_take (i := 13) (oi := { dst := some 30, op := Op.load 32 (Operand.tmp 3), type := 32, pos := "law.go:268", after := #[{ on := 12, ground := Ground.guard }], guard := some (12, false) }) (v := undef) rfl (by kernel_rfl) (by kernel_rfl) (by kernel_rfl) (fun _ _ _ h => h) (Or.inr ⟨by rfl, rfl⟩) (by assumption) ?_
        try simp only [Act.put, List.setIfInBounds_toArray, List.set_cons_zero, List.set_cons_succ]
        refine wpAnyH_take (i := 14) (oi := { dst := some 31, op := Op.load 32 (Operand.tmp 4), type := 32, pos := "law.go:268", after := #[{ on := 12, ground := Ground.guard }], guard := some (12, false) }) (v := undef) rfl (by kernel_rfl) (by kernel_rfl) (by kernel_rfl) (fun _ _ _ h => h) (Or.inr ⟨by rfl, rfl⟩) (by assumption) ?_
        try simp only [Act.put, List.setIfInBounds_toArray, List.set_cons_zero, List.set_cons_succ]
        refine wpAnyH_take (i := 15) (oi := { dst := some 32, op := Op.load 32 (Operand.tmp 4), type := 32, pos := "law.go:268", after := #[{ on := 12, ground := Ground.guard }], guard := some (12, false) }) (v := undef) rfl (by kernel_rfl) (by kernel_rfl) (by kernel_rfl) (fun _ _ _ h => h) (Or.inr ⟨by rfl, rfl⟩) (by assumption) ?_
        try simp only [Act.put, List.setIfInBounds_toArray, List.set_cons_zero, List.set_cons_succ]
        refine wpAnyH_take (i := 16) (oi := { dst := some 33, op := Op.call { callee := Callee.value (Operand.func 9), args := #[Operand.tmp 31, Operand.tmp 32], argTypes := #[32, 32] }, type := 32, pos := "law.go:268", after := #[{ on := 14, ground := Ground.data }, { on := 15, ground := Ground.data }, { on := 12, ground := Ground.chain }, { on := 12, ground := Ground.guard }], guard := some (12, false) }) (v := undef) rfl (by kernel_rfl) (by kernel_rfl) (by kernel_rfl) (fun _ _ _ h => h) (Or.inr ⟨by rfl, rfl⟩) (by assumption) ?_
        try simp only [Act.put, List.setIfInBounds_toArray, List.set_cons_zero, List.set_cons_succ]
        refine wpAnyH_take (i := 17) (oi := { dst := some 34, op := Op.call { callee := Callee.value (Operand.func 8), args := #[Operand.tmp 30, Operand.tmp 33], argTypes := #[32, 32] }, type := 3, pos := "law.go:268", after := #[{ on := 13, ground := Ground.data }, { on := 16, ground := Ground.data }, { on := 16, ground := Ground.chain }, { on := 12, ground := Ground.guard }], guard := some (12, false) }) (v := undef) rfl (by kernel_rfl) (by kernel_rfl) (by kernel_rfl) (fun _ _ _ h => h) (Or.inr ⟨by rfl, rfl⟩) (by assumption) ?_
        try simp only [Act.put, List.setIfInBounds_toArray, List.set_cons_zero, List.set_cons_succ]
        refine wpAnyH_take (i := 18) (oi := { dst := some 35, op := Op.binOp BinOp.gtr 3 (Operand.tmp 34) (Operand.const (Value.int IntKind.i64 0)) 3, type := 4, pos := "law.go:268", after := #[{ on := 17, ground := Ground.data }, { on := 12, ground := Ground.guard }], guard := some (12, false) }) (v := undef) rfl (by kernel_rfl) (by kernel_rfl) (by kernel_rfl) (fun _ _ _ h => h) (Or.inr ⟨by rfl, rfl⟩) (by assumption) ?_
        try simp only [Act.put, List.setIfInBounds_toArray, List.set_cons_zero, List.set_cons_succ]
        refine wpAnyH_take (i := 19) (oi := { dst := some 36, op := Op.pick (Operand.tmp 29) (Operand.const (Value.bool true)) (Operand.tmp 35), type := 4, pos := "law.go:268", after := #[{ on := 12, ground := Ground.data }, { on := 18, ground := Ground.data }], guard := none }) (v := ?_) rfl (by kernel_rfl) (by kernel_rfl) (by kernel_rfl) (fun _ _ _ h => h) (Or.inl ⟨by rfl, ?_⟩) (by assumption) ?_
        rotate_left
        · intro w' hSw
          (try dsimp only at hSw)
          go_simp <;> with_reducible rfl
        try simp only [Act.put, List.setIfInBounds_toArray, List.set_cons_zero, List.set_cons_succ]
        refine wpAnyH_take (i := 20) (oi := { dst := some 37, op := Op.move (Operand.tmp 36), type := 4, pos := "law.go:268", after := #[{ on := 19, ground := Ground.data }, { on := 17, ground := Ground.chain }], guard := none }) (v := ?_) rfl (by kernel_rfl) (by kernel_rfl) (by kernel_rfl) (fun _ _ _ h => h) (Or.inl ⟨by rfl, ?_⟩) (by assumption) ?_
        rotate_left
        · intro w' hSw
          (try dsimp only at hSw)
          go_simp <;> with_reducible rfl
        try simp only [Act.put, List.setIfInBounds_toArray, List.set_cons_zero, List.set_cons_succ]
        refine wpAnyH_take (i := 21) (oi := { dst := some 38, op := Op.load 32 (Operand.tmp 4), type := 32, pos := "law.go:268", after := #[{ on := 20, ground := Ground.guard }], guard := some (20, false) }) (v := undef) rfl (by kernel_rfl) (by kernel_rfl) (by kernel_rfl) (fun _ _ _ h => h) (Or.inr ⟨by rfl, rfl⟩) (by assumption) ?_
        try simp only [Act.put, List.setIfInBounds_toArray, List.set_cons_zero, List.set_cons_succ]
        refine wpAnyH_take (i := 22) (oi := { dst := some 39, op := Op.load 32 (Operand.tmp 3), type := 32, pos := "law.go:268", after := #[{ on := 20, ground := Ground.guard }], guard := some (20, false) }) (v := undef) rfl (by kernel_rfl) (by kernel_rfl) (by kernel_rfl) (fun _ _ _ h => h) (Or.inr ⟨by rfl, rfl⟩) (by assumption) ?_
        try simp only [Act.put, List.setIfInBounds_toArray, List.set_cons_zero, List.set_cons_succ]
        refine wpAnyH_take (i := 23) (oi := { dst := some 40, op := Op.load 32 (Operand.tmp 3), type := 32, pos := "law.go:268", after := #[{ on := 20, ground := Ground.guard }], guard := some (20, false) }) (v := undef) rfl (by kernel_rfl) (by kernel_rfl) (by kernel_rfl) (fun _ _ _ h => h) (Or.inr ⟨by rfl, rfl⟩) (by assumption) ?_
        try simp only [Act.put, List.setIfInBounds_toArray, List.set_cons_zero, List.set_cons_succ]
        refine wpAnyH_take (i := 24) (oi := { dst := some 41, op := Op.call { callee := Callee.value (Operand.func 9), args := #[Operand.tmp 39, Operand.tmp 40], argTypes := #[32, 32] }, type := 32, pos := "law.go:268", after := #[{ on := 22, ground := Ground.data }, { on := 23, ground := Ground.data }, { on := 20, ground := Ground.chain }, { on := 20, ground := Ground.guard }], guard := some (20, false) }) (v := undef) rfl (by kernel_rfl) (by kernel_rfl) (by kernel_rfl) (fun _ _ _ h => h) (Or.inr ⟨by rfl, rfl⟩) (by assumption) ?_
        try simp only [Act.put, List.setIfInBounds_toArray, List.set_cons_zero, List.set_cons_succ]
        refine wpAnyH_take (i := 25) (oi := { dst := some 42, op := Op.call { callee := Callee.value (Operand.func 8), args := #[Operand.tmp 38, Operand.tmp 41], argTypes := #[32, 32] }, type := 3, pos := "law.go:268", after := #[{ on := 21, ground := Ground.data }, { on := 24, ground := Ground.data }, { on := 24, ground := Ground.chain }, { on := 20, ground := Ground.guard }], guard := some (20, false) }) (v := undef) rfl (by kernel_rfl) (by kernel_rfl) (by kernel_rfl) (fun _ _ _ h => h) (Or.inr ⟨by rfl, rfl⟩) (by assumption) ?_
        try simp only [Act.put, List.setIfInBounds_toArray, List.set_cons_zero, List.set_cons_succ]
        refine wpAnyH_take (i := 26) (oi := { dst := some 43, op := Op.binOp BinOp.gtr 3 (Operand.tmp 42) (Operand.const (Value.int IntKind.i64 0)) 3, type := 4, pos := "law.go:268", after := #[{ on := 25, ground := Ground.data }, { on := 20, ground := Ground.guard }], guard := some (20, false) }) (v := undef) rfl (by kernel_rfl) (by kernel_rfl) (by kernel_rfl) (fun _ _ _ h => h) (Or.inr ⟨by rfl, rfl⟩) (by assumption) ?_
        try simp only [Act.put, List.setIfInBounds_toArray, List.set_cons_zero, List.set_cons_succ]
        refine wpAnyH_take (i := 27) (oi := { dst := some 44, op := Op.pick (Operand.tmp 37) (Operand.const (Value.bool true)) (Operand.tmp 43), type := 4, pos := "law.go:268", after := #[{ on := 20, ground := Ground.data }, { on := 26, ground := Ground.data }], guard := none }) (v := ?_) rfl (by kernel_rfl) (by kernel_rfl) (by kernel_rfl) (fun _ _ _ h => h) (Or.inl ⟨by rfl, ?_⟩) (by assumption) ?_
        rotate_left
        · intro w' hSw
          (try dsimp only at hSw)
          go_simp <;> with_reducible rfl
        try simp only [Act.put, List.setIfInBounds_toArray, List.set_cons_zero, List.set_cons_succ]
        refine wpAnyH_done (by kernel_rfl) ?_ _
        clear HS hHeld
        have hz_x19_2 := hb2.size
        replace HE := hid (HE.out.trans hb2)
        replace HB_O := hid (HB_O.out.ext hb2)
        replace HB_X := hid (HB_X.out.ext hb2)
        replace HB_Y := hid (HB_Y.out.ext hb2)
        replace ku := ku.ext hb2
        replace kv := kv.ext hb2
        obtain ⟨c_20, c_21, c_22, c_23, c_24, c_25, c_26, c_27, c_28⟩ := HB_O.out.c9
        obtain ⟨c_29, c_30, c_31⟩ := HB_X.out.c3
        obtain ⟨c_32, c_33, c_34⟩ := HB_Y.out.c3
        go_wp2_with fail
        clear c_20 c_21 c_22 c_23 c_24 c_25 c_26 c_27 c_28 c_29 c_30 c_31 c_32 c_33 c_34
        refine (CW.out _ (HP.out.ext HE.out) (HT.out.ext HE.out)).mono ?_
        rintro e w3 ⟨rfl, g3⟩
        have hz_w3 := g3.size
        replace HE := hid (HE.out.trans g3)
        replace HB_O := hid (HB_O.out.ext g3)
        replace HB_X := hid (HB_X.out.ext g3)
        replace HB_Y := hid (HB_Y.out.ext g3)
        replace ku := ku.ext g3
        replace kv := kv.ext g3
        obtain ⟨c_35, c_36, c_37, c_38, c_39, c_40, c_41, c_42, c_43⟩ := HB_O.out.c9
        obtain ⟨c_44, c_45, c_46⟩ := HB_X.out.c3
        obtain ⟨c_47, c_48, c_49⟩ := HB_Y.out.c3
        go_wp2_with fail
        clear c_35 c_36 c_37 c_38 c_39 c_40 c_41 c_42 c_43 c_44 c_45 c_46 c_47 c_48 c_49
        unfold TruePost
        refine bodyPost_ret (v := .bool true) (by simp [results, Tryz.results3, go_sem]) rfl ⟨rfl, HE.out⟩
      · have d1 : decide (sB < 0) = false := decide_eq_false hb
        by_cases hc : 0 < cA
        · have d2 : decide (0 < cA) = true := decide_eq_true hc
          have gA := Ext.trans (Ext.alloc w1 (.cells #[.bool ngu, .slice au nu cu, .slice au' nu' cu'] 32)) (Ext.alloc _ (.cells #[.bool ngv, .slice av nv cv, .slice av' nv' cv'] 32))
          obtain ⟨c_10, c_11, c_12, c_13, c_14, c_15, c_16, c_17, c_18⟩ := (HB_O.out.ext gA).c9
          go_wp2_with fail
          clear gA c_10 c_11 c_12 c_13 c_14 c_15 c_16 c_17 c_18
          obtain ⟨W2, hW2, g2, hy2, B_X, B_Y⟩ := pro2s w1 #[.bool ngu, .slice au nu cu, .slice au' nu' cu'] #[.bool ngv, .slice av nv cv, .slice av' nv' cv'] 32 32
          rw [← hW2]
          clear hW2
          have hz_W2 := g2.size
          replace HE := hid (HE.out.trans g2)
          replace HB_O := hid (HB_O.out.ext g2)
          replace ku := ku.ext g2
          replace kv := kv.ext g2
          have HB_X := hid B_X
          have HB_Y := hid B_Y
          clear B_X B_Y
          have HS : Hid (∀ w', Ext W2 w' → w'.cell? ⟨w1.heap.size, 0, none⟩ = some (.bool ngu) ∧ w'.cell? ⟨w1.heap.size, 1, none⟩ = some (.slice au nu cu) ∧ w'.cell? ⟨w1.heap.size, 2, none⟩ = some (.slice au' nu' cu') ∧ w'.cell? ⟨w1.heap.size + 1, 0, none⟩ = some (.bool ngv) ∧ w'.cell? ⟨w1.heap.size + 1, 1, none⟩ = some (.slice av nv cv) ∧ w'.cell? ⟨w1.heap.size + 1, 2, none⟩ = some (.slice av' nv' cv')) := hid fun w' h => ⟨(HB_X.out.ext h).cell 0, (HB_X.out.ext h).cell 1, (HB_X.out.ext h).cell 2, (HB_Y.out.ext h).cell 0, (HB_Y.out.ext h).cell 1, (HB_Y.out.ext h).cell 2⟩
          have hb0 : Ext W2 W2.drew := Below.drew (Below.refl _ W2)
          refine wp_region_held_drew (S := fun w' => w'.cell? ⟨w1.heap.size, 0, none⟩ = some (.bool ngu) ∧ w'.cell? ⟨w1.heap.size, 1, none⟩ = some (.slice au nu cu) ∧ w'.cell? ⟨w1.heap.size, 2, none⟩ = some (.slice au' nu' cu') ∧ w'.cell? ⟨w1.heap.size + 1, 0, none⟩ = some (.bool ngv) ∧ w'.cell? ⟨w1.heap.size + 1, 1, none⟩ = some (.slice av nv cv) ∧ w'.cell? ⟨w1.heap.size + 1, 2, none⟩ = some (.slice av' nv' cv')) (by kernel_rfl) (HS.out _ hb0) (fun hHeld => ?_)
          refine wpAnyH_take (i := 0) (oi := { dst := some 17, op := Op.move (Operand.tmp 5), type := 4, pos := "law.go:268", after := #[], guard := none }) (v := ?_) rfl (by kernel_rfl) (by kernel_rfl) (by kernel_rfl) (fun _ _ _ h => h) (Or.inl ⟨by rfl, ?_⟩) (by assumption) ?_
          rotate_left
          · intro w' hSw
            (try dsimp only at hSw)
            go_simp <;> with_reducible rfl
          try simp only [Act.put, List.setIfInBounds_toArray, List.set_cons_zero, List.set_cons_succ]
          refine wpAnyH_take (i := 1) (oi := { dst := some 18, op := Op.unOp UnOp.not 4 (Operand.tmp 17), type := 4, pos := "law.go:268", after := #[{ on := 0, ground := Ground.data }], guard := none }) (v := ?_) rfl (by kernel_rfl) (by kernel_rfl) (by kernel_rfl) (fun _ _ _ h => h) (Or.inl ⟨by rfl, ?_⟩) (by assumption) ?_
          rotate_left
          · intro w' hSw
            (try dsimp only at hSw)
            go_simp <;> with_reducible rfl
          try simp only [Act.put, List.setIfInBounds_toArray, List.set_cons_zero, List.set_cons_succ]
          refine wpAnyH_take (i := 2) (oi := { dst := some 19, op := Op.move (Operand.tmp 18), type := 4, pos := "law.go:268", after := #[{ on := 1, ground := Ground.data }], guard := none }) (v := ?_) rfl (by kernel_rfl) (by kernel_rfl) (by kernel_rfl) (fun _ _ _ h => h) (Or.inl ⟨by rfl, ?_⟩) (by assumption) ?_
          rotate_left
          · intro w' hSw
            (try dsimp only at hSw)
            go_simp <;> with_reducible rfl
          try simp only [Act.put, List.setIfInBounds_toArray, List.set_cons_zero, List.set_cons_succ]
          refine wpAnyH_take (i := 3) (oi := { dst := some 20, op := Op.load 32 (Operand.tmp 3), type := 32, pos := "law.go:268", after := #[{ on := 2, ground := Ground.guard }], guard := some (2, false) }) (v := ?_) rfl (by kernel_rfl) (by kernel_rfl) (by kernel_rfl) (fun _ _ _ h => h) (Or.inl ⟨by rfl, ?_⟩) (by assumption) ?_
          rotate_left
          · intro w' hSw
            (try dsimp only at hSw)
            go_simp <;> with_reducible rfl
          try simp only [Act.put, List.setIfInBounds_toArray, List.set_cons_zero, List.set_cons_succ]
          refine wpAnyH_ready (rs := [4]) (by kernel_rfl) (by simp) ?_
          refine AllReadyH.cons (o := { dst := some 21, op := Op.call { callee := Callee.value (Operand.func 7), args := #[Operand.tmp 20], argTypes := #[32] }, type := 3, pos := "law.go:268", after := #[{ on := 3, ground := Ground.data }, { on := 2, ground := Ground.chain }, { on := 2, ground := Ground.guard }], guard := some (2, false) }) rfl (fun K hK => ?_) AllReadyH.nil
          go_simp
          refine (CSA.out _ _ (ku.ext hb0)).mono ?_
          rintro e x19_1 ⟨rfl, g1⟩
          have hb1 : Ext W2 x19_1 := hb0.trans g1
          try dsimp only
          refine hK.out _ _ (HS.out _ hb1) ?_
          clear hHeld
          intro hHeld
          clear hK K
          try simp only [Act.put, List.setIfInBounds_toArray, List.set_cons_zero, List.set_cons_succ]
          refine wpAnyH_take (i := 5) (oi := { dst := some 22, op := Op.binOp BinOp.lss 3 (Operand.tmp 21) (Operand.const (Value.int IntKind.i64 0)) 3, type := 4, pos := "law.go:268", after := #[{ on := 4, ground := Ground.data }, { on := 2, ground := Ground.guard }], guard := some (2, false) }) (v := ?_) rfl (by kernel_rfl) (by kernel_rfl) (by kernel_rfl) (fun _ _ _ h => h) (Or.inl ⟨by rfl, ?_⟩) (by assumption) ?_
          rotate_left
          · intro w' hSw
            (try dsimp only at hSw)
            go_simp <;> with_reducible rfl
          try simp only [Act.put, List.setIfInBounds_toArray, List.set_cons_zero, List.set_cons_succ]
          refine wpAnyH_take (i := 6) (oi := { dst := some 23, op := Op.pick (Operand.tmp 19) (Operand.const (Value.bool true)) (Operand.tmp 22), type := 4, pos := "law.go:268", after := #[{ on := 2, ground := Ground.data }, { on := 5, ground := Ground.data }], guard := none }) (v := ?_) rfl (by kernel_rfl) (by kernel_rfl) (by kernel_rfl) (fun _ _ _ h => h) (Or.inl ⟨by rfl, ?_⟩) (by assumption) ?_
          rotate_left
          · intro w' hSw
            (try dsimp only at hSw)
            go_simp <;> with_reducible rfl
          try simp only [Act.put, List.setIfInBounds_toArray, List.set_cons_zero, List.set_cons_succ]
          refine wpAnyH_take (i := 7) (oi := { dst := some 24, op := Op.move (Operand.tmp 23), type := 4, pos := "law.go:268", after := #[{ on := 6, ground := Ground.data }, { on := 4, ground := Ground.chain }], guard := none }) (v := ?_) rfl (by kernel_rfl) (by kernel_rfl) (by kernel_rfl) (fun _ _ _ h => h) (Or.inl ⟨by rfl, ?_⟩) (by assumption) ?_
          rotate_left
          · intro w' hSw
            (try dsimp only at hSw)
            go_simp <;> with_reducible rfl
          try simp only [Act.put, List.setIfInBounds_toArray, List.set_cons_zero, List.set_cons_succ]
          refine wpAnyH_take (i := 8) (oi := { dst := some 25, op := Op.load 32 (Operand.tmp 4), type := 32, pos := "law.go:268", after := #[{ on := 7, ground := Ground.guard }], guard := some (7, false) }) (v := ?_) rfl (by kernel_rfl) (by kernel_rfl) (by kernel_rfl) (fun _ _ _ h => h) (Or.inl ⟨by rfl, ?_⟩) (by assumption) ?_
          rotate_left
          · intro w' hSw
            (try dsimp only at hSw)
            go_simp <;> with_reducible rfl
          try simp only [Act.put, List.setIfInBounds_toArray, List.set_cons_zero, List.set_cons_succ]
          refine wpAnyH_ready (rs := [9]) (by kernel_rfl) (by simp) ?_
          refine AllReadyH.cons (o := { dst := some 26, op := Op.call { callee := Callee.value (Operand.func 7), args := #[Operand.tmp 25], argTypes := #[32] }, type := 3, pos := "law.go:268", after := #[{ on := 8, ground := Ground.data }, { on := 7, ground := Ground.chain }, { on := 7, ground := Ground.guard }], guard := some (7, false) }) rfl (fun K hK => ?_) AllReadyH.nil
          go_simp
          refine (CSB.out _ _ (kv.ext hb1)).mono ?_
          rintro e x19_2 ⟨rfl, g2⟩
          have hb2 : Ext W2 x19_2 := hb1.trans g2
          try dsimp only
          refine hK.out _ _ (HS.out _ hb2) ?_
          clear hHeld
          intro hHeld
          clear hK K
          try simp only [Act.put, List.setIfInBounds_toArray, List.set_cons_zero, List.set_cons_succ]
          refine wpAnyH_take (i := 10) (oi := { dst := some 27, op := Op.binOp BinOp.lss 3 (Operand.tmp 26) (Operand.const (Value.int IntKind.i64 0)) 3, type := 4, pos := "law.go:268", after := #[{ on := 9, ground := Ground.data }, { on := 7, ground := Ground.guard }], guard := some (7, false) }) (v := ?_) rfl (by kernel_rfl) (by kernel_rfl) (by kernel_rfl) (fun _ _ _ h => h) (Or.inl ⟨by rfl, ?_⟩) (by assumption) ?_
          rotate_left
          · intro w' hSw
            (try dsimp only at hSw)
            go_simp <;> with_reducible rfl
          try simp only [Act.put, List.setIfInBounds_toArray, List.set_cons_zero, List.set_cons_succ]
          refine wpAnyH_take (i := 11) (oi := { dst := some 28, op := Op.pick (Operand.tmp 24) (Operand.const (Value.bool true)) (Operand.tmp 27), type := 4, pos := "law.go:268", after := #[{ on := 7, ground := Ground.data }, { on := 10, ground := Ground.data }], guard := none }) (v := ?_) rfl (by kernel_rfl) (by kernel_rfl) (by kernel_rfl) (fun _ _ _ h => h) (Or.inl ⟨by rfl, ?_⟩) (by assumption) ?_
          rotate_left
          · intro w' hSw
            (try dsimp only at hSw)
            go_simp <;> with_reducible rfl
          try simp only [Act.put, List.setIfInBounds_toArray, List.set_cons_zero, List.set_cons_succ]
          refine wpAnyH_take (i := 12) (oi := { dst := some 29, op := Op.move (Operand.tmp 28), type := 4, pos := "law.go:268", after := #[{ on := 11, ground := Ground.data }, { on := 9, ground := Ground.chain }], guard := none }) (v := ?_) rfl (by kernel_rfl) (by kernel_rfl) (by kernel_rfl) (fun _ _ _ h => h) (Or.inl ⟨by rfl, ?_⟩) (by assumption) ?_
          rotate_left
          · intro w' hSw
            (try dsimp only at hSw)
            go_simp <;> with_reducible rfl
          try simp only [Act.put, List.setIfInBounds_toArray, List.set_cons_zero, List.set_cons_succ]
          refine wpAnyH_take (i := 13) (oi := { dst := some 30, op := Op.load 32 (Operand.tmp 3), type := 32, pos := "law.go:268", after := #[{ on := 12, ground := Ground.guard }], guard := some (12, false) }) (v := ?_) rfl (by kernel_rfl) (by kernel_rfl) (by kernel_rfl) (fun _ _ _ h => h) (Or.inl ⟨by rfl, ?_⟩) (by assumption) ?_
          rotate_left
          · intro w' hSw
            (try dsimp only at hSw)
            go_simp <;> with_reducible rfl
          try simp only [Act.put, List.setIfInBounds_toArray, List.set_cons_zero, List.set_cons_succ]
          refine wpAnyH_take (i := 14) (oi := { dst := some 31, op := Op.load 32 (Operand.tmp 4), type := 32, pos := "law.go:268", after := #[{ on := 12, ground := Ground.guard }], guard := some (12, false) }) (v := ?_) rfl (by kernel_rfl) (by kernel_rfl) (by kernel_rfl) (fun _ _ _ h => h) (Or.inl ⟨by rfl, ?_⟩) (by assumption) ?_
          rotate_left
          · intro w' hSw
            (try dsimp only at hSw)
            go_simp <;> with_reducible rfl
          try simp only [Act.put, List.setIfInBounds_toArray, List.set_cons_zero, List.set_cons_succ]
          refine wpAnyH_take (i := 15) (oi := { dst := some 32, op := Op.load 32 (Operand.tmp 4), type := 32, pos := "law.go:268", after := #[{ on := 12, ground := Ground.guard }], guard := some (12, false) }) (v := ?_) rfl (by kernel_rfl) (by kernel_rfl) (by kernel_rfl) (fun _ _ _ h => h) (Or.inl ⟨by rfl, ?_⟩) (by assumption) ?_
          rotate_left
          · intro w' hSw
            (try dsimp only at hSw)
            go_simp <;> with_reducible rfl
          try simp only [Act.put, List.setIfInBounds_toArray, List.set_cons_zero, List.set_cons_succ]
          refine wpAnyH_ready (rs := [16]) (by kernel_rfl) (by simp) ?_
          refine AllReadyH.cons (o := { dst := some 33, op := Op.call { callee := Callee.value (Operand.func 9), args := #[Operand.tmp 31, Operand.tmp 32], argTypes := #[32, 32] }, type := 32, pos := "law.go:268", after := #[{ on := 14, ground := Ground.data }, { on := 15, ground := Ground.data }, { on := 12, ground := Ground.chain }, { on := 12, ground := Ground.guard }], guard := some (12, false) }) rfl (fun K hK => ?_) AllReadyH.nil
          go_simp
          refine (CDB.out _ _ _ (kv.ext hb2) (kv.ext hb2)).mono ?_
          rintro e x19_3 ⟨vd1, rfl, kd1, g3⟩
          have hb3 : Ext W2 x19_3 := hb2.trans g3
          try dsimp only
          refine hK.out _ _ (HS.out _ hb3) ?_
          clear hHeld
          intro hHeld
          clear hK K
          try simp only [Act.put, List.setIfInBounds_toArray, List.set_cons_zero, List.set_cons_succ]
          refine wpAnyH_ready (rs := [17]) (by kernel_rfl) (by simp) ?_
          refine AllReadyH.cons (o := { dst := some 34, op := Op.call { callee := Callee.value (Operand.func 8), args := #[Operand.tmp 30, Operand.tmp 33], argTypes := #[32, 32] }, type := 3, pos := "law.go:268", after := #[{ on := 13, ground := Ground.data }, { on := 16, ground := Ground.data }, { on := 16, ground := Ground.chain }, { on := 12, ground := Ground.guard }], guard := some (12, false) }) rfl (fun K hK => ?_) AllReadyH.nil
          go_simp
          refine (CC1.out _ _ _ (ku.ext hb3) kd1).mono ?_
          rintro e x19_4 ⟨rfl, g4⟩
          have hb4 : Ext W2 x19_4 := hb3.trans g4
          try dsimp only
          refine hK.out _ _ (HS.out _ hb4) ?_
          clear hHeld
          intro hHeld
          clear hK K
          try simp only [Act.put, List.setIfInBounds_toArray, List.set_cons_zero, List.set_cons_succ]
          refine wpAnyH_take (i := 18) (oi := { dst := some 35, op := Op.binOp BinOp.gtr 3 (Operand.tmp 34) (Operand.const (Value.int IntKind.i64 0)) 3, type := 4, pos := "law.go:268", after := #[{ on := 17, ground := Ground.data }, { on := 12, ground := Ground.guard }], guard := some (12, false) }) (v := ?_) rfl (by kernel_rfl) (by kernel_rfl) (by kernel_rfl) (fun _ _ _ h => h) (Or.inl ⟨by rfl, ?_⟩) (by assumption) ?_
          rotate_left
          · intro w' hSw
            (try dsimp only at hSw)
            go_simp <;> with_reducible rfl
          try simp only [Act.put, List.setIfInBounds_toArray, List.set_cons_zero, List.set_cons_succ]
          refine wpAnyH_take (i := 19) (oi := { dst := some 36, op := Op.pick (Operand.tmp 29) (Operand.const (Value.bool true)) (Operand.tmp 35), type := 4, pos := "law.go:268", after := #[{ on := 12, ground := Ground.data }, { on := 18, ground := Ground.data }], guard := none }) (v := ?_) rfl (by kernel_rfl) (by kernel_rfl) (by kernel_rfl) (fun _ _ _ h => h) (Or.inl ⟨by rfl, ?_⟩) (by assumption) ?_
          rotate_left
          · intro w' hSw
            (try dsimp only at hSw)
            go_simp <;> with_reducible rfl
          try simp only [Act.put, List.setIfInBounds_toArray, List.set_cons_zero, List.set_cons_succ]
          refine wpAnyH_take (i := 20) (oi := { dst := some 37, op := Op.move (Operand.tmp 36), type := 4, pos := "law.go:268", after := #[{ on := 19, ground := Ground.data }, { on := 17, ground := Ground.chain }], guard := none }) (v := ?_) rfl (by kernel_rfl) (by kernel_rfl) (by kernel_rfl) (fun _ _ _ h => h) (Or.inl ⟨by rfl, ?_⟩) (by assumption) ?_
          rotate_left
          · intro w' hSw
            (try dsimp only at hSw)
            go_simp <;> with_reducible rfl
          try simp only [Act.put, List.setIfInBounds_toArray, List.set_cons_zero, List.set_cons_succ]
          refine wpAnyH_take (i := 21) (oi := { dst := some 38, op := Op.load 32 (Operand.tmp 4), type := 32, pos := "law.go:268", after := #[{ on := 20, ground := Ground.guard }], guard := some (20, false) }) (v := undef) rfl (by kernel_rfl) (by kernel_rfl) (by kernel_rfl) (fun _ _ _ h => h) (Or.inr ⟨by rfl, rfl⟩) (by assumption) ?_
          try simp only [Act.put, List.setIfInBounds_toArray, List.set_cons_zero, List.set_cons_succ]
          refine wpAnyH_take (i := 22) (oi := { dst := some 39, op := Op.load 32 (Operand.tmp 3), type := 32, pos := "law.go:268", after := #[{ on := 20, ground := Ground.guard }], guard := some (20, false) }) (v := undef) rfl (by kernel_rfl) (by kernel_rfl) (by kernel_rfl) (fun _ _ _ h => h) (Or.inr ⟨by rfl, rfl⟩) (by assumption) ?_
          try simp only [Act.put, List.setIfInBounds_toArray, List.set_cons_zero, List.set_cons_succ]
          refine wpAnyH_take (i := 23) (oi := { dst := some 40, op := Op.load 32 (Operand.tmp 3), type := 32, pos := "law.go:268", after := #[{ on := 20, ground := Ground.guard }], guard := some (20, false) }) (v := undef) rfl (by kernel_rfl) (by kernel_rfl) (by kernel_rfl) (fun _ _ _ h => h) (Or.inr ⟨by rfl, rfl⟩) (by assumption) ?_
          try simp only [Act.put, List.setIfInBounds_toArray, List.set_cons_zero, List.set_cons_succ]
          refine wpAnyH_take (i := 24) (oi := { dst := some 41, op := Op.call { callee := Callee.value (Operand.func 9), args := #[Operand.tmp 39, Operand.tmp 40], argTypes := #[32, 32] }, type := 32, pos := "law.go:268", after := #[{ on := 22, ground := Ground.data }, { on := 23, ground := Ground.data }, { on := 20, ground := Ground.chain }, { on := 20, ground := Ground.guard }], guard := some (20, false) }) (v := undef) rfl (by kernel_rfl) (by kernel_rfl) (by kernel_rfl) (fun _ _ _ h => h) (Or.inr ⟨by rfl, rfl⟩) (by assumption) ?_
          try simp only [Act.put, List.setIfInBounds_toArray, List.set_cons_zero, List.set_cons_succ]
          refine wpAnyH_take (i := 25) (oi := { dst := some 42, op := Op.call { callee := Callee.value (Operand.func 8), args := #[Operand.tmp 38, Operand.tmp 41], argTypes := #[32, 32] }, type := 3, pos := "law.go:268", after := #[{ on := 21, ground := Ground.data }, { on := 24, ground := Ground.data }, { on := 24, ground := Ground.chain }, { on := 20, ground := Ground.guard }], guard := some (20, false) }) (v := undef) rfl (by kernel_rfl) (by kernel_rfl) (by kernel_rfl) (fun _ _ _ h => h) (Or.inr ⟨by rfl, rfl⟩) (by assumption) ?_
          try simp only [Act.put, List.setIfInBounds_toArray, List.set_cons_zero, List.set_cons_succ]
          refine wpAnyH_take (i := 26) (oi := { dst := some 43, op := Op.binOp BinOp.gtr 3 (Operand.tmp 42) (Operand.const (Value.int IntKind.i64 0)) 3, type := 4, pos := "law.go:268", after := #[{ on := 25, ground := Ground.data }, { on := 20, ground := Ground.guard }], guard := some (20, false) }) (v := undef) rfl (by kernel_rfl) (by kernel_rfl) (by kernel_rfl) (fun _ _ _ h => h) (Or.inr ⟨by rfl, rfl⟩) (by assumption) ?_
          try simp only [Act.put, List.setIfInBounds_toArray, List.set_cons_zero, List.set_cons_succ]
          refine wpAnyH_take (i := 27) (oi := { dst := some 44, op := Op.pick (Operand.tmp 37) (Operand.const (Value.bool true)) (Operand.tmp 43), type := 4, pos := "law.go:268", after := #[{ on := 20, ground := Ground.data }, { on := 26, ground := Ground.data }], guard := none }) (v := ?_) rfl (by kernel_rfl) (by kernel_rfl) (by kernel_rfl) (fun _ _ _ h => h) (Or.inl ⟨by rfl, ?_⟩) (by assumption) ?_
          rotate_left
          · intro w' hSw
            (try dsimp only at hSw)
            go_simp <;> with_reducible rfl
          try simp only [Act.put, List.setIfInBounds_toArray, List.set_cons_zero, List.set_cons_succ]
          refine wpAnyH_done (by kernel_rfl) ?_ _
          clear HS hHeld
          have hz_x19_4 := hb4.size
          replace HE := hid (HE.out.trans hb4)
          replace HB_O := hid (HB_O.out.ext hb4)
          replace HB_X := hid (HB_X.out.ext hb4)
          replace HB_Y := hid (HB_Y.out.ext hb4)
          replace ku := ku.ext hb4
          replace kv := kv.ext hb4
          obtain ⟨c_20, c_21, c_22, c_23, c_24, c_25, c_26, c_27, c_28⟩ := HB_O.out.c9
          obtain ⟨c_29, c_30, c_31⟩ := HB_X.out.c3
          obtain ⟨c_32, c_33, c_34⟩ := HB_Y.out.c3
          go_wp2_with fail
          clear c_20 c_21 c_22 c_23 c_24 c_25 c_26 c_27 c_28 c_29 c_30 c_31 c_32 c_33 c_34
          refine (CW.out _ (HP.out.ext HE.out) (HT.out.ext HE.out)).mono ?_
          rintro e w3 ⟨rfl, g3⟩
          have hz_w3 := g3.size
          replace HE := hid (HE.out.trans g3)
          replace HB_O := hid (HB_O.out.ext g3)
          replace HB_X := hid (HB_X.out.ext g3)
          replace HB_Y := hid (HB_Y.out.ext g3)
          replace ku := ku.ext g3
          replace kv := kv.ext g3
          obtain ⟨c_35, c_36, c_37, c_38, c_39, c_40, c_41, c_42, c_43⟩ := HB_O.out.c9
          obtain ⟨c_44, c_45, c_46⟩ := HB_X.out.c3
          obtain ⟨c_47, c_48, c_49⟩ := HB_Y.out.c3
          go_wp2_with fail
          clear c_35 c_36 c_37 c_38 c_39 c_40 c_41 c_42 c_43 c_44 c_45 c_46 c_47 c_48 c_49
          unfold TruePost
          refine bodyPost_ret (v := .bool true) (by simp [results, Tryz.results3, go_sem]) rfl ⟨rfl, HE.out⟩
        · have d2 : decide (0 < cA) = false := decide_eq_false hc
          by_cases hd : 0 < cB
          · have d3 : decide (0 < cB) = true := decide_eq_true hd
            have gA := Ext.trans (Ext.alloc w1 (.cells #[.bool ngu, .slice au nu cu, .slice au' nu' cu'] 32)) (Ext.alloc _ (.cells #[.bool ngv, .slice av nv cv, .slice av' nv' cv'] 32))
            obtain ⟨c_10, c_11, c_12, c_13, c_14, c_15, c_16, c_17, c_18⟩ := (HB_O.out.ext gA).c9
            go_wp2_with fail
            clear gA c_10 c_11 c_12 c_13 c_14 c_15 c_16 c_17 c_18
            obtain ⟨W2, hW2, g2, hy2, B_X, B_Y⟩ := pro2s w1 #[.bool ngu, .slice au nu cu, .slice au' nu' cu'] #[.bool ngv, .slice av nv cv, .slice av' nv' cv'] 32 32
            rw [← hW2]
            clear hW2
            have hz_W2 := g2.size
            replace HE := hid (HE.out.trans g2)
            replace HB_O := hid (HB_O.out.ext g2)
            replace ku := ku.ext g2
            replace kv := kv.ext g2
            have HB_X := hid B_X
            have HB_Y := hid B_Y
            clear B_X B_Y
            have HS : Hid (∀ w', Ext W2 w' → w'.cell? ⟨w1.heap.size, 0, none⟩ = some (.bool ngu) ∧ w'.cell? ⟨w1.heap.size, 1, none⟩ = some (.slice au nu cu) ∧ w'.cell? ⟨w1.heap.size, 2, none⟩ = some (.slice au' nu' cu') ∧ w'.cell? ⟨w1.heap.size + 1, 0, none⟩ = some (.bool ngv) ∧ w'.cell? ⟨w1.heap.size + 1, 1, none⟩ = some (.slice av nv cv) ∧ w'.cell? ⟨w1.heap.size + 1, 2, none⟩ = some (.slice av' nv' cv')) := hid fun w' h => ⟨(HB_X.out.ext h).cell 0, (HB_X.out.ext h).cell 1, (HB_X.out.ext h).cell 2, (HB_Y.out.ext h).cell 0, (HB_Y.out.ext h).cell 1, (HB_Y.out.ext h).cell 2⟩
            have hb0 : Ext W2 W2.drew := Below.drew (Below.refl _ W2)
            refine wp_region_held_drew (S := fun w' => w'.cell? ⟨w1.heap.size, 0, none⟩ = some (.bool ngu) ∧ w'.cell? ⟨w1.heap.size, 1, none⟩ = some (.slice au nu cu) ∧ w'.cell? ⟨w1.heap.size, 2, none⟩ = some (.slice au' nu' cu') ∧ w'.cell? ⟨w1.heap.size + 1, 0, none⟩ = some (.bool ngv) ∧ w'.cell? ⟨w1.heap.size + 1, 1, none⟩ = some (.slice av nv cv) ∧ w'.cell? ⟨w1.heap.size + 1, 2, none⟩ = some (.slice av' nv' cv')) (by kernel_rfl) (HS.out _ hb0) (fun hHeld => ?_)
            refine wpAnyH_take (i := 0) (oi := { dst := some 17, op := Op.move (Operand.tmp 5), type := 4, pos := "law.go:268", after := #[], guard := none }) (v := ?_) rfl (by kernel_rfl) (by kernel_rfl) (by kernel_rfl) (fun _ _ _ h => h) (Or.inl ⟨by rfl, ?_⟩) (by assumption) ?_
            rotate_left
            · intro w' hSw
              (try dsimp only at hSw)
              go_simp <;> with_reducible rfl
            try simp only [Act.put, List.setIfInBounds_toArray, List.set_cons_zero, List.set_cons_succ]
            refine wpAnyH_take (i := 1) (oi := { dst := some 18, op := Op.unOp UnOp.not 4 (Operand.tmp 17), type := 4, pos := "law.go:268", after := #[{ on := 0, ground := Ground.data }], guard := none }) (v := ?_) rfl (by kernel_rfl) (by kernel_rfl) (by kernel_rfl) (fun _ _ _ h => h) (Or.inl ⟨by rfl, ?_⟩) (by assumption) ?_
            rotate_left
            · intro w' hSw
              (try dsimp only at hSw)
              go_simp <;> with_reducible rfl
            try simp only [Act.put, List.setIfInBounds_toArray, List.set_cons_zero, List.set_cons_succ]
            refine wpAnyH_take (i := 2) (oi := { dst := some 19, op := Op.move (Operand.tmp 18), type := 4, pos := "law.go:268", after := #[{ on := 1, ground := Ground.data }], guard := none }) (v := ?_) rfl (by kernel_rfl) (by kernel_rfl) (by kernel_rfl) (fun _ _ _ h => h) (Or.inl ⟨by rfl, ?_⟩) (by assumption) ?_
            rotate_left
            · intro w' hSw
              (try dsimp only at hSw)
              go_simp <;> with_reducible rfl
            try simp only [Act.put, List.setIfInBounds_toArray, List.set_cons_zero, List.set_cons_succ]
            refine wpAnyH_take (i := 3) (oi := { dst := some 20, op := Op.load 32 (Operand.tmp 3), type := 32, pos := "law.go:268", after := #[{ on := 2, ground := Ground.guard }], guard := some (2, false) }) (v := ?_) rfl (by kernel_rfl) (by kernel_rfl) (by kernel_rfl) (fun _ _ _ h => h) (Or.inl ⟨by rfl, ?_⟩) (by assumption) ?_
            rotate_left
            · intro w' hSw
              (try dsimp only at hSw)
              go_simp <;> with_reducible rfl
            try simp only [Act.put, List.setIfInBounds_toArray, List.set_cons_zero, List.set_cons_succ]
            refine wpAnyH_ready (rs := [4]) (by kernel_rfl) (by simp) ?_
            refine AllReadyH.cons (o := { dst := some 21, op := Op.call { callee := Callee.value (Operand.func 7), args := #[Operand.tmp 20], argTypes := #[32] }, type := 3, pos := "law.go:268", after := #[{ on := 3, ground := Ground.data }, { on := 2, ground := Ground.chain }, { on := 2, ground := Ground.guard }], guard := some (2, false) }) rfl (fun K hK => ?_) AllReadyH.nil
            go_simp
            refine (CSA.out _ _ (ku.ext hb0)).mono ?_
            rintro e x19_1 ⟨rfl, g1⟩
            have hb1 : Ext W2 x19_1 := hb0.trans g1
            try dsimp only
            refine hK.out _ _ (HS.out _ hb1) ?_
            clear hHeld
            intro hHeld
            clear hK K
            try simp only [Act.put, List.setIfInBounds_toArray, List.set_cons_zero, List.set_cons_succ]
            refine wpAnyH_take (i := 5) (oi := { dst := some 22, op := Op.binOp BinOp.lss 3 (Operand.tmp 21) (Operand.const (Value.int IntKind.i64 0)) 3, type := 4, pos := "law.go:268", after := #[{ on := 4, ground := Ground.data }, { on := 2, ground := Ground.guard }], guard := some (2, false) }) (v := ?_) rfl (by kernel_rfl) (by kernel_rfl) (by kernel_rfl) (fun _ _ _ h => h) (Or.inl ⟨by rfl, ?_⟩) (by assumption) ?_
            rotate_left
            · intro w' hSw
              (try dsimp only at hSw)
              go_simp <;> with_reducible rfl
            try simp only [Act.put, List.setIfInBounds_toArray, List.set_cons_zero, List.set_cons_succ]
            refine wpAnyH_take (i := 6) (oi := { dst := some 23, op := Op.pick (Operand.tmp 19) (Operand.const (Value.bool true)) (Operand.tmp 22), type := 4, pos := "law.go:268", after := #[{ on := 2, ground := Ground.data }, { on := 5, ground := Ground.data }], guard := none }) (v := ?_) rfl (by kernel_rfl) (by kernel_rfl) (by kernel_rfl) (fun _ _ _ h => h) (Or.inl ⟨by rfl, ?_⟩) (by assumption) ?_
            rotate_left
            · intro w' hSw
              (try dsimp only at hSw)
              go_simp <;> with_reducible rfl
            try simp only [Act.put, List.setIfInBounds_toArray, List.set_cons_zero, List.set_cons_succ]
            refine wpAnyH_take (i := 7) (oi := { dst := some 24, op := Op.move (Operand.tmp 23), type := 4, pos := "law.go:268", after := #[{ on := 6, ground := Ground.data }, { on := 4, ground := Ground.chain }], guard := none }) (v := ?_) rfl (by kernel_rfl) (by kernel_rfl) (by kernel_rfl) (fun _ _ _ h => h) (Or.inl ⟨by rfl, ?_⟩) (by assumption) ?_
            rotate_left
            · intro w' hSw
              (try dsimp only at hSw)
              go_simp <;> with_reducible rfl
            try simp only [Act.put, List.setIfInBounds_toArray, List.set_cons_zero, List.set_cons_succ]
            refine wpAnyH_take (i := 8) (oi := { dst := some 25, op := Op.load 32 (Operand.tmp 4), type := 32, pos := "law.go:268", after := #[{ on := 7, ground := Ground.guard }], guard := some (7, false) }) (v := ?_) rfl (by kernel_rfl) (by kernel_rfl) (by kernel_rfl) (fun _ _ _ h => h) (Or.inl ⟨by rfl, ?_⟩) (by assumption) ?_
            rotate_left
            · intro w' hSw
              (try dsimp only at hSw)
              go_simp <;> with_reducible rfl
            try simp only [Act.put, List.setIfInBounds_toArray, List.set_cons_zero, List.set_cons_succ]
            refine wpAnyH_ready (rs := [9]) (by kernel_rfl) (by simp) ?_
            refine AllReadyH.cons (o := { dst := some 26, op := Op.call { callee := Callee.value (Operand.func 7), args := #[Operand.tmp 25], argTypes := #[32] }, type := 3, pos := "law.go:268", after := #[{ on := 8, ground := Ground.data }, { on := 7, ground := Ground.chain }, { on := 7, ground := Ground.guard }], guard := some (7, false) }) rfl (fun K hK => ?_) AllReadyH.nil
            go_simp
            refine (CSB.out _ _ (kv.ext hb1)).mono ?_
            rintro e x19_2 ⟨rfl, g2⟩
            have hb2 : Ext W2 x19_2 := hb1.trans g2
            try dsimp only
            refine hK.out _ _ (HS.out _ hb2) ?_
            clear hHeld
            intro hHeld
            clear hK K
            try simp only [Act.put, List.setIfInBounds_toArray, List.set_cons_zero, List.set_cons_succ]
            refine wpAnyH_take (i := 10) (oi := { dst := some 27, op := Op.binOp BinOp.lss 3 (Operand.tmp 26) (Operand.const (Value.int IntKind.i64 0)) 3, type := 4, pos := "law.go:268", after := #[{ on := 9, ground := Ground.data }, { on := 7, ground := Ground.guard }], guard := some (7, false) }) (v := ?_) rfl (by kernel_rfl) (by kernel_rfl) (by kernel_rfl) (fun _ _ _ h => h) (Or.inl ⟨by rfl, ?_⟩) (by assumption) ?_
            rotate_left
            · intro w' hSw
              (try dsimp only at hSw)
              go_simp <;> with_reducible rfl
            try simp only [Act.put, List.setIfInBounds_toArray, List.set_cons_zero, List.set_cons_succ]
            refine wpAnyH_take (i := 11) (oi := { dst := some 28, op := Op.pick (Operand.tmp 24) (Operand.const (Value.bool true)) (Operand.tmp 27), type := 4, pos := "law.go:268", after := #[{ on := 7, ground := Ground.data }, { on := 10, ground := Ground.data }], guard := none }) (v := ?_) rfl (by kernel_rfl) (by kernel_rfl) (by kernel_rfl) (fun _ _ _ h => h) (Or.inl ⟨by rfl, ?_⟩) (by assumption) ?_
            rotate_left
            · intro w' hSw
              (try dsimp only at hSw)
              go_simp <;> with_reducible rfl
            try simp only [Act.put, List.setIfInBounds_toArray, List.set_cons_zero, List.set_cons_succ]
            refine wpAnyH_take (i := 12) (oi := { dst := some 29, op := Op.move (Operand.tmp 28), type := 4, pos := "law.go:268", after := #[{ on := 11, ground := Ground.data }, { on := 9, ground := Ground.chain }], guard := none }) (v := ?_) rfl (by kernel_rfl) (by kernel_rfl) (by kernel_rfl) (fun _ _ _ h => h) (Or.inl ⟨by rfl, ?_⟩) (by assumption) ?_
            rotate_left
            · intro w' hSw
              (try dsimp only at hSw)
              go_simp <;> with_reducible rfl
            try simp only [Act.put, List.setIfInBounds_toArray, List.set_cons_zero, List.set_cons_succ]
            refine wpAnyH_take (i := 13) (oi := { dst := some 30, op := Op.load 32 (Operand.tmp 3), type := 32, pos := "law.go:268", after := #[{ on := 12, ground := Ground.guard }], guard := some (12, false) }) (v := ?_) rfl (by kernel_rfl) (by kernel_rfl) (by kernel_rfl) (fun _ _ _ h => h) (Or.inl ⟨by rfl, ?_⟩) (by assumption) ?_
            rotate_left
            · intro w' hSw
              (try dsimp only at hSw)
              go_simp <;> with_reducible rfl
            try simp only [Act.put, List.setIfInBounds_toArray, List.set_cons_zero, List.set_cons_succ]
            refine wpAnyH_take (i := 14) (oi := { dst := some 31, op := Op.load 32 (Operand.tmp 4), type := 32, pos := "law.go:268", after := #[{ on := 12, ground := Ground.guard }], guard := some (12, false) }) (v := ?_) rfl (by kernel_rfl) (by kernel_rfl) (by kernel_rfl) (fun _ _ _ h => h) (Or.inl ⟨by rfl, ?_⟩) (by assumption) ?_
            rotate_left
            · intro w' hSw
              (try dsimp only at hSw)
              go_simp <;> with_reducible rfl
            try simp only [Act.put, List.setIfInBounds_toArray, List.set_cons_zero, List.set_cons_succ]
            refine wpAnyH_take (i := 15) (oi := { dst := some 32, op := Op.load 32 (Operand.tmp 4), type := 32, pos := "law.go:268", after := #[{ on := 12, ground := Ground.guard }], guard := some (12, false) }) (v := ?_) rfl (by kernel_rfl) (by kernel_rfl) (by kernel_rfl) (fun _ _ _ h => h) (Or.inl ⟨by rfl, ?_⟩) (by assumption) ?_
            rotate_left
            · intro w' hSw
              (try dsimp only at hSw)
              go_simp <;> with_reducible rfl
            try simp only [Act.put, List.setIfInBounds_toArray, List.set_cons_zero, List.set_cons_succ]
            refine wpAnyH_ready (rs := [16]) (by kernel_rfl) (by simp) ?_
            refine AllReadyH.cons (o := { dst := some 33, op := Op.call { callee := Callee.value (Operand.func 9), args := #[Operand.tmp 31, Operand.tmp 32], argTypes := #[32, 32] }, type := 32, pos := "law.go:268", after := #[{ on := 14, ground := Ground.data }, { on := 15, ground := Ground.data }, { on := 12, ground := Ground.chain }, { on := 12, ground := Ground.guard }], guard := some (12, false) }) rfl (fun K hK => ?_) AllReadyH.nil
            go_simp
            refine (CDB.out _ _ _ (kv.ext hb2) (kv.ext hb2)).mono ?_
            rintro e x19_3 ⟨vd1, rfl, kd1, g3⟩
            have hb3 : Ext W2 x19_3 := hb2.trans g3
            try dsimp only
            refine hK.out _ _ (HS.out _ hb3) ?_
            clear hHeld
            intro hHeld
            clear hK K
            try simp only [Act.put, List.setIfInBounds_toArray, List.set_cons_zero, List.set_cons_succ]
            refine wpAnyH_ready (rs := [17]) (by kernel_rfl) (by simp) ?_
            refine AllReadyH.cons (o := { dst := some 34, op := Op.call { callee := Callee.value (Operand.func 8), args := #[Operand.tmp 30, Operand.tmp 33], argTypes := #[32, 32] }, type := 3, pos := "law.go:268", after := #[{ on := 13, ground := Ground.data }, { on := 16, ground := Ground.data }, { on := 16, ground := Ground.chain }, { on := 12, ground := Ground.guard }], guard := some (12, false) }) rfl (fun K hK => ?_) AllReadyH.nil
            go_simp
            refine (CC1.out _ _ _ (ku.ext hb3) kd1).mono ?_
            rintro e x19_4 ⟨rfl, g4⟩
            have hb4 : Ext W2 x19_4 := hb3.trans g4
            try dsimp only
            refine hK.out _ _ (HS.out _ hb4) ?_
            clear hHeld
            intro hHeld
            clear hK K
            try simp only [Act.put, List.setIfInBounds_toArray, List.set_cons_zero, List.set_cons_succ]
            refine wpAnyH_take (i := 18) (oi := { dst := some 35, op := Op.binOp BinOp.gtr 3 (Operand.tmp 34) (Operand.const (Value.int IntKind.i64 0)) 3, type := 4, pos := "law.go:268", after := #[{ on := 17, ground := Ground.data }, { on := 12, ground := Ground.guard }], guard := some (12, false) }) (v := ?_) rfl (by kernel_rfl) (by kernel_rfl) (by kernel_rfl) (fun _ _ _ h => h) (Or.inl ⟨by rfl, ?_⟩) (by assumption) ?_
            rotate_left
            · intro w' hSw
              (try dsimp only at hSw)
              go_simp <;> with_reducible rfl
            try simp only [Act.put, List.setIfInBounds_toArray, List.set_cons_zero, List.set_cons_succ]
            refine wpAnyH_take (i := 19) (oi := { dst := some 36, op := Op.pick (Operand.tmp 29) (Operand.const (Value.bool true)) (Operand.tmp 35), type := 4, pos := "law.go:268", after := #[{ on := 12, ground := Ground.data }, { on := 18, ground := Ground.data }], guard := none }) (v := ?_) rfl (by kernel_rfl) (by kernel_rfl) (by kernel_rfl) (fun _ _ _ h => h) (Or.inl ⟨by rfl, ?_⟩) (by assumption) ?_
            rotate_left
            · intro w' hSw
              (try dsimp only at hSw)
              go_simp <;> with_reducible rfl
            try simp only [Act.put, List.setIfInBounds_toArray, List.set_cons_zero, List.set_cons_succ]
            refine wpAnyH_take (i := 20) (oi := { dst := some 37, op := Op.move (Operand.tmp 36), type := 4, pos := "law.go:268", after := #[{ on := 19, ground := Ground.data }, { on := 17, ground := Ground.chain }], guard := none }) (v := ?_) rfl (by kernel_rfl) (by kernel_rfl) (by kernel_rfl) (fun _ _ _ h => h) (Or.inl ⟨by rfl, ?_⟩) (by assumption) ?_
            rotate_left
            · intro w' hSw
              (try dsimp only at hSw)
              go_simp <;> with_reducible rfl
            try simp only [Act.put, List.setIfInBounds_toArray, List.set_cons_zero, List.set_cons_succ]
            refine wpAnyH_take (i := 21) (oi := { dst := some 38, op := Op.load 32 (Operand.tmp 4), type := 32, pos := "law.go:268", after := #[{ on := 20, ground := Ground.guard }], guard := some (20, false) }) (v := ?_) rfl (by kernel_rfl) (by kernel_rfl) (by kernel_rfl) (fun _ _ _ h => h) (Or.inl ⟨by rfl, ?_⟩) (by assumption) ?_
            rotate_left
            · intro w' hSw
              (try dsimp only at hSw)
              go_simp <;> with_reducible rfl
            try simp only [Act.put, List.setIfInBounds_toArray, List.set_cons_zero, List.set_cons_succ]
            refine wpAnyH_take (i := 22) (oi := { dst := some 39, op := Op.load 32 (Operand.tmp 3), type := 32, pos := "law.go:268", after := #[{ on := 20, ground := Ground.guard }], guard := some (20, false) }) (v := ?_) rfl (by kernel_rfl) (by kernel_rfl) (by kernel_rfl) (fun _ _ _ h => h) (Or.inl ⟨by rfl, ?_⟩) (by assumption) ?_
            rotate_left
            · intro w' hSw
              (try dsimp only at hSw)
              go_simp <;> with_reducible rfl
            try simp only [Act.put, List.setIfInBounds_toArray, List.set_cons_zero, List.set_cons_succ]
            refine wpAnyH_take (i := 23) (oi := { dst := some 40, op := Op.load 32 (Operand.tmp 3), type := 32, pos := "law.go:268", after := #[{ on := 20, ground := Ground.guard }], guard := some (20, false) }) (v := ?_) rfl (by kernel_rfl) (by kernel_rfl) (by kernel_rfl) (fun _ _ _ h => h) (Or.inl ⟨by rfl, ?_⟩) (by assumption) ?_
            rotate_left
            · intro w' hSw
              (try dsimp only at hSw)
              go_simp <;> with_reducible rfl
            try simp only [Act.put, List.setIfInBounds_toArray, List.set_cons_zero, List.set_cons_succ]
            refine wpAnyH_ready (rs := [24]) (by kernel_rfl) (by simp) ?_
            refine AllReadyH.cons (o := { dst := some 41, op := Op.call { callee := Callee.value (Operand.func 9), args := #[Operand.tmp 39, Operand.tmp 40], argTypes := #[32, 32] }, type := 32, pos := "law.go:268", after := #[{ on := 22, ground := Ground.data }, { on := 23, ground := Ground.data }, { on := 20, ground := Ground.chain }, { on := 20, ground := Ground.guard }], guard := some (20, false) }) rfl (fun K hK => ?_) AllReadyH.nil
            go_simp
            refine (CDA.out _ _ _ (ku.ext hb4) (ku.ext hb4)).mono ?_
            rintro e x19_5 ⟨vd2, rfl, kd2, g5⟩
            have hb5 : Ext W2 x19_5 := hb4.trans g5
            try dsimp only
            refine hK.out _ _ (HS.out _ hb5) ?_
            clear hHeld
            intro hHeld
            clear hK K
            try simp only [Act.put, List.setIfInBounds_toArray, List.set_cons_zero, List.set_cons_succ]
            refine wpAnyH_ready (rs := [25]) (by kernel_rfl) (by simp) ?_
            refine AllReadyH.cons (o := { dst := some 42, op := Op.call { callee := Callee.value (Operand.func 8), args := #[Operand.tmp 38, Operand.tmp 41], argTypes := #[32, 32] }, type := 3, pos := "law.go:268", after := #[{ on := 21, ground := Ground.data }, { on := 24, ground := Ground.data }, { on := 24, ground := Ground.chain }, { on := 20, ground := Ground.guard }], guard := some (20, false) }) rfl (fun K hK => ?_) AllReadyH.nil
            go_simp
            refine (CC2.out _ _ _ (kv.ext hb5) kd2).mono ?_
            rintro e x19_6 ⟨rfl, g6⟩
            have hb6 : Ext W2 x19_6 := hb5.trans g6
            try dsimp only
            refine hK.out _ _ (HS.out _ hb6) ?_
            clear hHeld
            intro hHeld
            clear hK K
            try simp only [Act.put, List.setIfInBounds_toArray, List.set_cons_zero, List.set_cons_succ]
            refine wpAnyH_take (i := 26) (oi := { dst := some 43, op := Op.binOp BinOp.gtr 3 (Operand.tmp 42) (Operand.const (Value.int IntKind.i64 0)) 3, type := 4, pos := "law.go:268", after := #[{ on := 25, ground := Ground.data }, { on := 20, ground := Ground.guard }], guard := some (20, false) }) (v := ?_) rfl (by kernel_rfl) (by kernel_rfl) (by kernel_rfl) (fun _ _ _ h => h) (Or.inl ⟨by rfl, ?_⟩) (by assumption) ?_
            rotate_left
            · intro w' hSw
              (try dsimp only at hSw)
              go_simp <;> with_reducible rfl
            try simp only [Act.put, List.setIfInBounds_toArray, List.set_cons_zero, List.set_cons_succ]
            refine wpAnyH_take (i := 27) (oi := { dst := some 44, op := Op.pick (Operand.tmp 37) (Operand.const (Value.bool true)) (Operand.tmp 43), type := 4, pos := "law.go:268", after := #[{ on := 20, ground := Ground.data }, { on := 26, ground := Ground.data }], guard := none }) (v := ?_) rfl (by kernel_rfl) (by kernel_rfl) (by kernel_rfl) (fun _ _ _ h => h) (Or.inl ⟨by rfl, ?_⟩) (by assumption) ?_
            rotate_left
            · intro w' hSw
              (try dsimp only at hSw)
              go_simp <;> with_reducible rfl
            try simp only [Act.put, List.setIfInBounds_toArray, List.set_cons_zero, List.set_cons_succ]
            refine wpAnyH_done (by kernel_rfl) ?_ _
            clear HS hHeld
            have hz_x19_6 := hb6.size
            replace HE := hid (HE.out.trans hb6)
            replace HB_O := hid (HB_O.out.ext hb6)
            replace HB_X := hid (HB_X.out.ext hb6)
            replace HB_Y := hid (HB_Y.out.ext hb6)
            replace ku := ku.ext hb6
            replace kv := kv.ext hb6
            obtain ⟨c_20, c_21, c_22, c_23, c_24, c_25, c_26, c_27, c_28⟩ := HB_O.out.c9
            obtain ⟨c_29, c_30, c_31⟩ := HB_X.out.c3
            obtain ⟨c_32, c_33, c_34⟩ := HB_Y.out.c3
            go_wp2_with fail
            clear c_20 c_21 c_22 c_23 c_24 c_25 c_26 c_27 c_28 c_29 c_30 c_31 c_32 c_33 c_34
            refine (CW.out _ (HP.out.ext HE.out) (HT.out.ext HE.out)).mono ?_
            rintro e w3 ⟨rfl, g3⟩
            have hz_w3 := g3.size
            replace HE := hid (HE.out.trans g3)
            replace HB_O := hid (HB_O.out.ext g3)
            replace HB_X := hid (HB_X.out.ext g3)
            replace HB_Y := hid (HB_Y.out.ext g3)
            replace ku := ku.ext g3
            replace kv := kv.ext g3
            obtain ⟨c_35, c_36, c_37, c_38, c_39, c_40, c_41, c_42, c_43⟩ := HB_O.out.c9
            obtain ⟨c_44, c_45, c_46⟩ := HB_X.out.c3
            obtain ⟨c_47, c_48, c_49⟩ := HB_Y.out.c3
            go_wp2_with fail
            clear c_35 c_36 c_37 c_38 c_39 c_40 c_41 c_42 c_43 c_44 c_45 c_46 c_47 c_48 c_49
            unfold TruePost
            refine bodyPost_ret (v := .bool true) (by simp [results, Tryz.results3, go_sem]) rfl ⟨rfl, HE.out⟩
          · have d3 : decide (0 < cB) = false := decide_eq_false hd
            have gA := Ext.trans (Ext.alloc w1 (.cells #[.bool ngu, .slice au nu cu, .slice au' nu' cu'] 32)) (Ext.alloc _ (.cells #[.bool ngv, .slice av nv cv, .slice av' nv' cv'] 32))
            obtain ⟨c_10, c_11, c_12, c_13, c_14, c_15, c_16, c_17, c_18⟩ := (HB_O.out.ext gA).c9
            go_wp2_with fail
            clear gA c_10 c_11 c_12 c_13 c_14 c_15 c_16 c_17 c_18
            obtain ⟨W2, hW2, g2, hy2, B_X, B_Y⟩ := pro2s w1 #[.bool ngu, .slice au nu cu, .slice au' nu' cu'] #[.bool ngv, .slice av nv cv, .slice av' nv' cv'] 32 32
            rw [← hW2]
            clear hW2
            have hz_W2 := g2.size
            replace HE := hid (HE.out.trans g2)
            replace HB_O := hid (HB_O.out.ext g2)
            replace ku := ku.ext g2
            replace kv := kv.ext g2
            have HB_X := hid B_X
            have HB_Y := hid B_Y
            clear B_X B_Y
            have HS : Hid (∀ w', Ext W2 w' → w'.cell? ⟨w1.heap.size, 0, none⟩ = some (.bool ngu) ∧ w'.cell? ⟨w1.heap.size, 1, none⟩ = some (.slice au nu cu) ∧ w'.cell? ⟨w1.heap.size, 2, none⟩ = some (.slice au' nu' cu') ∧ w'.cell? ⟨w1.heap.size + 1, 0, none⟩ = some (.bool ngv) ∧ w'.cell? ⟨w1.heap.size + 1, 1, none⟩ = some (.slice av nv cv) ∧ w'.cell? ⟨w1.heap.size + 1, 2, none⟩ = some (.slice av' nv' cv')) := hid fun w' h => ⟨(HB_X.out.ext h).cell 0, (HB_X.out.ext h).cell 1, (HB_X.out.ext h).cell 2, (HB_Y.out.ext h).cell 0, (HB_Y.out.ext h).cell 1, (HB_Y.out.ext h).cell 2⟩
            have hb0 : Ext W2 W2.drew := Below.drew (Below.refl _ W2)
            refine wp_region_held_drew (S := fun w' => w'.cell? ⟨w1.heap.size, 0, none⟩ = some (.bool ngu) ∧ w'.cell? ⟨w1.heap.size, 1, none⟩ = some (.slice au nu cu) ∧ w'.cell? ⟨w1.heap.size, 2, none⟩ = some (.slice au' nu' cu') ∧ w'.cell? ⟨w1.heap.size + 1, 0, none⟩ = some (.bool ngv) ∧ w'.cell? ⟨w1.heap.size + 1, 1, none⟩ = some (.slice av nv cv) ∧ w'.cell? ⟨w1.heap.size + 1, 2, none⟩ = some (.slice av' nv' cv')) (by kernel_rfl) (HS.out _ hb0) (fun hHeld => ?_)
            refine wpAnyH_take (i := 0) (oi := { dst := some 17, op := Op.move (Operand.tmp 5), type := 4, pos := "law.go:268", after := #[], guard := none }) (v := ?_) rfl (by kernel_rfl) (by kernel_rfl) (by kernel_rfl) (fun _ _ _ h => h) (Or.inl ⟨by rfl, ?_⟩) (by assumption) ?_
            rotate_left
            · intro w' hSw
              (try dsimp only at hSw)
              go_simp <;> with_reducible rfl
            try simp only [Act.put, List.setIfInBounds_toArray, List.set_cons_zero, List.set_cons_succ]
            refine wpAnyH_take (i := 1) (oi := { dst := some 18, op := Op.unOp UnOp.not 4 (Operand.tmp 17), type := 4, pos := "law.go:268", after := #[{ on := 0, ground := Ground.data }], guard := none }) (v := ?_) rfl (by kernel_rfl) (by kernel_rfl) (by kernel_rfl) (fun _ _ _ h => h) (Or.inl ⟨by rfl, ?_⟩) (by assumption) ?_
            rotate_left
            · intro w' hSw
              (try dsimp only at hSw)
              go_simp <;> with_reducible rfl
            try simp only [Act.put, List.setIfInBounds_toArray, List.set_cons_zero, List.set_cons_succ]
            refine wpAnyH_take (i := 2) (oi := { dst := some 19, op := Op.move (Operand.tmp 18), type := 4, pos := "law.go:268", after := #[{ on := 1, ground := Ground.data }], guard := none }) (v := ?_) rfl (by kernel_rfl) (by kernel_rfl) (by kernel_rfl) (fun _ _ _ h => h) (Or.inl ⟨by rfl, ?_⟩) (by assumption) ?_
            rotate_left
            · intro w' hSw
              (try dsimp only at hSw)
              go_simp <;> with_reducible rfl
            try simp only [Act.put, List.setIfInBounds_toArray, List.set_cons_zero, List.set_cons_succ]
            refine wpAnyH_take (i := 3) (oi := { dst := some 20, op := Op.load 32 (Operand.tmp 3), type := 32, pos := "law.go:268", after := #[{ on := 2, ground := Ground.guard }], guard := some (2, false) }) (v := ?_) rfl (by kernel_rfl) (by kernel_rfl) (by kernel_rfl) (fun _ _ _ h => h) (Or.inl ⟨by rfl, ?_⟩) (by assumption) ?_
            rotate_left
            · intro w' hSw
              (try dsimp only at hSw)
              go_simp <;> with_reducible rfl
            try simp only [Act.put, List.setIfInBounds_toArray, List.set_cons_zero, List.set_cons_succ]
            refine wpAnyH_ready (rs := [4]) (by kernel_rfl) (by simp) ?_
            refine AllReadyH.cons (o := { dst := some 21, op := Op.call { callee := Callee.value (Operand.func 7), args := #[Operand.tmp 20], argTypes := #[32] }, type := 3, pos := "law.go:268", after := #[{ on := 3, ground := Ground.data }, { on := 2, ground := Ground.chain }, { on := 2, ground := Ground.guard }], guard := some (2, false) }) rfl (fun K hK => ?_) AllReadyH.nil
            go_simp
            refine (CSA.out _ _ (ku.ext hb0)).mono ?_
            rintro e x19_1 ⟨rfl, g1⟩
            have hb1 : Ext W2 x19_1 := hb0.trans g1
            try dsimp only
            refine hK.out _ _ (HS.out _ hb1) ?_
            clear hHeld
            intro hHeld
            clear hK K
            try simp only [Act.put, List.setIfInBounds_toArray, List.set_cons_zero, List.set_cons_succ]
            refine wpAnyH_take (i := 5) (oi := { dst := some 22, op := Op.binOp BinOp.lss 3 (Operand.tmp 21) (Operand.const (Value.int IntKind.i64 0)) 3, type := 4, pos := "law.go:268", after := #[{ on := 4, ground := Ground.data }, { on := 2, ground := Ground.guard }], guard := some (2, false) }) (v := ?_) rfl (by kernel_rfl) (by kernel_rfl) (by kernel_rfl) (fun _ _ _ h => h) (Or.inl ⟨by rfl, ?_⟩) (by assumption) ?_
            rotate_left
            · intro w' hSw
              (try dsimp only at hSw)
              go_simp <;> with_reducible rfl
            try simp only [Act.put, List.setIfInBounds_toArray, List.set_cons_zero, List.set_cons_succ]
            refine wpAnyH_take (i := 6) (oi := { dst := some 23, op := Op.pick (Operand.tmp 19) (Operand.const (Value.bool true)) (Operand.tmp 22), type := 4, pos := "law.go:268", after := #[{ on := 2, ground := Ground.data }, { on := 5, ground := Ground.data }], guard := none }) (v := ?_) rfl (by kernel_rfl) (by kernel_rfl) (by kernel_rfl) (fun _ _ _ h => h) (Or.inl ⟨by rfl, ?_⟩) (by assumption) ?_
            rotate_left
            · intro w' hSw
              (try dsimp only at hSw)
              go_simp <;> with_reducible rfl
            try simp only [Act.put, List.setIfInBounds_toArray, List.set_cons_zero, List.set_cons_succ]
            refine wpAnyH_take (i := 7) (oi := { dst := some 24, op := Op.move (Operand.tmp 23), type := 4, pos := "law.go:268", after := #[{ on := 6, ground := Ground.data }, { on := 4, ground := Ground.chain }], guard := none }) (v := ?_) rfl (by kernel_rfl) (by kernel_rfl) (by kernel_rfl) (fun _ _ _ h => h) (Or.inl ⟨by rfl, ?_⟩) (by assumption) ?_
            rotate_left
            · intro w' hSw
              (try dsimp only at hSw)
              go_simp <;> with_reducible rfl
            try simp only [Act.put, List.setIfInBounds_toArray, List.set_cons_zero, List.set_cons_succ]
            refine wpAnyH_take (i := 8) (oi := { dst := some 25, op := Op.load 32 (Operand.tmp 4), type := 32, pos := "law.go:268", after := #[{ on := 7, ground := Ground.guard }], guard := some (7, false) }) (v := ?_) rfl (by kernel_rfl) (by kernel_rfl) (by kernel_rfl) (fun _ _ _ h => h) (Or.inl ⟨by rfl, ?_⟩) (by assumption) ?_
            rotate_left
            · intro w' hSw
              (try dsimp only at hSw)
              go_simp <;> with_reducible rfl
            try simp only [Act.put, List.setIfInBounds_toArray, List.set_cons_zero, List.set_cons_succ]
            refine wpAnyH_ready (rs := [9]) (by kernel_rfl) (by simp) ?_
            refine AllReadyH.cons (o := { dst := some 26, op := Op.call { callee := Callee.value (Operand.func 7), args := #[Operand.tmp 25], argTypes := #[32] }, type := 3, pos := "law.go:268", after := #[{ on := 8, ground := Ground.data }, { on := 7, ground := Ground.chain }, { on := 7, ground := Ground.guard }], guard := some (7, false) }) rfl (fun K hK => ?_) AllReadyH.nil
            go_simp
            refine (CSB.out _ _ (kv.ext hb1)).mono ?_
            rintro e x19_2 ⟨rfl, g2⟩
            have hb2 : Ext W2 x19_2 := hb1.trans g2
            try dsimp only
            refine hK.out _ _ (HS.out _ hb2) ?_
            clear hHeld
            intro hHeld
            clear hK K
            try simp only [Act.put, List.setIfInBounds_toArray, List.set_cons_zero, List.set_cons_succ]
            refine wpAnyH_take (i := 10) (oi := { dst := some 27, op := Op.binOp BinOp.lss 3 (Operand.tmp 26) (Operand.const (Value.int IntKind.i64 0)) 3, type := 4, pos := "law.go:268", after := #[{ on := 9, ground := Ground.data }, { on := 7, ground := Ground.guard }], guard := some (7, false) }) (v := ?_) rfl (by kernel_rfl) (by kernel_rfl) (by kernel_rfl) (fun _ _ _ h => h) (Or.inl ⟨by rfl, ?_⟩) (by assumption) ?_
            rotate_left
            · intro w' hSw
              (try dsimp only at hSw)
              go_simp <;> with_reducible rfl
            try simp only [Act.put, List.setIfInBounds_toArray, List.set_cons_zero, List.set_cons_succ]
            refine wpAnyH_take (i := 11) (oi := { dst := some 28, op := Op.pick (Operand.tmp 24) (Operand.const (Value.bool true)) (Operand.tmp 27), type := 4, pos := "law.go:268", after := #[{ on := 7, ground := Ground.data }, { on := 10, ground := Ground.data }], guard := none }) (v := ?_) rfl (by kernel_rfl) (by kernel_rfl) (by kernel_rfl) (fun _ _ _ h => h) (Or.inl ⟨by rfl, ?_⟩) (by assumption) ?_
            rotate_left
            · intro w' hSw
              (try dsimp only at hSw)
              go_simp <;> with_reducible rfl
            try simp only [Act.put, List.setIfInBounds_toArray, List.set_cons_zero, List.set_cons_succ]
            refine wpAnyH_take (i := 12) (oi := { dst := some 29, op := Op.move (Operand.tmp 28), type := 4, pos := "law.go:268", after := #[{ on := 11, ground := Ground.data }, { on := 9, ground := Ground.chain }], guard := none }) (v := ?_) rfl (by kernel_rfl) (by kernel_rfl) (by kernel_rfl) (fun _ _ _ h => h) (Or.inl ⟨by rfl, ?_⟩) (by assumption) ?_
            rotate_left
            · intro w' hSw
              (try dsimp only at hSw)
              go_simp <;> with_reducible rfl
            try simp only [Act.put, List.setIfInBounds_toArray, List.set_cons_zero, List.set_cons_succ]
            refine wpAnyH_take (i := 13) (oi := { dst := some 30, op := Op.load 32 (Operand.tmp 3), type := 32, pos := "law.go:268", after := #[{ on := 12, ground := Ground.guard }], guard := some (12, false) }) (v := ?_) rfl (by kernel_rfl) (by kernel_rfl) (by kernel_rfl) (fun _ _ _ h => h) (Or.inl ⟨by rfl, ?_⟩) (by assumption) ?_
            rotate_left
            · intro w' hSw
              (try dsimp only at hSw)
              go_simp <;> with_reducible rfl
            try simp only [Act.put, List.setIfInBounds_toArray, List.set_cons_zero, List.set_cons_succ]
            refine wpAnyH_take (i := 14) (oi := { dst := some 31, op := Op.load 32 (Operand.tmp 4), type := 32, pos := "law.go:268", after := #[{ on := 12, ground := Ground.guard }], guard := some (12, false) }) (v := ?_) rfl (by kernel_rfl) (by kernel_rfl) (by kernel_rfl) (fun _ _ _ h => h) (Or.inl ⟨by rfl, ?_⟩) (by assumption) ?_
            rotate_left
            · intro w' hSw
              (try dsimp only at hSw)
              go_simp <;> with_reducible rfl
            try simp only [Act.put, List.setIfInBounds_toArray, List.set_cons_zero, List.set_cons_succ]
            refine wpAnyH_take (i := 15) (oi := { dst := some 32, op := Op.load 32 (Operand.tmp 4), type := 32, pos := "law.go:268", after := #[{ on := 12, ground := Ground.guard }], guard := some (12, false) }) (v := ?_) rfl (by kernel_rfl) (by kernel_rfl) (by kernel_rfl) (fun _ _ _ h => h) (Or.inl ⟨by rfl, ?_⟩) (by assumption) ?_
            rotate_left
            · intro w' hSw
              (try dsimp only at hSw)
              go_simp <;> with_reducible rfl
            try simp only [Act.put, List.setIfInBounds_toArray, List.set_cons_zero, List.set_cons_succ]
            refine wpAnyH_ready (rs := [16]) (by kernel_rfl) (by simp) ?_
            refine AllReadyH.cons (o := { dst := some 33, op := Op.call { callee := Callee.value (Operand.func 9), args := #[Operand.tmp 31, Operand.tmp 32], argTypes := #[32, 32] }, type := 32, pos := "law.go:268", after := #[{ on := 14, ground := Ground.data }, { on := 15, ground := Ground.data }, { on := 12, ground := Ground.chain }, { on := 12, ground := Ground.guard }], guard := some (12, false) }) rfl (fun K hK => ?_) AllReadyH.nil
            go_simp
            refine (CDB.out _ _ _ (kv.ext hb2) (kv.ext hb2)).mono ?_
            rintro e x19_3 ⟨vd1, rfl, kd1, g3⟩
            have hb3 : Ext W2 x19_3 := hb2.trans g3
            try dsimp only
            refine hK.out _ _ (HS.out _ hb3) ?_
            clear hHeld
            intro hHeld
            clear hK K
            try simp only [Act.put, List.setIfInBounds_toArray, List.set_cons_zero, List.set_cons_succ]
            refine wpAnyH_ready (rs := [17]) (by kernel_rfl) (by simp) ?_
            refine AllReadyH.cons (o := { dst := some 34, op := Op.call { callee := Callee.value (Operand.func 8), args := #[Operand.tmp 30, Operand.tmp 33], argTypes := #[32, 32] }, type := 3, pos := "law.go:268", after := #[{ on := 13, ground := Ground.data }, { on := 16, ground := Ground.data }, { on := 16, ground := Ground.chain }, { on := 12, ground := Ground.guard }], guard := some (12, false) }) rfl (fun K hK => ?_) AllReadyH.nil
            go_simp
            refine (CC1.out _ _ _ (ku.ext hb3) kd1).mono ?_
            rintro e x19_4 ⟨rfl, g4⟩
            have hb4 : Ext W2 x19_4 := hb3.trans g4
            try dsimp only
            refine hK.out _ _ (HS.out _ hb4) ?_
            clear hHeld
            intro hHeld
            clear hK K
            try simp only [Act.put, List.setIfInBounds_toArray, List.set_cons_zero, List.set_cons_succ]
            refine wpAnyH_take (i := 18) (oi := { dst := some 35, op := Op.binOp BinOp.gtr 3 (Operand.tmp 34) (Operand.const (Value.int IntKind.i64 0)) 3, type := 4, pos := "law.go:268", after := #[{ on := 17, ground := Ground.data }, { on := 12, ground := Ground.guard }], guard := some (12, false) }) (v := ?_) rfl (by kernel_rfl) (by kernel_rfl) (by kernel_rfl) (fun _ _ _ h => h) (Or.inl ⟨by rfl, ?_⟩) (by assumption) ?_
            rotate_left
            · intro w' hSw
              (try dsimp only at hSw)
              go_simp <;> with_reducible rfl
            try simp only [Act.put, List.setIfInBounds_toArray, List.set_cons_zero, List.set_cons_succ]
            refine wpAnyH_take (i := 19) (oi := { dst := some 36, op := Op.pick (Operand.tmp 29) (Operand.const (Value.bool true)) (Operand.tmp 35), type := 4, pos := "law.go:268", after := #[{ on := 12, ground := Ground.data }, { on := 18, ground := Ground.data }], guard := none }) (v := ?_) rfl (by kernel_rfl) (by kernel_rfl) (by kernel_rfl) (fun _ _ _ h => h) (Or.inl ⟨by rfl, ?_⟩) (by assumption) ?_
            rotate_left
            · intro w' hSw
              (try dsimp only at hSw)
              go_simp <;> with_reducible rfl
            try simp only [Act.put, List.setIfInBounds_toArray, List.set_cons_zero, List.set_cons_succ]
            refine wpAnyH_take (i := 20) (oi := { dst := some 37, op := Op.move (Operand.tmp 36), type := 4, pos := "law.go:268", after := #[{ on := 19, ground := Ground.data }, { on := 17, ground := Ground.chain }], guard := none }) (v := ?_) rfl (by kernel_rfl) (by kernel_rfl) (by kernel_rfl) (fun _ _ _ h => h) (Or.inl ⟨by rfl, ?_⟩) (by assumption) ?_
            rotate_left
            · intro w' hSw
              (try dsimp only at hSw)
              go_simp <;> with_reducible rfl
            try simp only [Act.put, List.setIfInBounds_toArray, List.set_cons_zero, List.set_cons_succ]
            refine wpAnyH_take (i := 21) (oi := { dst := some 38, op := Op.load 32 (Operand.tmp 4), type := 32, pos := "law.go:268", after := #[{ on := 20, ground := Ground.guard }], guard := some (20, false) }) (v := ?_) rfl (by kernel_rfl) (by kernel_rfl) (by kernel_rfl) (fun _ _ _ h => h) (Or.inl ⟨by rfl, ?_⟩) (by assumption) ?_
            rotate_left
            · intro w' hSw
              (try dsimp only at hSw)
              go_simp <;> with_reducible rfl
            try simp only [Act.put, List.setIfInBounds_toArray, List.set_cons_zero, List.set_cons_succ]
            refine wpAnyH_take (i := 22) (oi := { dst := some 39, op := Op.load 32 (Operand.tmp 3), type := 32, pos := "law.go:268", after := #[{ on := 20, ground := Ground.guard }], guard := some (20, false) }) (v := ?_) rfl (by kernel_rfl) (by kernel_rfl) (by kernel_rfl) (fun _ _ _ h => h) (Or.inl ⟨by rfl, ?_⟩) (by assumption) ?_
            rotate_left
            · intro w' hSw
              (try dsimp only at hSw)
              go_simp <;> with_reducible rfl
            try simp only [Act.put, List.setIfInBounds_toArray, List.set_cons_zero, List.set_cons_succ]
            refine wpAnyH_take (i := 23) (oi := { dst := some 40, op := Op.load 32 (Operand.tmp 3), type := 32, pos := "law.go:268", after := #[{ on := 20, ground := Ground.guard }], guard := some (20, false) }) (v := ?_) rfl (by kernel_rfl) (by kernel_rfl) (by kernel_rfl) (fun _ _ _ h => h) (Or.inl ⟨by rfl, ?_⟩) (by assumption) ?_
            rotate_left
            · intro w' hSw
              (try dsimp only at hSw)
              go_simp <;> with_reducible rfl
            try simp only [Act.put, List.setIfInBounds_toArray, List.set_cons_zero, List.set_cons_succ]
            refine wpAnyH_ready (rs := [24]) (by kernel_rfl) (by simp) ?_
            refine AllReadyH.cons (o := { dst := some 41, op := Op.call { callee := Callee.value (Operand.func 9), args := #[Operand.tmp 39, Operand.tmp 40], argTypes := #[32, 32] }, type := 32, pos := "law.go:268", after := #[{ on := 22, ground := Ground.data }, { on := 23, ground := Ground.data }, { on := 20, ground := Ground.chain }, { on := 20, ground := Ground.guard }], guard := some (20, false) }) rfl (fun K hK => ?_) AllReadyH.nil
            go_simp
            refine (CDA.out _ _ _ (ku.ext hb4) (ku.ext hb4)).mono ?_
            rintro e x19_5 ⟨vd2, rfl, kd2, g5⟩
            have hb5 : Ext W2 x19_5 := hb4.trans g5
            try dsimp only
            refine hK.out _ _ (HS.out _ hb5) ?_
            clear hHeld
            intro hHeld
            clear hK K
            try simp only [Act.put, List.setIfInBounds_toArray, List.set_cons_zero, List.set_cons_succ]
            refine wpAnyH_ready (rs := [25]) (by kernel_rfl) (by simp) ?_
            refine AllReadyH.cons (o := { dst := some 42, op := Op.call { callee := Callee.value (Operand.func 8), args := #[Operand.tmp 38, Operand.tmp 41], argTypes := #[32, 32] }, type := 3, pos := "law.go:268", after := #[{ on := 21, ground := Ground.data }, { on := 24, ground := Ground.data }, { on := 24, ground := Ground.chain }, { on := 20, ground := Ground.guard }], guard := some (20, false) }) rfl (fun K hK => ?_) AllReadyH.nil
            go_simp
            refine (CC2.out _ _ _ (kv.ext hb5) kd2).mono ?_
            rintro e x19_6 ⟨rfl, g6⟩
            have hb6 : Ext W2 x19_6 := hb5.trans g6
            try dsimp only
            refine hK.out _ _ (HS.out _ hb6) ?_
            clear hHeld
            intro hHeld
            clear hK K
            try simp only [Act.put, List.setIfInBounds_toArray, List.set_cons_zero, List.set_cons_succ]
            refine wpAnyH_take (i := 26) (oi := { dst := some 43, op := Op.binOp BinOp.gtr 3 (Operand.tmp 42) (Operand.const (Value.int IntKind.i64 0)) 3, type := 4, pos := "law.go:268", after := #[{ on := 25, ground := Ground.data }, { on := 20, ground := Ground.guard }], guard := some (20, false) }) (v := ?_) rfl (by kernel_rfl) (by kernel_rfl) (by kernel_rfl) (fun _ _ _ h => h) (Or.inl ⟨by rfl, ?_⟩) (by assumption) ?_
            rotate_left
            · intro w' hSw
              (try dsimp only at hSw)
              go_simp <;> with_reducible rfl
            try simp only [Act.put, List.setIfInBounds_toArray, List.set_cons_zero, List.set_cons_succ]
            refine wpAnyH_take (i := 27) (oi := { dst := some 44, op := Op.pick (Operand.tmp 37) (Operand.const (Value.bool true)) (Operand.tmp 43), type := 4, pos := "law.go:268", after := #[{ on := 20, ground := Ground.data }, { on := 26, ground := Ground.data }], guard := none }) (v := ?_) rfl (by kernel_rfl) (by kernel_rfl) (by kernel_rfl) (fun _ _ _ h => h) (Or.inl ⟨by rfl, ?_⟩) (by assumption) ?_
            rotate_left
            · intro w' hSw
              (try dsimp only at hSw)
              go_simp <;> with_reducible rfl
            try simp only [Act.put, List.setIfInBounds_toArray, List.set_cons_zero, List.set_cons_succ]
            refine wpAnyH_done (by kernel_rfl) ?_ _
            clear HS hHeld
            have hz_x19_6 := hb6.size
            replace HE := hid (HE.out.trans hb6)
            replace HB_O := hid (HB_O.out.ext hb6)
            replace HB_X := hid (HB_X.out.ext hb6)
            replace HB_Y := hid (HB_Y.out.ext hb6)
            replace ku := ku.ext hb6
            replace kv := kv.ext hb6
            obtain ⟨c_20, c_21, c_22, c_23, c_24, c_25, c_26, c_27, c_28⟩ := HB_O.out.c9
            obtain ⟨c_29, c_30, c_31⟩ := HB_X.out.c3
            obtain ⟨c_32, c_33, c_34⟩ := HB_Y.out.c3
            go_wp2_with fail
            clear c_20 c_21 c_22 c_23 c_24 c_25 c_26 c_27 c_28 c_29 c_30 c_31 c_32 c_33 c_34
            by_cases hm : 0 ≤ M ∧ M ≤ 4
            · obtain ⟨r0, r1, CS, CV⟩ := HG.out HZ.out (Rat.not_lt.1 (fun k => by have h9 := sign_neg.2 k; rw [← HSA.out] at h9; omega)) (Rat.not_lt.1 (fun k => by have h9 := sign_neg.2 k; rw [← HSB.out] at h9; omega)) (cmpQ_not (by rw [← HCA.out]; omega)) (cmpQ_not (by rw [← HCB.out]; omega)) hm.1 hm.2
              have CS := hid CS
              have CV := hid CV
              obtain ⟨m0, m4⟩ := hm
              refine (CS.out _ (HT.out.ext HE.out)).mono ?_
              rintro e w3 ⟨rfl, g3⟩
              have hz_w3 := g3.size
              replace HE := hid (HE.out.trans g3)
              replace HB_O := hid (HB_O.out.ext g3)
              replace HB_X := hid (HB_X.out.ext g3)
              replace HB_Y := hid (HB_Y.out.ext g3)
              replace ku := ku.ext g3
              replace kv := kv.ext g3
              have gA := Ext.alloc w3 (.cells #[.int .u64 r0, .int .u64 r1] 26)
              obtain ⟨c_35, c_36, c_37, c_38, c_39, c_40, c_41, c_42, c_43⟩ := (HB_O.out.ext gA).c9
              obtain ⟨c_44, c_45, c_46⟩ := (HB_X.out.ext gA).c3
              obtain ⟨c_47, c_48, c_49⟩ := (HB_Y.out.ext gA).c3
              go_wp2_with fail
              clear gA c_35 c_36 c_37 c_38 c_39 c_40 c_41 c_42 c_43 c_44 c_45 c_46 c_47 c_48 c_49
              obtain ⟨W4, hW4, g4, hy4, B_W⟩ := pro1 w3 #[.int .u64 r0, .int .u64 r1] 26
              rw [← hW4]
              clear hW4
              have hz_W4 := g4.size
              replace HE := hid (HE.out.trans g4)
              replace HB_O := hid (HB_O.out.ext g4)
              replace HB_X := hid (HB_X.out.ext g4)
              replace HB_Y := hid (HB_Y.out.ext g4)
              replace ku := ku.ext g4
              replace kv := kv.ext g4
              have HB_W := hid B_W
              clear B_W
              refine (CV.out _).mono ?_
              rintro e w5 ⟨vn, rfl, kn, g5⟩
              have hz_w5 := g5.size
              replace HE := hid (HE.out.trans g5)
              replace HB_O := hid (HB_O.out.ext g5)
              replace HB_X := hid (HB_X.out.ext g5)
              replace HB_Y := hid (HB_Y.out.ext g5)
              replace HB_W := hid (HB_W.out.ext g5)
              replace ku := ku.ext g5
              replace kv := kv.ext g5
              obtain ⟨ngn, an, nn, cn, an', nn', cn', rfl⟩ := kn.shape
              have gA := Ext.alloc w5 (.cells #[.bool ngn, .slice an nn cn, .slice an' nn' cn'] 32)
              obtain ⟨c_50, c_51, c_52, c_53, c_54, c_55, c_56, c_57, c_58⟩ := (HB_O.out.ext gA).c9
              obtain ⟨c_59, c_60, c_61⟩ := (HB_X.out.ext gA).c3
              obtain ⟨c_62, c_63, c_64⟩ := (HB_Y.out.ext gA).c3
              obtain ⟨c_65, c_66⟩ := (HB_W.out.ext gA).c2
              go_wp2_with fail
              clear gA c_50 c_51 c_52 c_53 c_54 c_55 c_56 c_57 c_58 c_59 c_60 c_61 c_62 c_63 c_64 c_65 c_66
              obtain ⟨W6, hW6, g6, hy6, B_N⟩ := pro1 w5 #[.bool ngn, .slice an nn cn, .slice an' nn' cn'] 32
              rw [← hW6]
              clear hW6
              have hz_W6 := g6.size
              replace HE := hid (HE.out.trans g6)
              replace HB_O := hid (HB_O.out.ext g6)
              replace HB_X := hid (HB_X.out.ext g6)
              replace HB_Y := hid (HB_Y.out.ext g6)
              replace HB_W := hid (HB_W.out.ext g6)
              replace ku := ku.ext g6
              replace kv := kv.ext g6
              replace kn := kn.ext g6
              have HB_N := hid B_N
              clear B_N
              have HS : Hid (∀ w', Ext W6 w' → w'.cell? ⟨w1.heap.size, 0, none⟩ = some (.bool ngu) ∧ w'.cell? ⟨w1.heap.size, 1, none⟩ = some (.slice au nu cu) ∧ w'.cell? ⟨w1.heap.size, 2, none⟩ = some (.slice au' nu' cu') ∧ w'.cell? ⟨w1.heap.size + 1, 0, none⟩ = some (.bool ngv) ∧ w'.cell? ⟨w1.heap.size + 1, 1, none⟩ = some (.slice av nv cv) ∧ w'.cell? ⟨w1.heap.size + 1, 2, none⟩ = some (.slice av' nv' cv') ∧ w'.cell? ⟨w5.heap.size, 0, none⟩ = some (.bool ngn) ∧ w'.cell? ⟨w5.heap.size, 1, none⟩ = some (.slice an nn cn) ∧ w'.cell? ⟨w5.heap.size, 2, none⟩ = some (.slice an' nn' cn')) := hid fun w' h => ⟨(HB_X.out.ext h).cell 0, (HB_X.out.ext h).cell 1, (HB_X.out.ext h).cell 2, (HB_Y.out.ext h).cell 0, (HB_Y.out.ext h).cell 1, (HB_Y.out.ext h).cell 2, (HB_N.out.ext h).cell 0, (HB_N.out.ext h).cell 1, (HB_N.out.ext h).cell 2⟩
              have hb0 : Ext W6 W6.drew := Below.drew (Below.refl _ W6)
              refine wp_region_held_drew (S := fun w' => w'.cell? ⟨w1.heap.size, 0, none⟩ = some (.bool ngu) ∧ w'.cell? ⟨w1.heap.size, 1, none⟩ = some (.slice au nu cu) ∧ w'.cell? ⟨w1.heap.size, 2, none⟩ = some (.slice au' nu' cu') ∧ w'.cell? ⟨w1.heap.size + 1, 0, none⟩ = some (.bool ngv) ∧ w'.cell? ⟨w1.heap.size + 1, 1, none⟩ = some (.slice av nv cv) ∧ w'.cell? ⟨w1.heap.size + 1, 2, none⟩ = some (.slice av' nv' cv') ∧ w'.cell? ⟨w5.heap.size, 0, none⟩ = some (.bool ngn) ∧ w'.cell? ⟨w5.heap.size, 1, none⟩ = some (.slice an nn cn) ∧ w'.cell? ⟨w5.heap.size, 2, none⟩ = some (.slice an' nn' cn')) (by kernel_rfl) (HS.out _ hb0) (fun hHeld => ?_)
              refine wpAnyH_take (i := 0) (oi := { dst := some 79, op := Op.move (Operand.tmp 8), type := 39, pos := "law.go:276", after := #[], guard := none }) (v := ?_) rfl (by kernel_rfl) (by kernel_rfl) (by kernel_rfl) (fun _ _ _ h => h) (Or.inl ⟨by rfl, ?_⟩) (by assumption) ?_
              rotate_left
              · intro w' hSw
                (try dsimp only at hSw)
                go_simp <;> with_reducible rfl
              try simp only [Act.put, List.setIfInBounds_toArray, List.set_cons_zero, List.set_cons_succ]
              refine wpAnyH_take (i := 1) (oi := { dst := some 80, op := Op.binOp BinOp.eql 39 (Operand.tmp 79) (Operand.const (Value.int IntKind.i64 0)) 39, type := 4, pos := "law.go:276", after := #[{ on := 0, ground := Ground.data }], guard := none }) (v := ?_) rfl (by kernel_rfl) (by kernel_rfl) (by kernel_rfl) (fun _ _ _ h => h) (Or.inl ⟨by rfl, ?_⟩) (by assumption) ?_
              rotate_left
              · intro w' hSw
                (try dsimp only at hSw)
                go_simp <;> with_reducible rfl
              try simp only [Act.put, List.setIfInBounds_toArray, List.set_cons_zero, List.set_cons_succ]
              refine wpAnyH_take (i := 2) (oi := { dst := some 81, op := Op.move (Operand.tmp 80), type := 4, pos := "law.go:276", after := #[{ on := 1, ground := Ground.data }], guard := none }) (v := ?_) rfl (by kernel_rfl) (by kernel_rfl) (by kernel_rfl) (fun _ _ _ h => h) (Or.inl ⟨by rfl, ?_⟩) (by assumption) ?_
              rotate_left
              · intro w' hSw
                (try dsimp only at hSw)
                go_simp <;> with_reducible rfl
              try simp only [Act.put, List.setIfInBounds_toArray, List.set_cons_zero, List.set_cons_succ]
              refine wpAnyH_take (i := 3) (oi := { dst := some 82, op := Op.move (Operand.tmp 10), type := 39, pos := "law.go:276", after := #[{ on := 2, ground := Ground.guard }], guard := some (2, true) }) (v := ?_) rfl (by kernel_rfl) (by kernel_rfl) (by kernel_rfl) (fun _ _ _ h => h) (Or.inl ⟨by rfl, ?_⟩) (by assumption) ?_
              rotate_left
              · intro w' hSw
                (try dsimp only at hSw)
                go_simp <;> with_reducible rfl
              try simp only [Act.put, List.setIfInBounds_toArray, List.set_cons_zero, List.set_cons_succ]
              refine wpAnyH_take (i := 4) (oi := { dst := some 83, op := Op.binOp BinOp.eql 39 (Operand.tmp 82) (Operand.const (Value.int IntKind.i64 0)) 39, type := 4, pos := "law.go:276", after := #[{ on := 3, ground := Ground.data }, { on := 2, ground := Ground.guard }], guard := some (2, true) }) (v := ?_) rfl (by kernel_rfl) (by kernel_rfl) (by kernel_rfl) (fun _ _ _ h => h) (Or.inl ⟨by rfl, ?_⟩) (by assumption) ?_
              rotate_left
              · intro w' hSw
                (try dsimp only at hSw)
                go_simp <;> with_reducible rfl
              try simp only [Act.put, List.setIfInBounds_toArray, List.set_cons_zero, List.set_cons_succ]
              refine wpAnyH_take (i := 5) (oi := { dst := some 84, op := Op.pick (Operand.tmp 81) (Operand.tmp 83) (Operand.const (Value.bool false)), type := 4, pos := "law.go:276", after := #[{ on := 2, ground := Ground.data }, { on := 4, ground := Ground.data }], guard := none }) (v := ?_) rfl (by kernel_rfl) (by kernel_rfl) (by kernel_rfl) (fun _ _ _ h => h) (Or.inl ⟨by rfl, ?_⟩) (by assumption) ?_
              rotate_left
              · intro w' hSw
                (try dsimp only at hSw)
                go_simp <;> with_reducible rfl
              try simp only [Act.put, List.setIfInBounds_toArray, List.set_cons_zero, List.set_cons_succ]
              refine wpAnyH_take (i := 6) (oi := { dst := some 85, op := Op.move (Operand.tmp 84), type := 4, pos := "law.go:276", after := #[{ on := 5, ground := Ground.data }, { on := 2, ground := Ground.chain }], guard := none }) (v := ?_) rfl (by kernel_rfl) (by kernel_rfl) (by kernel_rfl) (fun _ _ _ h => h) (Or.inl ⟨by rfl, ?_⟩) (by assumption) ?_
              rotate_left
              · intro w' hSw
                (try dsimp only at hSw)
                go_simp <;> with_reducible rfl
              try simp only [Act.put, List.setIfInBounds_toArray, List.set_cons_zero, List.set_cons_succ]
              refine wpAnyH_take (i := 7) (oi := { dst := some 86, op := Op.move (Operand.tmp 7), type := 3, pos := "law.go:276", after := #[{ on := 6, ground := Ground.guard }], guard := some (6, true) }) (v := ?_) rfl (by kernel_rfl) (by kernel_rfl) (by kernel_rfl) (fun _ _ _ h => h) (Or.inl ⟨by rfl, ?_⟩) (by assumption) ?_
              rotate_left
              · intro w' hSw
                (try dsimp only at hSw)
                go_simp <;> with_reducible rfl
              try simp only [Act.put, List.setIfInBounds_toArray, List.set_cons_zero, List.set_cons_succ]
              refine wpAnyH_take (i := 8) (oi := { dst := some 87, op := Op.binOp BinOp.eql 3 (Operand.tmp 86) (Operand.const (Value.int IntKind.i64 0)) 3, type := 4, pos := "law.go:276", after := #[{ on := 7, ground := Ground.data }, { on := 6, ground := Ground.guard }], guard := some (6, true) }) (v := ?_) rfl (by kernel_rfl) (by kernel_rfl) (by kernel_rfl) (fun _ _ _ h => h) (Or.inl ⟨by rfl, ?_⟩) (by assumption) ?_
              rotate_left
              · intro w' hSw
                (try dsimp only at hSw)
                go_simp <;> with_reducible rfl
              try simp only [Act.put, List.setIfInBounds_toArray, List.set_cons_zero, List.set_cons_succ]
              refine wpAnyH_take (i := 9) (oi := { dst := some 88, op := Op.pick (Operand.tmp 85) (Operand.tmp 87) (Operand.const (Value.bool false)), type := 4, pos := "law.go:276", after := #[{ on := 6, ground := Ground.data }, { on := 8, ground := Ground.data }], guard := none }) (v := ?_) rfl (by kernel_rfl) (by kernel_rfl) (by kernel_rfl) (fun _ _ _ h => h) (Or.inl ⟨by rfl, ?_⟩) (by assumption) ?_
              rotate_left
              · intro w' hSw
                (try dsimp only at hSw)
                go_simp <;> with_reducible rfl
              try simp only [Act.put, List.setIfInBounds_toArray, List.set_cons_zero, List.set_cons_succ]
              refine wpAnyH_take (i := 10) (oi := { dst := some 89, op := Op.move (Operand.tmp 88), type := 4, pos := "law.go:276", after := #[{ on := 9, ground := Ground.data }, { on := 6, ground := Ground.chain }], guard := none }) (v := ?_) rfl (by kernel_rfl) (by kernel_rfl) (by kernel_rfl) (fun _ _ _ h => h) (Or.inl ⟨by rfl, ?_⟩) (by assumption) ?_
              rotate_left
              · intro w' hSw
                (try dsimp only at hSw)
                go_simp <;> with_reducible rfl
              try simp only [Act.put, List.setIfInBounds_toArray, List.set_cons_zero, List.set_cons_succ]
              refine wpAnyH_take (i := 11) (oi := { dst := some 90, op := Op.load 32 (Operand.tmp 9), type := 32, pos := "law.go:276", after := #[{ on := 10, ground := Ground.guard }], guard := some (10, true) }) (v := ?_) rfl (by kernel_rfl) (by kernel_rfl) (by kernel_rfl) (fun _ _ _ h => h) (Or.inl ⟨by rfl, ?_⟩) (by assumption) ?_
              rotate_left
              · intro w' hSw
                (try dsimp only at hSw)
                go_simp <;> with_reducible rfl
              try simp only [Act.put, List.setIfInBounds_toArray, List.set_cons_zero, List.set_cons_succ]
              refine wpAnyH_take (i := 12) (oi := { dst := some 91, op := Op.load 32 (Operand.tmp 3), type := 32, pos := "law.go:276", after := #[{ on := 10, ground := Ground.guard }], guard := some (10, true) }) (v := ?_) rfl (by kernel_rfl) (by kernel_rfl) (by kernel_rfl) (fun _ _ _ h => h) (Or.inl ⟨by rfl, ?_⟩) (by assumption) ?_
              rotate_left
              · intro w' hSw
                (try dsimp only at hSw)
                go_simp <;> with_reducible rfl
              try simp only [Act.put, List.setIfInBounds_toArray, List.set_cons_zero, List.set_cons_succ]
              refine wpAnyH_take (i := 13) (oi := { dst := some 92, op := Op.load 32 (Operand.tmp 4), type := 32, pos := "law.go:276", after := #[{ on := 10, ground := Ground.guard }], guard := some (10, true) }) (v := ?_) rfl (by kernel_rfl) (by kernel_rfl) (by kernel_rfl) (fun _ _ _ h => h) (Or.inl ⟨by rfl, ?_⟩) (by assumption) ?_
              rotate_left
              · intro w' hSw
                (try dsimp only at hSw)
                go_simp <;> with_reducible rfl
              try simp only [Act.put, List.setIfInBounds_toArray, List.set_cons_zero, List.set_cons_succ]
              refine wpAnyH_ready (rs := [14]) (by kernel_rfl) (by simp) ?_
              refine AllReadyH.cons (o := { dst := some 93, op := Op.call { callee := Callee.value (Operand.func 13), args := #[Operand.tmp 91, Operand.tmp 92], argTypes := #[32, 32] }, type := 32, pos := "law.go:276", after := #[{ on := 12, ground := Ground.data }, { on := 13, ground := Ground.data }, { on := 10, ground := Ground.chain }, { on := 10, ground := Ground.guard }], guard := some (10, true) }) rfl (fun K hK => ?_) AllReadyH.nil
              go_simp
              refine (CDS.out _ _ _ (ku.ext hb0) (kv.ext hb0)).mono ?_
              rintro e x67_1 ⟨vd3, rfl, kd3, g1⟩
              have hb1 : Ext W6 x67_1 := hb0.trans g1
              try dsimp only
              refine hK.out _ _ (HS.out _ hb1) ?_
              clear hHeld
              intro hHeld
              clear hK K
              try simp only [Act.put, List.setIfInBounds_toArray, List.set_cons_zero, List.set_cons_succ]
              refine wpAnyH_ready (rs := [15]) (by kernel_rfl) (by simp) ?_
              refine AllReadyH.cons (o := { dst := some 94, op := Op.call { callee := Callee.value (Operand.func 8), args := #[Operand.tmp 90, Operand.tmp 93], argTypes := #[32, 32] }, type := 3, pos := "law.go:276", after := #[{ on := 11, ground := Ground.data }, { on := 14, ground := Ground.data }, { on := 14, ground := Ground.chain }, { on := 10, ground := Ground.guard }], guard := some (10, true) }) rfl (fun K hK => ?_) AllReadyH.nil
              go_simp
              refine (CC3.out _ _ _ (kn.ext hb1) kd3).mono ?_
              rintro e x67_2 ⟨rfl, g2⟩
              have hb2 : Ext W6 x67_2 := hb1.trans g2
              rw [cmpQ_self]
              try dsimp only
              refine hK.out _ _ (HS.out _ hb2) ?_
              clear hHeld
              intro hHeld
              clear hK K
              try simp only [Act.put, List.setIfInBounds_toArray, List.set_cons_zero, List.set_cons_succ]
              refine wpAnyH_take (i := 16) (oi := { dst := some 95, op := Op.binOp BinOp.eql 3 (Operand.tmp 94) (Operand.const (Value.int IntKind.i64 0)) 3, type := 4, pos := "law.go:276", after := #[{ on := 15, ground := Ground.data }, { on := 10, ground := Ground.guard }], guard := some (10, true) }) (v := ?_) rfl (by kernel_rfl) (by kernel_rfl) (by kernel_rfl) (fun _ _ _ h => h) (Or.inl ⟨by rfl, ?_⟩) (by assumption) ?_
              rotate_left
              · intro w' hSw
                (try dsimp only at hSw)
                go_simp <;> with_reducible rfl
              try simp only [Act.put, List.setIfInBounds_toArray, List.set_cons_zero, List.set_cons_succ]
              refine wpAnyH_take (i := 17) (oi := { dst := some 96, op := Op.pick (Operand.tmp 89) (Operand.tmp 95) (Operand.const (Value.bool false)), type := 4, pos := "law.go:276", after := #[{ on := 10, ground := Ground.data }, { on := 16, ground := Ground.data }], guard := none }) (v := ?_) rfl (by kernel_rfl) (by kernel_rfl) (by kernel_rfl) (fun _ _ _ h => h) (Or.inl ⟨by rfl, ?_⟩) (by assumption) ?_
              rotate_left
              · intro w' hSw
                (try dsimp only at hSw)
                go_simp <;> with_reducible rfl
              try simp only [Act.put, List.setIfInBounds_toArray, List.set_cons_zero, List.set_cons_succ]
              refine wpAnyH_take (i := 18) (oi := { dst := some 97, op := Op.move (Operand.tmp 96), type := 4, pos := "law.go:276", after := #[{ on := 17, ground := Ground.data }, { on := 15, ground := Ground.chain }], guard := none }) (v := ?_) rfl (by kernel_rfl) (by kernel_rfl) (by kernel_rfl) (fun _ _ _ h => h) (Or.inl ⟨by rfl, ?_⟩) (by assumption) ?_
              rotate_left
              · intro w' hSw
                (try dsimp only at hSw)
                go_simp <;> with_reducible rfl
              try simp only [Act.put, List.setIfInBounds_toArray, List.set_cons_zero, List.set_cons_succ]
              refine wpAnyH_ready (rs := [19]) (by kernel_rfl) (by simp) ?_
              refine AllReadyH.cons (o := { dst := some 98, op := Op.call { callee := Callee.value (Operand.func 10), args := #[], argTypes := #[] }, type := 4, pos := "law.go:276", after := #[{ on := 18, ground := Ground.chain }, { on := 18, ground := Ground.guard }], guard := some (18, true) }) rfl (fun K hK => ?_) AllReadyH.nil
              go_simp
              refine (CW.out _ (HP.out.ext (HE.out.trans hb2)) (HT.out.ext (HE.out.trans hb2))).mono ?_
              rintro e x67_3 ⟨rfl, g3⟩
              have hb3 : Ext W6 x67_3 := hb2.trans g3
              try dsimp only
              refine hK.out _ _ (HS.out _ hb3) ?_
              clear hHeld
              intro hHeld
              clear hK K
              try simp only [Act.put, List.setIfInBounds_toArray, List.set_cons_zero, List.set_cons_succ]
              refine wpAnyH_take (i := 20) (oi := { dst := some 99, op := Op.pick (Operand.tmp 97) (Operand.tmp 98) (Operand.const (Value.bool false)), type := 4, pos := "law.go:276", after := #[{ on := 18, ground := Ground.data }, { on := 19, ground := Ground.data }], guard := none }) (v := ?_) rfl (by kernel_rfl) (by kernel_rfl) (by kernel_rfl) (fun _ _ _ h => h) (Or.inl ⟨by rfl, ?_⟩) (by assumption) ?_
              rotate_left
              · intro w' hSw
                (try dsimp only at hSw)
                go_simp <;> with_reducible rfl
              try simp only [Act.put, List.setIfInBounds_toArray, List.set_cons_zero, List.set_cons_succ]
              refine wpAnyH_take (i := 21) (oi := { dst := some 2, op := Op.assign (Operand.tmp 99), type := 4, pos := "law.go:276", after := #[{ on := 20, ground := Ground.data }, { on := 19, ground := Ground.chain }, { on := 0, ground := Ground.phase }, { on := 1, ground := Ground.phase }, { on := 2, ground := Ground.phase }, { on := 3, ground := Ground.phase }, { on := 4, ground := Ground.phase }, { on := 5, ground := Ground.phase }, { on := 6, ground := Ground.phase }, { on := 7, ground := Ground.phase }, { on := 8, ground := Ground.phase }, { on := 9, ground := Ground.phase }, { on := 10, ground := Ground.phase }, { on := 11, ground := Ground.phase }, { on := 12, ground := Ground.phase }, { on := 13, ground := Ground.phase }, { on := 14, ground := Ground.phase }, { on := 15, ground := Ground.phase }, { on := 16, ground := Ground.phase }, { on := 17, ground := Ground.phase }, { on := 18, ground := Ground.phase }, { on := 19, ground := Ground.phase }, { on := 20, ground := Ground.phase }], guard := none }) (v := ?_) rfl (by kernel_rfl) (by kernel_rfl) (by kernel_rfl) (fun _ _ _ h => h) (Or.inl ⟨by rfl, ?_⟩) (by assumption) ?_
              rotate_left
              · intro w' hSw
                (try dsimp only at hSw)
                go_simp <;> with_reducible rfl
              try simp only [Act.put, List.setIfInBounds_toArray, List.set_cons_zero, List.set_cons_succ]
              refine wpAnyH_done (by kernel_rfl) ?_ _
              clear HS hHeld
              have hz_x67_3 := hb3.size
              replace HE := hid (HE.out.trans hb3)
              replace HB_O := hid (HB_O.out.ext hb3)
              replace HB_X := hid (HB_X.out.ext hb3)
              replace HB_Y := hid (HB_Y.out.ext hb3)
              replace HB_W := hid (HB_W.out.ext hb3)
              replace HB_N := hid (HB_N.out.ext hb3)
              replace ku := ku.ext hb3
              replace kv := kv.ext hb3
              replace kn := kn.ext hb3
              obtain ⟨c_68, c_69, c_70, c_71, c_72, c_73, c_74, c_75, c_76⟩ := HB_O.out.c9
              obtain ⟨c_77, c_78, c_79⟩ := HB_X.out.c3
              obtain ⟨c_80, c_81, c_82⟩ := HB_Y.out.c3
              obtain ⟨c_83, c_84⟩ := HB_W.out.c2
              obtain ⟨c_85, c_86, c_87⟩ := HB_N.out.c3
              go_wp2_with fail
              clear c_68 c_69 c_70 c_71 c_72 c_73 c_74 c_75 c_76 c_77 c_78 c_79 c_80 c_81 c_82 c_83 c_84 c_85 c_86 c_87
              unfold TruePost
              refine bodyPost_ret (v := .bool true) (by simp [results, Tryz.results3, go_sem]) rfl ⟨rfl, HE.out⟩
            · have CS := hid (CBAD.out hm)
              unfold BadPost at CS
              refine (CS.out _).mono ?_
              rintro e w3 ⟨rfl, g3⟩
              have hz_w3 := g3.size
              replace HE := hid (HE.out.trans g3)
              replace HB_O := hid (HB_O.out.ext g3)
              replace HB_X := hid (HB_X.out.ext g3)
              replace HB_Y := hid (HB_Y.out.ext g3)
              replace ku := ku.ext g3
              replace kv := kv.ext g3
              by_cases m0 : M < 0
              · have dm : decide (M < 0) = true := decide_eq_true m0
                have gA := Ext.alloc w3 (.cells #[.int .u64 0, .int .u64 0] 26)
                obtain ⟨c_35, c_36, c_37, c_38, c_39, c_40, c_41, c_42, c_43⟩ := (HB_O.out.ext gA).c9
                obtain ⟨c_44, c_45, c_46⟩ := (HB_X.out.ext gA).c3
                obtain ⟨c_47, c_48, c_49⟩ := (HB_Y.out.ext gA).c3
                go_wp2_with fail
                clear gA c_35 c_36 c_37 c_38 c_39 c_40 c_41 c_42 c_43 c_44 c_45 c_46 c_47 c_48 c_49
                obtain ⟨W4, hW4, g4, hy4, B_W⟩ := pro1 w3 #[.int .u64 0, .int .u64 0] 26
                rw [← hW4]
                clear hW4
                have hz_W4 := g4.size
                replace HE := hid (HE.out.trans g4)
                replace HB_O := hid (HB_O.out.ext g4)
                replace HB_X := hid (HB_X.out.ext g4)
                replace HB_Y := hid (HB_Y.out.ext g4)
                replace ku := ku.ext g4
                replace kv := kv.ext g4
                have HB_W := hid B_W
                clear B_W
                refine (CW.out _ (HP.out.ext HE.out) (HT.out.ext HE.out)).mono ?_
                rintro e w5 ⟨rfl, g5⟩
                have hz_w5 := g5.size
                replace HE := hid (HE.out.trans g5)
                replace HB_O := hid (HB_O.out.ext g5)
                replace HB_X := hid (HB_X.out.ext g5)
                replace HB_Y := hid (HB_Y.out.ext g5)
                replace HB_W := hid (HB_W.out.ext g5)
                replace ku := ku.ext g5
                replace kv := kv.ext g5
                obtain ⟨c_50, c_51, c_52, c_53, c_54, c_55, c_56, c_57, c_58⟩ := HB_O.out.c9
                obtain ⟨c_59, c_60, c_61⟩ := HB_X.out.c3
                obtain ⟨c_62, c_63, c_64⟩ := HB_Y.out.c3
                obtain ⟨c_65, c_66⟩ := HB_W.out.c2
                go_wp2_with fail
                clear c_50 c_51 c_52 c_53 c_54 c_55 c_56 c_57 c_58 c_59 c_60 c_61 c_62 c_63 c_64 c_65 c_66
                unfold TruePost
                refine bodyPost_ret (v := .bool true) (by simp [results, Tryz.results3, go_sem]) rfl ⟨rfl, HE.out⟩
              · have dm : decide (M < 0) = false := decide_eq_false m0
                have dm4 : decide (4 < M) = true := decide_eq_true (by omega)
                have gA := Ext.alloc w3 (.cells #[.int .u64 0, .int .u64 0] 26)
                obtain ⟨c_35, c_36, c_37, c_38, c_39, c_40, c_41, c_42, c_43⟩ := (HB_O.out.ext gA).c9
                obtain ⟨c_44, c_45, c_46⟩ := (HB_X.out.ext gA).c3
                obtain ⟨c_47, c_48, c_49⟩ := (HB_Y.out.ext gA).c3
                go_wp2_with fail
                clear gA c_35 c_36 c_37 c_38 c_39 c_40 c_41 c_42 c_43 c_44 c_45 c_46 c_47 c_48 c_49
                obtain ⟨W4, hW4, g4, hy4, B_W⟩ := pro1 w3 #[.int .u64 0, .int .u64 0] 26
                rw [← hW4]
                clear hW4
                have hz_W4 := g4.size
                replace HE := hid (HE.out.trans g4)
                replace HB_O := hid (HB_O.out.ext g4)
                replace HB_X := hid (HB_X.out.ext g4)
                replace HB_Y := hid (HB_Y.out.ext g4)
                replace ku := ku.ext g4
                replace kv := kv.ext g4
                have HB_W := hid B_W
                clear B_W
                refine (CW.out _ (HP.out.ext HE.out) (HT.out.ext HE.out)).mono ?_
                rintro e w5 ⟨rfl, g5⟩
                have hz_w5 := g5.size
                replace HE := hid (HE.out.trans g5)
                replace HB_O := hid (HB_O.out.ext g5)
                replace HB_X := hid (HB_X.out.ext g5)
                replace HB_Y := hid (HB_Y.out.ext g5)
                replace HB_W := hid (HB_W.out.ext g5)
                replace ku := ku.ext g5
                replace kv := kv.ext g5
                obtain ⟨c_50, c_51, c_52, c_53, c_54, c_55, c_56, c_57, c_58⟩ := HB_O.out.c9
                obtain ⟨c_59, c_60, c_61⟩ := HB_X.out.c3
                obtain ⟨c_62, c_63, c_64⟩ := HB_Y.out.c3
                obtain ⟨c_65, c_66⟩ := HB_W.out.c2
                go_wp2_with fail
                clear c_50 c_51 c_52 c_53 c_54 c_55 c_56 c_57 c_58 c_59 c_60 c_61 c_62 c_63 c_64 c_65 c_66
                unfold TruePost
                refine bodyPost_ret (v := .bool true) (by simp [results, Tryz.results3, go_sem]) rfl ⟨rfl, HE.out⟩
  · have HBL : Hid ((decide (za = 0) && decide (zb = 0)) = false) := hid (by rw [Bool.and_eq_false_iff]; by_cases h : za = 0; exact .inr (decide_eq_false (fun k => hz ⟨h, k⟩)); exact .inl (decide_eq_false h))
    clear hz
    rw [HBL.out]
    have gA := Ext.trans (Ext.alloc w1 (.cells #[.bool ngu, .slice au nu cu, .slice au' nu' cu'] 32)) (Ext.alloc _ (.cells #[.bool ngv, .slice av nv cv, .slice av' nv' cv'] 32))
    obtain ⟨c_10, c_11, c_12, c_13, c_14, c_15, c_16, c_17, c_18⟩ := (HB_O.out.ext gA).c9
    go_wp2_with fail
    clear gA c_10 c_11 c_12 c_13 c_14 c_15 c_16 c_17 c_18
    obtain ⟨W2, hW2, g2, hy2, B_X, B_Y⟩ := pro2s w1 #[.bool ngu, .slice au nu cu, .slice au' nu' cu'] #[.bool ngv, .slice av nv cv, .slice av' nv' cv'] 32 32
    rw [← hW2]
    clear hW2
    have hz_W2 := g2.size
    replace HE := hid (HE.out.trans g2)
    replace HB_O := hid (HB_O.out.ext g2)
    replace ku := ku.ext g2
    replace kv := kv.ext g2
    have HB_X := hid B_X
    have HB_Y := hid B_Y
    clear B_X B_Y
    have HS : Hid (∀ w', Ext W2 w' → w'.cell? ⟨w1.heap.size, 0, none⟩ = some (.bool ngu) ∧ w'.cell? ⟨w1.heap.size, 1, none⟩ = some (.slice au nu cu) ∧ w'.cell? ⟨w1.heap.size, 2, none⟩ = some (.slice au' nu' cu') ∧ w'.cell? ⟨w1.heap.size + 1, 0, none⟩ = some (.bool ngv) ∧ w'.cell? ⟨w1.heap.size + 1, 1, none⟩ = some (.slice av nv cv) ∧ w'.cell? ⟨w1.heap.size + 1, 2, none⟩ = some (.slice av' nv' cv')) := hid fun w' h => ⟨(HB_X.out.ext h).cell 0, (HB_X.out.ext h).cell 1, (HB_X.out.ext h).cell 2, (HB_Y.out.ext h).cell 0, (HB_Y.out.ext h).cell 1, (HB_Y.out.ext h).cell 2⟩
    have hb0 : Ext W2 W2.drew := Below.drew (Below.refl _ W2)
    refine wp_region_held_drew (S := fun w' => w'.cell? ⟨w1.heap.size, 0, none⟩ = some (.bool ngu) ∧ w'.cell? ⟨w1.heap.size, 1, none⟩ = some (.slice au nu cu) ∧ w'.cell? ⟨w1.heap.size, 2, none⟩ = some (.slice au' nu' cu') ∧ w'.cell? ⟨w1.heap.size + 1, 0, none⟩ = some (.bool ngv) ∧ w'.cell? ⟨w1.heap.size + 1, 1, none⟩ = some (.slice av nv cv) ∧ w'.cell? ⟨w1.heap.size + 1, 2, none⟩ = some (.slice av' nv' cv')) (by kernel_rfl) (HS.out _ hb0) (fun hHeld => ?_)
    refine wpAnyH_take (i := 0) (oi := { dst := some 17, op := Op.move (Operand.tmp 5), type := 4, pos := "law.go:268", after := #[], guard := none }) (v := ?_) rfl (by kernel_rfl) (by kernel_rfl) (by kernel_rfl) (fun _ _ _ h => h) (Or.inl ⟨by rfl, ?_⟩) (by assumption) ?_
    rotate_left
    · intro w' hSw
      (try dsimp only at hSw)
      go_simp <;> with_reducible rfl
    try simp only [Act.put, List.setIfInBounds_toArray, List.set_cons_zero, List.set_cons_succ]
    refine wpAnyH_take (i := 1) (oi := { dst := some 18, op := Op.unOp UnOp.not 4 (Operand.tmp 17), type := 4, pos := "law.go:268", after := #[{ on := 0, ground := Ground.data }], guard := none }) (v := ?_) rfl (by kernel_rfl) (by kernel_rfl) (by kernel_rfl) (fun _ _ _ h => h) (Or.inl ⟨by rfl, ?_⟩) (by assumption) ?_
    rotate_left
    · intro w' hSw
      (try dsimp only at hSw)
      go_simp <;> with_reducible rfl
    try simp only [Act.put, List.setIfInBounds_toArray, List.set_cons_zero, List.set_cons_succ]
    refine wpAnyH_take (i := 2) (oi := { dst := some 19, op := Op.move (Operand.tmp 18), type := 4, pos := "law.go:268", after := #[{ on := 1, ground := Ground.data }], guard := none }) (v := ?_) rfl (by kernel_rfl) (by kernel_rfl) (by kernel_rfl) (fun _ _ _ h => h) (Or.inl ⟨by rfl, ?_⟩) (by assumption) ?_
    rotate_left
    · intro w' hSw
      (try dsimp only at hSw)
      go_simp <;> with_reducible rfl
    try simp only [Act.put, List.setIfInBounds_toArray, List.set_cons_zero, List.set_cons_succ]
    refine wpAnyH_take (i := 3) (oi := { dst := some 20, op := Op.load 32 (Operand.tmp 3), type := 32, pos := "law.go:268", after := #[{ on := 2, ground := Ground.guard }], guard := some (2, false) }) (v := undef) rfl (by kernel_rfl) (by kernel_rfl) (by kernel_rfl) (fun _ _ _ h => h) (Or.inr ⟨by rfl, rfl⟩) (by assumption) ?_
    try simp only [Act.put, List.setIfInBounds_toArray, List.set_cons_zero, List.set_cons_succ]
    refine wpAnyH_take (i := 4) (oi := { dst := some 21, op := Op.call { callee := Callee.value (Operand.func 7), args := #[Operand.tmp 20], argTypes := #[32] }, type := 3, pos := "law.go:268", after := #[{ on := 3, ground := Ground.data }, { on := 2, ground := Ground.chain }, { on := 2, ground := Ground.guard }], guard := some (2, false) }) (v := undef) rfl (by kernel_rfl) (by kernel_rfl) (by kernel_rfl) (fun _ _ _ h => h) (Or.inr ⟨by rfl, rfl⟩) (by assumption) ?_
    try simp only [Act.put, List.setIfInBounds_toArray, List.set_cons_zero, List.set_cons_succ]
    refine wpAnyH_take (i := 5) (oi := { dst := some 22, op := Op.binOp BinOp.lss 3 (Operand.tmp 21) (Operand.const (Value.int IntKind.i64 0)) 3, type := 4, pos := "law.go:268", after := #[{ on := 4, ground := Ground.data }, { on := 2, ground := Ground.guard }], guard := some (2, false) }) (v := undef) rfl (by kernel_rfl) (by kernel_rfl) (by kernel_rfl) (fun _ _ _ h => h) (Or.inr ⟨by rfl, rfl⟩) (by assumption) ?_
    try simp only [Act.put, List.setIfInBounds_toArray, List.set_cons_zero, List.set_cons_succ]
    refine wpAnyH_take (i := 6) (oi := { dst := some 23, op := Op.pick (Operand.tmp 19) (Operand.const (Value.bool true)) (Operand.tmp 22), type := 4, pos := "law.go:268", after := #[{ on := 2, ground := Ground.data }, { on := 5, ground := Ground.data }], guard := none }) (v := ?_) rfl (by kernel_rfl) (by kernel_rfl) (by kernel_rfl) (fun _ _ _ h => h) (Or.inl ⟨by rfl, ?_⟩) (by assumption) ?_
    rotate_left
    · intro w' hSw
      (try dsimp only at hSw)
      go_simp <;> with_reducible rfl
    try simp only [Act.put, List.setIfInBounds_toArray, List.set_cons_zero, List.set_cons_succ]
    refine wpAnyH_take (i := 7) (oi := { dst := some 24, op := Op.move (Operand.tmp 23), type := 4, pos := "law.go:268", after := #[{ on := 6, ground := Ground.data }, { on := 4, ground := Ground.chain }], guard := none }) (v := ?_) rfl (by kernel_rfl) (by kernel_rfl) (by kernel_rfl) (fun _ _ _ h => h) (Or.inl ⟨by rfl, ?_⟩) (by assumption) ?_
    rotate_left
    · intro w' hSw
      (try dsimp only at hSw)
      go_simp <;> with_reducible rfl
    try simp only [Act.put, List.setIfInBounds_toArray, List.set_cons_zero, List.set_cons_succ]
    refine wpAnyH_take (i := 8) (oi := { dst := some 25, op := Op.load 32 (Operand.tmp 4), type := 32, pos := "law.go:268", after := #[{ on := 7, ground := Ground.guard }], guard := some (7, false) }) (v := undef) rfl (by kernel_rfl) (by kernel_rfl) (by kernel_rfl) (fun _ _ _ h => h) (Or.inr ⟨by rfl, rfl⟩) (by assumption) ?_
    try simp only [Act.put, List.setIfInBounds_toArray, List.set_cons_zero, List.set_cons_succ]
    refine wpAnyH_take (i := 9) (oi := { dst := some 26, op := Op.call { callee := Callee.value (Operand.func 7), args := #[Operand.tmp 25], argTypes := #[32] }, type := 3, pos := "law.go:268", after := #[{ on := 8, ground := Ground.data }, { on := 7, ground := Ground.chain }, { on := 7, ground := Ground.guard }], guard := some (7, false) }) (v := undef) rfl (by kernel_rfl) (by kernel_rfl) (by kernel_rfl) (fun _ _ _ h => h) (Or.inr ⟨by rfl, rfl⟩) (by assumption) ?_
    try simp only [Act.put, List.setIfInBounds_toArray, List.set_cons_zero, List.set_cons_succ]
    refine wpAnyH_take (i := 10) (oi := { dst := some 27, op := Op.binOp BinOp.lss 3 (Operand.tmp 26) (Operand.const (Value.int IntKind.i64 0)) 3, type := 4, pos := "law.go:268", after := #[{ on := 9, ground := Ground.data }, { on := 7, ground := Ground.guard }], guard := some (7, false) }) (v := undef) rfl (by kernel_rfl) (by kernel_rfl) (by kernel_rfl) (fun _ _ _ h => h) (Or.inr ⟨by rfl, rfl⟩) (by assumption) ?_
    try simp only [Act.put, List.setIfInBounds_toArray, List.set_cons_zero, List.set_cons_succ]
    refine wpAnyH_take (i := 11) (oi := { dst := some 28, op := Op.pick (Operand.tmp 24) (Operand.const (Value.bool true)) (Operand.tmp 27), type := 4, pos := "law.go:268", after := #[{ on := 7, ground := Ground.data }, { on := 10, ground := Ground.data }], guard := none }) (v := ?_) rfl (by kernel_rfl) (by kernel_rfl) (by kernel_rfl) (fun _ _ _ h => h) (Or.inl ⟨by rfl, ?_⟩) (by assumption) ?_
    rotate_left
    · intro w' hSw
      (try dsimp only at hSw)
      go_simp <;> with_reducible rfl
    try simp only [Act.put, List.setIfInBounds_toArray, List.set_cons_zero, List.set_cons_succ]
    refine wpAnyH_take (i := 12) (oi := { dst := some 29, op := Op.move (Operand.tmp 28), type := 4, pos := "law.go:268", after := #[{ on := 11, ground := Ground.data }, { on := 9, ground := Ground.chain }], guard := none }) (v := ?_) rfl (by kernel_rfl) (by kernel_rfl) (by kernel_rfl) (fun _ _ _ h => h) (Or.inl ⟨by rfl, ?_⟩) (by assumption) ?_
    rotate_left
    · intro w' hSw
      (try dsimp only at hSw)
      go_simp <;> with_reducible rfl
    try simp only [Act.put, List.setIfInBounds_toArray, List.set_cons_zero, List.set_cons_succ]
    refine wpAnyH_take (i := 13) (oi := { dst := some 30, op := Op.load 32 (Operand.tmp 3), type := 32, pos := "law.go:268", after := #[{ on := 12, ground := Ground.guard }], guard := some (12, false) }) (v := undef) rfl (by kernel_rfl) (by kernel_rfl) (by kernel_rfl) (fun _ _ _ h => h) (Or.inr ⟨by rfl, rfl⟩) (by assumption) ?_
    try simp only [Act.put, List.setIfInBounds_toArray, List.set_cons_zero, List.set_cons_succ]
    refine wpAnyH_take (i := 14) (oi := { dst := some 31, op := Op.load 32 (Operand.tmp 4), type := 32, pos := "law.go:268", after := #[{ on := 12, ground := Ground.guard }], guard := some (12, false) }) (v := undef) rfl (by kernel_rfl) (by kernel_rfl) (by kernel_rfl) (fun _ _ _ h => h) (Or.inr ⟨by rfl, rfl⟩) (by assumption) ?_
    try simp only [Act.put, List.setIfInBounds_toArray, List.set_cons_zero, List.set_cons_succ]
    refine wpAnyH_take (i := 15) (oi := { dst := some 32, op := Op.load 32 (Operand.tmp 4), type := 32, pos := "law.go:268", after := #[{ on := 12, ground := Ground.guard }], guard := some (12, false) }) (v := undef) rfl (by kernel_rfl) (by kernel_rfl) (by kernel_rfl) (fun _ _ _ h => h) (Or.inr ⟨by rfl, rfl⟩) (by assumption) ?_
    try simp only [Act.put, List.setIfInBounds_toArray, List.set_cons_zero, List.set_cons_succ]
    refine wpAnyH_take (i := 16) (oi := { dst := some 33, op := Op.call { callee := Callee.value (Operand.func 9), args := #[Operand.tmp 31, Operand.tmp 32], argTypes := #[32, 32] }, type := 32, pos := "law.go:268", after := #[{ on := 14, ground := Ground.data }, { on := 15, ground := Ground.data }, { on := 12, ground := Ground.chain }, { on := 12, ground := Ground.guard }], guard := some (12, false) }) (v := undef) rfl (by kernel_rfl) (by kernel_rfl) (by kernel_rfl) (fun _ _ _ h => h) (Or.inr ⟨by rfl, rfl⟩) (by assumption) ?_
    try simp only [Act.put, List.setIfInBounds_toArray, List.set_cons_zero, List.set_cons_succ]
    refine wpAnyH_take (i := 17) (oi := { dst := some 34, op := Op.call { callee := Callee.value (Operand.func 8), args := #[Operand.tmp 30, Operand.tmp 33], argTypes := #[32, 32] }, type := 3, pos := "law.go:268", after := #[{ on := 13, ground := Ground.data }, { on := 16, ground := Ground.data }, { on := 16, ground := Ground.chain }, { on := 12, ground := Ground.guard }], guard := some (12, false) }) (v := undef) rfl (by kernel_rfl) (by kernel_rfl) (by kernel_rfl) (fun _ _ _ h => h) (Or.inr ⟨by rfl, rfl⟩) (by assumption) ?_
    try simp only [Act.put, List.setIfInBounds_toArray, List.set_cons_zero, List.set_cons_succ]
    refine wpAnyH_take (i := 18) (oi := { dst := some 35, op := Op.binOp BinOp.gtr 3 (Operand.tmp 34) (Operand.const (Value.int IntKind.i64 0)) 3, type := 4, pos := "law.go:268", after := #[{ on := 17, ground := Ground.data }, { on := 12, ground := Ground.guard }], guard := some (12, false) }) (v := undef) rfl (by kernel_rfl) (by kernel_rfl) (by kernel_rfl) (fun _ _ _ h => h) (Or.inr ⟨by rfl, rfl⟩) (by assumption) ?_
    try simp only [Act.put, List.setIfInBounds_toArray, List.set_cons_zero, List.set_cons_succ]
    refine wpAnyH_take (i := 19) (oi := { dst := some 36, op := Op.pick (Operand.tmp 29) (Operand.const (Value.bool true)) (Operand.tmp 35), type := 4, pos := "law.go:268", after := #[{ on := 12, ground := Ground.data }, { on := 18, ground := Ground.data }], guard := none }) (v := ?_) rfl (by kernel_rfl) (by kernel_rfl) (by kernel_rfl) (fun _ _ _ h => h) (Or.inl ⟨by rfl, ?_⟩) (by assumption) ?_
    rotate_left
    · intro w' hSw
      (try dsimp only at hSw)
      go_simp <;> with_reducible rfl
    try simp only [Act.put, List.setIfInBounds_toArray, List.set_cons_zero, List.set_cons_succ]
    refine wpAnyH_take (i := 20) (oi := { dst := some 37, op := Op.move (Operand.tmp 36), type := 4, pos := "law.go:268", after := #[{ on := 19, ground := Ground.data }, { on := 17, ground := Ground.chain }], guard := none }) (v := ?_) rfl (by kernel_rfl) (by kernel_rfl) (by kernel_rfl) (fun _ _ _ h => h) (Or.inl ⟨by rfl, ?_⟩) (by assumption) ?_
    rotate_left
    · intro w' hSw
      (try dsimp only at hSw)
      go_simp <;> with_reducible rfl
    try simp only [Act.put, List.setIfInBounds_toArray, List.set_cons_zero, List.set_cons_succ]
    refine wpAnyH_take (i := 21) (oi := { dst := some 38, op := Op.load 32 (Operand.tmp 4), type := 32, pos := "law.go:268", after := #[{ on := 20, ground := Ground.guard }], guard := some (20, false) }) (v := undef) rfl (by kernel_rfl) (by kernel_rfl) (by kernel_rfl) (fun _ _ _ h => h) (Or.inr ⟨by rfl, rfl⟩) (by assumption) ?_
    try simp only [Act.put, List.setIfInBounds_toArray, List.set_cons_zero, List.set_cons_succ]
    refine wpAnyH_take (i := 22) (oi := { dst := some 39, op := Op.load 32 (Operand.tmp 3), type := 32, pos := "law.go:268", after := #[{ on := 20, ground := Ground.guard }], guard := some (20, false) }) (v := undef) rfl (by kernel_rfl) (by kernel_rfl) (by kernel_rfl) (fun _ _ _ h => h) (Or.inr ⟨by rfl, rfl⟩) (by assumption) ?_
    try simp only [Act.put, List.setIfInBounds_toArray, List.set_cons_zero, List.set_cons_succ]
    refine wpAnyH_take (i := 23) (oi := { dst := some 40, op := Op.load 32 (Operand.tmp 3), type := 32, pos := "law.go:268", after := #[{ on := 20, ground := Ground.guard }], guard := some (20, false) }) (v := undef) rfl (by kernel_rfl) (by kernel_rfl) (by kernel_rfl) (fun _ _ _ h => h) (Or.inr ⟨by rfl, rfl⟩) (by assumption) ?_
    try simp only [Act.put, List.setIfInBounds_toArray, List.set_cons_zero, List.set_cons_succ]
    refine wpAnyH_take (i := 24) (oi := { dst := some 41, op := Op.call { callee := Callee.value (Operand.func 9), args := #[Operand.tmp 39, Operand.tmp 40], argTypes := #[32, 32] }, type := 32, pos := "law.go:268", after := #[{ on := 22, ground := Ground.data }, { on := 23, ground := Ground.data }, { on := 20, ground := Ground.chain }, { on := 20, ground := Ground.guard }], guard := some (20, false) }) (v := undef) rfl (by kernel_rfl) (by kernel_rfl) (by kernel_rfl) (fun _ _ _ h => h) (Or.inr ⟨by rfl, rfl⟩) (by assumption) ?_
    try simp only [Act.put, List.setIfInBounds_toArray, List.set_cons_zero, List.set_cons_succ]
    refine wpAnyH_take (i := 25) (oi := { dst := some 42, op := Op.call { callee := Callee.value (Operand.func 8), args := #[Operand.tmp 38, Operand.tmp 41], argTypes := #[32, 32] }, type := 3, pos := "law.go:268", after := #[{ on := 21, ground := Ground.data }, { on := 24, ground := Ground.data }, { on := 24, ground := Ground.chain }, { on := 20, ground := Ground.guard }], guard := some (20, false) }) (v := undef) rfl (by kernel_rfl) (by kernel_rfl) (by kernel_rfl) (fun _ _ _ h => h) (Or.inr ⟨by rfl, rfl⟩) (by assumption) ?_
    try simp only [Act.put, List.setIfInBounds_toArray, List.set_cons_zero, List.set_cons_succ]
    refine wpAnyH_take (i := 26) (oi := { dst := some 43, op := Op.binOp BinOp.gtr 3 (Operand.tmp 42) (Operand.const (Value.int IntKind.i64 0)) 3, type := 4, pos := "law.go:268", after := #[{ on := 25, ground := Ground.data }, { on := 20, ground := Ground.guard }], guard := some (20, false) }) (v := undef) rfl (by kernel_rfl) (by kernel_rfl) (by kernel_rfl) (fun _ _ _ h => h) (Or.inr ⟨by rfl, rfl⟩) (by assumption) ?_
    try simp only [Act.put, List.setIfInBounds_toArray, List.set_cons_zero, List.set_cons_succ]
    refine wpAnyH_take (i := 27) (oi := { dst := some 44, op := Op.pick (Operand.tmp 37) (Operand.const (Value.bool true)) (Operand.tmp 43), type := 4, pos := "law.go:268", after := #[{ on := 20, ground := Ground.data }, { on := 26, ground := Ground.data }], guard := none }) (v := ?_) rfl (by kernel_rfl) (by kernel_rfl) (by kernel_rfl) (fun _ _ _ h => h) (Or.inl ⟨by rfl, ?_⟩) (by assumption) ?_
    rotate_left
    · intro w' hSw
      (try dsimp only at hSw)
      go_simp <;> with_reducible rfl
    try simp only [Act.put, List.setIfInBounds_toArray, List.set_cons_zero, List.set_cons_succ]
    refine wpAnyH_done (by kernel_rfl) ?_ _
    clear HS hHeld
    have hz_W2.drew := hb0.size
    replace HE := hid (HE.out.trans hb0)
    replace HB_O := hid (HB_O.out.ext hb0)
    replace HB_X := hid (HB_X.out.ext hb0)
    replace HB_Y := hid (HB_Y.out.ext hb0)
    replace ku := ku.ext hb0
    replace kv := kv.ext hb0
    obtain ⟨c_20, c_21, c_22, c_23, c_24, c_25, c_26, c_27, c_28⟩ := HB_O.out.c9
    obtain ⟨c_29, c_30, c_31⟩ := HB_X.out.c3
    obtain ⟨c_32, c_33, c_34⟩ := HB_Y.out.c3
    go_wp2_with fail
    clear c_20 c_21 c_22 c_23 c_24 c_25 c_26 c_27 c_28 c_29 c_30 c_31 c_32 c_33 c_34
    refine (CW.out _ (HP.out.ext HE.out) (HT.out.ext HE.out)).mono ?_
    rintro e w3 ⟨rfl, g3⟩
    have hz_w3 := g3.size
    replace HE := hid (HE.out.trans g3)
    replace HB_O := hid (HB_O.out.ext g3)
    replace HB_X := hid (HB_X.out.ext g3)
    replace HB_Y := hid (HB_Y.out.ext g3)
    replace ku := ku.ext g3
    replace kv := kv.ext g3
    obtain ⟨c_35, c_36, c_37, c_38, c_39, c_40, c_41, c_42, c_43⟩ := HB_O.out.c9
    obtain ⟨c_44, c_45, c_46⟩ := HB_X.out.c3
    obtain ⟨c_47, c_48, c_49⟩ := HB_Y.out.c3
    go_wp2_with fail
    clear c_35 c_36 c_37 c_38 c_39 c_40 c_41 c_42 c_43 c_44 c_45 c_46 c_47 c_48 c_49
    unfold TruePost
    refine bodyPost_ret (v := .bool true) (by simp [results, Tryz.results3, go_sem]) rfl ⟨rfl, HE.out⟩
end Go.Proofs.YtpjpaiaaimmngaaGreatDoor
