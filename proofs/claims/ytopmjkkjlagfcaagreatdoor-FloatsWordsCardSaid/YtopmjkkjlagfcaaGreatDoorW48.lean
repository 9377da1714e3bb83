/- floats: operate: what is common. -/
import Derived.Test.YtopmjkkjlagfcaaGreatDoorW38
namespace Go.Proofs.YtopmjkkjlagfcaaGreatDoor
open Go.RowKit Vn
theorem Box.put5 {w : World} {b : Nat} {z0 z1 z2 z3 z4 : Value} {t : TypeId} (h : Box w b #[z0, z1, z2, z3, z4] t) (y0 y1 y2 y3 y4 : Value) :
  Box (((((w.setCell ⟨b, 0, none⟩ y0).setCell ⟨b, 1, none⟩ y1).setCell ⟨b, 2, none⟩ y2).setCell ⟨b, 3, none⟩ y3).setCell ⟨b, 4, none⟩ y4) b #[y0, y1, y2, y3, y4] t := by
 have h1 := ((((h.set 0 y0).set 1 y1).set 2 y2).set 3 y3).set 4 y4
 simpa using h1
theorem Box.put5o {w : World} {g b : Nat} {cs : Array Value} {t : TypeId} (hne : g ≠ b) (h : Box w g cs t) (y0 y1 y2 y3 y4 : Value) :
  Box (((((w.setCell ⟨b, 0, none⟩ y0).setCell ⟨b, 1, none⟩ y1).setCell ⟨b, 2, none⟩ y2).setCell ⟨b, 3, none⟩ y3).setCell ⟨b, 4, none⟩ y4) g cs t :=
 ((((h.other hne 0 y0).other hne 1 y1).other hne 2 y2).other hne 3 y3).other hne 4 y4
theorem Ext.allocI {W X : World} {o : Obj} (h : Ext W X) : Ext W (X.alloc o) := Ext.trans h (Ext.alloc _ _)
theorem Ext.drewI {W X : World} (h : Ext W X) : Ext W X.drew := Ext.trans h (Below.drew (Below.refl _ _))
theorem Ext.setI {W X : World} {b i : Nat} {v : Value} (hle : W.heap.size ≤ b) (h : Ext W X) : Ext W (X.setCell ⟨b, i, none⟩ v) := h.setCell (p := ⟨b, i, none⟩) hle v
theorem Box.newAt {X : World} {g : Nat} {cs : Array Value} {t : TypeId} (h : g = X.heap.size) : Box (X.alloc (.cells cs t)) g cs t := by rw [h]; exact Box.new X cs t
theorem Box.allocI {X : World} {o : Obj} {g : Nat} {cs : Array Value} {t : TypeId} (h : Box X g cs t) : Box (X.alloc o) g cs t := h.ext (Ext.alloc _ _)
theorem NumV.allocI {X : World} {o : Obj} {v : Value} {q : Rat} (h : NumV X v q) : NumV (X.alloc o) v q := h.ext (Ext.alloc _ _)
theorem Ext.d1 (w : World) (o : Obj) : Ext w (w.alloc o).drew := Ext.trans (Ext.alloc w o) (Below.drew (Below.refl _ _))
theorem Ext.d2 (w : World) (o p : Obj) : Ext w ((w.alloc o).alloc p).drew := Ext.trans (Ext.trans (Ext.alloc w o) (Ext.alloc _ p)) (Below.drew (Below.refl _ _))
theorem Ext.a1 {w x : World} {o : Obj} (h : Ext (w.alloc o).drew x) : Ext w x := Ext.trans (Ext.alloc w o) (Ext.undrew h)
theorem Ext.a2 {w x : World} {o p : Obj} (h : Ext ((w.alloc o).alloc p).drew x) : Ext w x := Ext.trans (Ext.trans (Ext.alloc w o) (Ext.alloc _ p)) (Ext.undrew h)
theorem Ext.b1 {c w x : World} {o : Obj} (k : Ext c w) (h : Ext (w.alloc o) x) : Ext c x := Ext.trans k (Ext.trans (Ext.alloc w o) h)
theorem Ext.b2 {c w x : World} {o p : Obj} (k : Ext c w) (h : Ext ((w.alloc o).alloc p) x) : Ext c x := Ext.trans k (Ext.trans (Ext.trans (Ext.alloc w o) (Ext.alloc _ p)) h)
theorem Ext.put5 {cur w : World} {b : Nat} (hle : cur.heap.size ≤ b) (h : Ext cur w) (y0 y1 y2 y3 y4 : Value) :
  Ext cur (((((w.setCell ⟨b, 0, none⟩ y0).setCell ⟨b, 1, none⟩ y1).setCell ⟨b, 2, none⟩ y2).setCell ⟨b, 3, none⟩ y3).setCell ⟨b, 4, none⟩ y4) :=
 ((((h.setCell (p := ⟨b, 0, none⟩) hle y0).setCell (p := ⟨b, 1, none⟩) hle y1).setCell (p := ⟨b, 2, none⟩) hle y2).setCell (p := ⟨b, 3, none⟩) hle y3).setCell (p := ⟨b, 4, none⟩) hle y4
theorem NumV.put5 {w : World} {b : Nat} {z0 z1 z2 z3 z4 : Value} (hB : Box w b #[z0, z1, z2, z3, z4] 112) {v : Value} {q : Rat} (h : NumV w v q) (y0 y1 y2 y3 y4 : Value) :
  NumV (((((w.setCell ⟨b, 0, none⟩ y0).setCell ⟨b, 1, none⟩ y1).setCell ⟨b, 2, none⟩ y2).setCell ⟨b, 3, none⟩ y3).setCell ⟨b, 4, none⟩ y4) v q := by
 have h1 := hB.set 0 y0
 have h2 := h1.set 1 y1
 have h3 := h2.set 2 y2
 have h4 := h3.set 3 y3
 exact h.keep (((((Keep.setCell (p := ⟨b, 0, none⟩) hB (by decide) y0).trans (Keep.setCell (p := ⟨b, 1, none⟩) h1 (by decide) y1)).trans (Keep.setCell (p := ⟨b, 2, none⟩) h2 (by decide) y2)).trans (Keep.setCell (p := ⟨b, 3, none⟩) h3 (by decide) y3)).trans (Keep.setCell (p := ⟨b, 4, none⟩) h4 (by decide) y4))
theorem Box.new2 (w : World) (o : Obj) (cs : Array Value) (t : TypeId) : Box ((w.alloc o).alloc (.cells cs t)) (w.heap.size + 1) cs t := by
 have h := Box.new (w.alloc o) cs t
 simpa using h
def OpBox (w : World) (g : Nat) (kind : Int) (neg : Bool) (q : Rat) : Prop := ∃ (ng : Bool) (a : Option Addr) (n c : Nat) (a' : Option Addr) (n' c' : Nat),
 Box w g #[.int .i64 kind, .bool neg, .bool ng, .slice a n c, .slice a' n' c'] 112 ∧ NumV w (.agg #[.bool ng, .slice a n c, .slice a' n' c']) q
def Ops (cur wx : World) (gx gy : Nat) (ki : Int) (ni : Bool) (qi : Rat) (kj : Int) (nj : Bool) (qj : Rat) : Prop :=
 Ext cur wx ∧ cur.heap.size ≤ gx ∧ cur.heap.size ≤ gy ∧ gx ≠ gy ∧ OpBox wx gx ki ni qi ∧ OpBox wx gy kj nj qj
theorem newFacts5 : ∀ (wa w' : World), Ext (wa.alloc (.cells #[.int .i64 0, .bool false, .bool false, .slice none 0 0, .slice none 0 0] 112)) w' →
  w'.cell? ⟨wa.heap.size, 0, none⟩ = some (.int .i64 0) ∧ w'.cell? ⟨wa.heap.size, 1, none⟩ = some (.bool false) ∧ w'.cell? ⟨wa.heap.size, 2, none⟩ = some (.bool false) ∧ w'.cell? ⟨wa.heap.size, 3, none⟩ = some (.slice none 0 0) ∧ w'.cell? ⟨wa.heap.size, 4, none⟩ = some (.slice none 0 0) ∧
  w'.frozen? ⟨wa.heap.size, 0, none⟩ = false ∧ w'.frozen? ⟨wa.heap.size, 1, none⟩ = false ∧ w'.frozen? ⟨wa.heap.size, 2, none⟩ = false ∧ w'.frozen? ⟨wa.heap.size, 3, none⟩ = false ∧ w'.frozen? ⟨wa.heap.size, 4, none⟩ = false := fun wa w' h => by
 have b := (Box.new wa #[.int .i64 0, .bool false, .bool false, .slice none 0 0, .slice none 0 0] 112).ext h
 obtain ⟨c0, c1, c2, c3, c4⟩ := b.c5
 obtain ⟨f0, f1, f2, f3, f4⟩ := b.f5
 exact ⟨c0, c1, c2, c3, c4, f0, f1, f2, f3, f4⟩
def Fac (g : Nat) (w' : World) : Prop := Hid (Box w' g #[.int .i64 0, .bool false, .bool false, .slice none 0 0, .slice none 0 0] 112) ∧ w'.cell? ⟨g, 0, none⟩ = some (.int .i64 0) ∧ w'.cell? ⟨g, 1, none⟩ = some (.bool false) ∧ w'.cell? ⟨g, 2, none⟩ = some (.bool false) ∧ w'.cell? ⟨g, 3, none⟩ = some (.slice none 0 0) ∧ w'.cell? ⟨g, 4, none⟩ = some (.slice none 0 0) ∧
  w'.frozen? ⟨g, 0, none⟩ = false ∧ w'.frozen? ⟨g, 1, none⟩ = false ∧ w'.frozen? ⟨g, 2, none⟩ = false ∧ w'.frozen? ⟨g, 3, none⟩ = false ∧ w'.frozen? ⟨g, 4, none⟩ = false
theorem Fac.of {wa w' : World} {g : Nat} (h : Ext (wa.alloc (.cells #[.int .i64 0, .bool false, .bool false, .slice none 0 0, .slice none 0 0] 112)) w') (hg : g = wa.heap.size) : Fac g w' := by rw [hg]; exact ⟨hid ((Box.new wa _ _).ext h), newFacts5 wa w' h⟩
theorem F20 {c x1 x2 : World} (h : Ext ((c.alloc (.cells #[.int .i64 0, .bool false, .bool false, .slice none 0 0, .slice none 0 0] 112)).alloc (.cells #[.int .i64 0, .bool false, .bool false, .slice none 0 0, .slice none 0 0] 112)).drew x1) (k : Ext x1 x2) : Fac c.heap.size x2 ∧ Fac (c.heap.size + 1) x2 :=
 ⟨Fac.of ((Ext.alloc _ _).trans ((Ext.undrew h).trans k)) rfl, Fac.of ((Ext.undrew h).trans k) (by simp)⟩
theorem F02 {x1 x2 : World} (k : Ext ((x1.alloc (.cells #[.int .i64 0, .bool false, .bool false, .slice none 0 0, .slice none 0 0] 112)).alloc (.cells #[.int .i64 0, .bool false, .bool false, .slice none 0 0, .slice none 0 0] 112)) x2) : Fac x1.heap.size x2 ∧ Fac (x1.heap.size + 1) x2 :=
 ⟨Fac.of ((Ext.alloc _ _).trans k) rfl, Fac.of k (by simp)⟩
theorem F11 {c x1 x2 : World} (h : Ext (c.alloc (.cells #[.int .i64 0, .bool false, .bool false, .slice none 0 0, .slice none 0 0] 112)).drew x1) (k : Ext (x1.alloc (.cells #[.int .i64 0, .bool false, .bool false, .slice none 0 0, .slice none 0 0] 112)) x2) : Fac c.heap.size x2 ∧ Fac x1.heap.size x2 :=
 ⟨Fac.of (((Ext.undrew h).trans (Ext.alloc _ _)).trans k) rfl, Fac.of k rfl⟩
theorem F10 {c x1 x2 : World} (h : Ext (c.alloc (.cells #[.int .i64 0, .bool false, .bool false, .slice none 0 0, .slice none 0 0] 112)).drew x1) (k : Ext x1 x2) : Fac c.heap.size x2 :=
 Fac.of ((Ext.undrew h).trans k) rfl
theorem F01 {x1 x2 : World} (k : Ext (x1.alloc (.cells #[.int .i64 0, .bool false, .bool false, .slice none 0 0, .slice none 0 0] 112)) x2) : Fac x1.heap.size x2 :=
 Fac.of k rfl
set_option maxRecDepth 100000 in
set_option maxHeartbeats 4000000 in
theorem operate_c (E P m i j fn ki kj : Nat) (r : Nat × Nat) (w : World) (hF : Fmt E P) (hm : m ≤ 4) (hi : i < 2 ^ (E + P)) (hj : j < 2 ^ (E + P)) (hki : wkind E P i = ki) (hkj : wkind E P j = kj) (ki3 : ki ≤ 3) (kj3 : kj ≤ 3) (hT : Tabs w) (hen : ∀ args w, (callFunc fn args).run Tryz.prog w = .ok (.enter fn args) w) (CF : Hid (∀ (x y : Value) (w : World), OpV w x ki (wn E P i) (wvalK E P (bias E) i) → OpV w y kj (wn E P j) (wvalK E P (bias E) j) → Tabs w → Calls Tryz.prog fn #[.agg #[.int .i64 (E : Nat), .int .i64 (P : Nat), .int .i64 (m : Nat), .int .i64 (bias E : Nat)], x, y] w (EndPost r w))) :
  Calls Tryz.prog 93 #[.agg #[.int .i64 (E : Nat), .int .i64 (P : Nat)], .int .i64 (m : Nat), Word i, Word j, .func (.func fn) #[] #[]] w fun e w' => RoundPost r 0 w e w' := by
 have hEP : E + P ≤ 124 := by unfold Fmt at hF; omega
 have hp : 2 ^ (E + P) ≤ 2 ^ 124 := Nat.pow_le_pow_right (by decide) hEP
 have hi8 : W128 i := by show i < 2 ^ 128; omega
 have hj8 : W128 j := by show j < 2 ^ 128; omega
 obtain ⟨i0, hi0⟩ : ∃ x : Nat, x = i / 18446744073709551616 := ⟨_, rfl⟩
 obtain ⟨i1, hi1⟩ : ∃ x : Nat, x = i % 18446744073709551616 := ⟨_, rfl⟩
 obtain ⟨j0, hj0⟩ : ∃ x : Nat, x = j / 18446744073709551616 := ⟨_, rfl⟩
 obtain ⟨j1, hj1⟩ : ∃ x : Nat, x = j % 18446744073709551616 := ⟨_, rfl⟩
 have ei : Word i = .agg #[.int .u64 i0, .int .u64 i1] := by unfold Word; rw [← hi0, ← hi1]
 have ej : Word j = .agg #[.int .u64 j0, .int .u64 j1] := by unfold Word; rw [← hj0, ← hj1]
 have hb : bias E ≤ 1023 := by
  have : 2 ^ (E - 1) ≤ 1024 := Nat.pow_le_pow_right (n := 2) (by decide) (show E - 1 ≤ 10 by unfold Fmt at hF; omega)
  unfold bias; omega
 have CI : Hid (∀ w, Calls Tryz.prog 69 #[.agg #[.int .i64 (E : Nat), .int .i64 (P : Nat), .int .i64 (m : Nat), .int .i64 (bias E : Nat)], .agg #[.int .u64 i0, .int .u64 i1]] w (LookPost (ki : Nat) (wn E P i) (wvalK E P (bias E) i) w)) := hid fun w => by
  rw [← ei, ← hki]; exact look_c E P m (bias E) i w hF hb hi8
 have CJ : Hid (∀ w, Calls Tryz.prog 69 #[.agg #[.int .i64 (E : Nat), .int .i64 (P : Nat), .int .i64 (m : Nat), .int .i64 (bias E : Nat)], .agg #[.int .u64 j0, .int .u64 j1]] w (LookPost (kj : Nat) (wn E P j) (wvalK E P (bias E) j) w)) := hid fun w => by
  rw [← ej, ← hkj]; exact look_c E P m (bias E) j w hF hb hj8
 rw [ei, ej]
 have HF := hid hF; have HM := hid hm; have HI := hid hi8; have HJ := hid hj8; have HI0 := hid hi0; have HI1 := hid hi1; have HJ0 := hid hj0; have HJ1 := hid hj1
 have HW : Hid (withRes E P m [i, j] = .tuple #[.agg #[.int .i64 (E : Nat), .int .i64 (P : Nat), .int .i64 (m : Nat), .int .i64 (bias E : Nat)], .int .i64 0]) := hid (by unfold withRes; rw [if_pos (fun x hx => by simp at hx; rcases hx with rfl | rfl; exact hi; exact hj)])
 have HT := hid hT
 have HEN := hid hen
 have KI := hid ki3; have KJ := hid kj3
 clear hki hkj ki3 kj3 hT hen
 clear hF hm hi hj hi8 hj8 hi0 hi1 hj0 hj1 ei ej hp hb hEP
 obtain ⟨W0, hW0, g0, hz0, B_F, B_A, B_B, B_Z⟩ := pro4s w #[.int .i64 (E : Nat), .int .i64 (P : Nat)] #[.int .u64 i0, .int .u64 i1] #[.int .u64 j0, .int .u64 j1] #[.int .u64 0, .int .u64 0] 23 29 29 29
 have HE := hid g0
 have HB_F := hid B_F
 have HB_A := hid B_A
 have HB_B := hid B_B
 have HB_Z := hid B_Z
 clear g0 B_F B_A B_B B_Z 
 go_enter Tryz.func93, Tryz.ntmps93
 go_upto_region 1 with (fail)
 rw [← hW0]
 clear hW0
 obtain ⟨c_1, c_2⟩ := HB_F.out.c2
 obtain ⟨c_3, c_4⟩ := HB_A.out.c2
 obtain ⟨c_5, c_6⟩ := HB_B.out.c2
 obtain ⟨c_7, c_8⟩ := HB_Z.out.c2
 go_wp2_with fail
 clear c_1 c_2 c_3 c_4 c_5 c_6 c_7 c_8
 obtain ⟨W1, hW1, g1, hy1, B_R⟩ := pro1 W0 #[.int .u64 i0, .int .u64 i1, .int .u64 j0, .int .u64 j1] 29
 rw [← hW1]
 clear hW1
 have hz_W1 := g1.size
 replace HE := hid (HE.out.trans g1)
 replace HB_F := hid (HB_F.out.ext g1)
 replace HB_A := hid (HB_A.out.ext g1)
 replace HB_B := hid (HB_B.out.ext g1)
 replace HB_Z := hid (HB_Z.out.ext g1)
 have HB_R := hid B_R
 clear B_R
 have HWS : Hid (WSl W1 (.slice (some ⟨W0.heap.size, 0, none⟩) 2 2) [i, j]) := hid ⟨some ⟨W0.heap.size, 0, none⟩, W0.heap.size, 0, 2, rfl, Nat.le_refl _, by decide, fun _ => rfl, fun x hx => by
   simp at hx; rcases hx with rfl | rfl; exact HI.out; exact HJ.out, fun k hk => by
   have hk2 : k = 0 ∨ k = 1 := by simp at hk; omega
   rcases hk2 with rfl | rfl
   ·refine ⟨?_, ?_⟩
    ·have := HB_R.out.cell 0; rw [HI0.out] at this; exact this
    ·have := HB_R.out.cell 1; rw [HI1.out] at this; exact this
   ·refine ⟨?_, ?_⟩
    ·have := HB_R.out.cell 2; rw [HJ0.out] at this; exact this
    ·have := HB_R.out.cell 3; rw [HJ1.out] at this; exact this⟩
 refine (with_good E P m _ [i, j] _ HM.out HF.out HWS.out).mono ?_
 rintro e w2 ⟨rfl, g2⟩
 have hz_w2 := g2.size
 replace HE := hid (HE.out.trans g2)
 replace HB_F := hid (HB_F.out.ext g2)
 replace HB_A := hid (HB_A.out.ext g2)
 replace HB_B := hid (HB_B.out.ext g2)
 replace HB_Z := hid (HB_Z.out.ext g2)
 rw [HW.out]
 have gA := Ext.alloc w2 (.cells #[.int .i64 (E : Nat), .int .i64 (P : Nat), .int .i64 (m : Nat), .int .i64 (bias E : Nat)] 81)
 obtain ⟨c_9, c_10⟩ := (HB_F.out.ext gA).c2
 obtain ⟨c_11, c_12⟩ := (HB_A.out.ext gA).c2
 obtain ⟨c_13, c_14⟩ := (HB_B.out.ext gA).c2
 obtain ⟨c_15, c_16⟩ := (HB_Z.out.ext gA).c2
 go_wp2_with fail
 clear gA c_9 c_10 c_11 c_12 c_13 c_14 c_15 c_16
 obtain ⟨W3, hW3, g3, hy3, B_M⟩ := pro1 w2 #[.int .i64 (E : Nat), .int .i64 (P : Nat), .int .i64 (m : Nat), .int .i64 (bias E : Nat)] 81
 rw [← hW3]
 clear hW3
 have hz_W3 := g3.size
 replace HE := hid (HE.out.trans g3)
 replace HB_F := hid (HB_F.out.ext g3)
 replace HB_A := hid (HB_A.out.ext g3)
 replace HB_B := hid (HB_B.out.ext g3)
 replace HB_Z := hid (HB_Z.out.ext g3)
 have HB_M := hid B_M
 clear B_M
 have HS : Hid (∀ w', Ext W3 w' → w'.cell? ⟨w2.heap.size, 0, none⟩ = some (.int .i64 (E : Nat)) ∧ w'.cell? ⟨w2.heap.size, 1, none⟩ = some (.int .i64 (P : Nat)) ∧ w'.cell? ⟨w2.heap.size, 2, none⟩ = some (.int .i64 (m : Nat)) ∧ w'.cell? ⟨w2.heap.size, 3, none⟩ = some (.int .i64 (bias E : Nat)) ∧ w'.cell? ⟨w.heap.size + 1, 0, none⟩ = some (.int .u64 i0) ∧ w'.cell? ⟨w.heap.size + 1, 1, none⟩ = some (.int .u64 i1) ∧ w'.cell? ⟨w.heap.size + 1 + 1, 0, none⟩ = some (.int .u64 j0) ∧ w'.cell? ⟨w.heap.size + 1 + 1, 1, none⟩ = some (.int .u64 j1)) := hid fun w' h => ⟨(HB_M.out.ext h).cell 0, (HB_M.out.ext h).cell 1, (HB_M.out.ext h).cell 2, (HB_M.out.ext h).cell 3, (HB_A.out.ext h).cell 0, (HB_A.out.ext h).cell 1, (HB_B.out.ext h).cell 0, (HB_B.out.ext h).cell 1⟩
 have hb0 : Ext W3 W3.drew := Below.drew (Below.refl _ W3)
 generalize wn E P i = ni at *
 generalize wn E P j = nj at *
 generalize wvalK E P (bias E) i = qi at *
 generalize wvalK E P (bias E) j = qj at *
 go_cut [15, 16] (fun sx sy wx => ∃ gx gy : Nat, sx = .pointer (some ⟨gx, 0, none⟩) ∧ sy = .pointer (some ⟨gy, 0, none⟩) ∧ Ops W3 wx gx gy ki ni qi kj nj qj)
 case first =>
  go_region_held3 (fun w' => w'.cell? ⟨w2.heap.size, 0, none⟩ = some (.int .i64 (E : Nat)) ∧ w'.cell? ⟨w2.heap.size, 1, none⟩ = some (.int .i64 (P : Nat)) ∧ w'.cell? ⟨w2.heap.size, 2, none⟩ = some (.int .i64 (m : Nat)) ∧ w'.cell? ⟨w2.heap.size, 3, none⟩ = some (.int .i64 (bias E : Nat)) ∧ w'.cell? ⟨w.heap.size + 1, 0, none⟩ = some (.int .u64 i0) ∧ w'.cell? ⟨w.heap.size + 1, 1, none⟩ = some (.int .u64 i1) ∧ w'.cell? ⟨w.heap.size + 1 + 1, 0, none⟩ = some (.int .u64 j0) ∧ w'.cell? ⟨w.heap.size + 1 + 1, 1, none⟩ = some (.int .u64 j1))
    (((with_reducible refine HS.out _ ?_); repeat' (first | (with_reducible assumption) | (with_reducible apply Ext.allocI) | (with_reducible apply Ext.setI) | (with_reducible apply Ext.drewI) | (with_reducible exact Below.refl _ _) | omega | (simp only [World.size_drew, World.size_alloc]; omega))))
    (first
     | (go_at_call 69; (with_reducible refine (CI.out _).mono ?_); rintro e x1 ⟨v1, rfl, ⟨ng1, a1, n1', c1', a1', n1'', c1'', rfl, k1⟩, g1⟩; have hb1 : Ext W3 x1 := (by first | (with_reducible exact Ext.a2 g1) | (with_reducible exact Ext.a1 g1) | (with_reducible exact Ext.undrew g1)); have t1 := g1.size; (try simp only [World.size_drew, World.size_alloc] at t1))
     | (go_at_call 69; (with_reducible refine (CJ.out _).mono ?_); rintro e x2 ⟨v2, rfl, ⟨ng2, a2, n2', c2', a2', n2'', c2'', rfl, k2⟩, g2⟩; have hb2 : Ext W3 x2 := (by first | (with_reducible exact Ext.b2 hb1 g2) | (with_reducible exact Ext.b1 hb1 g2) | (with_reducible exact Ext.trans hb1 g2)); have t2 := g2.size; (try simp only [World.size_alloc] at t2); have k1' := NumV.ext k1 (show Ext x1 x2 from (by first | (with_reducible exact g2) | (with_reducible exact Ext.trans (Ext.alloc _ _) g2) | (with_reducible exact Ext.trans (Ext.trans (Ext.alloc _ _) (Ext.alloc _ _)) g2))); (first | ((have yy := F20 g1 g2); obtain ⟨⟨bY, y0, y1, y2, y3, y4, y5, y6, y7, y8, y9⟩, ⟨bZ, z0, z1, z2, z3, z4, z5, z6, z7, z8, z9⟩⟩ := yy) | ((have yy := F02 g2); obtain ⟨⟨bY, y0, y1, y2, y3, y4, y5, y6, y7, y8, y9⟩, ⟨bZ, z0, z1, z2, z3, z4, z5, z6, z7, z8, z9⟩⟩ := yy) | ((have yy := F11 g1 g2); obtain ⟨⟨bY, y0, y1, y2, y3, y4, y5, y6, y7, y8, y9⟩, ⟨bZ, z0, z1, z2, z3, z4, z5, z6, z7, z8, z9⟩⟩ := yy; have n1 : W3.heap.size ≠ x1.heap.size := (by omega); have n2 : x1.heap.size ≠ W3.heap.size := (by omega); have n3 : W3.heap.size < x1.heap.size := (by omega)) | ((have yy := F10 g1 g2); obtain ⟨bY, y0, y1, y2, y3, y4, y5, y6, y7, y8, y9⟩ := yy; have n1 : W3.heap.size ≠ x2.heap.size := (by omega); have n2 : x2.heap.size ≠ W3.heap.size := (by omega); have n3 : W3.heap.size < x2.heap.size := (by omega)) | ((have yy := F01 g2); obtain ⟨bY, y0, y1, y2, y3, y4, y5, y6, y7, y8, y9⟩ := yy; have n1 : x1.heap.size ≠ x2.heap.size := (by omega); have n2 : x2.heap.size ≠ x1.heap.size := (by omega); have n3 : x1.heap.size < x2.heap.size := (by omega)) | skip)))
  all_goals
   go_wp2_with fail
   go_meet
   refine ⟨_, _, rfl, rfl, ?_, ?_, ?_, ?_, ⟨ng1, a1, n1', c1', a1', n1'', c1'', ?_, ?_⟩, ⟨ng2, a2, n2', c2', a2', n2'', c2'', ?_, ?_⟩⟩
   ·repeat' (first | (with_reducible assumption) | (with_reducible apply Ext.allocI) | (with_reducible apply Ext.setI) | (with_reducible exact Below.refl _ _) | omega)
   ·omega
   ·omega
   ·omega
   ·repeat' (first | (with_reducible exact bY.out) | (with_reducible exact bZ.out) | (with_reducible exact Box.new _ _ _) | (with_reducible exact Box.new2 _ _ _ _) | ((with_reducible refine Box.newAt ?_); (simp; done)) | (with_reducible apply Box.put5) | (with_reducible apply Box.put5o) | (with_reducible apply Box.allocI) | omega)
   ·repeat' (first | (with_reducible exact k1') | (with_reducible exact k2) | (with_reducible exact bY.out) | (with_reducible exact bZ.out) | (with_reducible apply NumV.put5) | (with_reducible apply NumV.allocI) | (with_reducible apply Box.put5o) | (with_reducible apply Box.allocI) | omega)
   ·repeat' (first | (with_reducible exact bY.out) | (with_reducible exact bZ.out) | (with_reducible exact Box.new _ _ _) | (with_reducible exact Box.new2 _ _ _ _) | ((with_reducible refine Box.newAt ?_); (simp; done)) | (with_reducible apply Box.put5) | (with_reducible apply Box.put5o) | (with_reducible apply Box.allocI) | omega)
   ·repeat' (first | (with_reducible exact k1') | (with_reducible exact k2) | (with_reducible exact bY.out) | (with_reducible exact bZ.out) | (with_reducible apply NumV.put5) | (with_reducible apply NumV.allocI) | (with_reducible apply Box.put5o) | (with_reducible apply Box.allocI) | omega)
 case rest =>
  obtain ⟨gx, gy, rfl, rfl, hE4, hgx, hgy, hne, ⟨ngx, ax, nx, cx, ax', nx', cx', BX, kX⟩, ⟨ngy, ay, ny, cy, ay', ny', cy', BY, kY⟩⟩ := hcut
  have hz_wc := hE4.size
  replace HE := hid (HE.out.trans hE4)
  replace HB_F := hid (HB_F.out.ext hE4)
  replace HB_A := hid (HB_A.out.ext hE4)
  replace HB_B := hid (HB_B.out.ext hE4)
  replace HB_Z := hid (HB_Z.out.ext hE4)
  replace HB_M := hid (HB_M.out.ext hE4)
  have hgx2 := cell_lt BX
  have hgy2 := cell_lt BY
  have HB_X := hid BX
  have HB_Y := hid BY
  clear BX BY
  obtain ⟨c_17, c_18⟩ := HB_F.out.c2
  obtain ⟨c_19, c_20⟩ := HB_A.out.c2
  obtain ⟨c_21, c_22⟩ := HB_B.out.c2
  obtain ⟨c_23, c_24⟩ := HB_Z.out.c2
  obtain ⟨c_25, c_26, c_27, c_28⟩ := HB_M.out.c4
  obtain ⟨c_29, c_30, c_31, c_32, c_33⟩ := HB_X.out.c5
  obtain ⟨c_34, c_35, c_36, c_37, c_38⟩ := HB_Y.out.c5
  go_wp2_with fail
  clear c_17 c_18 c_19 c_20 c_21 c_22 c_23 c_24 c_25 c_26 c_27 c_28 c_29 c_30 c_31 c_32 c_33 c_34 c_35 c_36 c_37 c_38
  obtain ⟨W4, hW4, g4, hy4, B_R⟩ := pro1 wc #[.int .i64 (ki : Nat), .bool ni, .bool ngx, .slice ax nx cx, .slice ax' nx' cx', .int .i64 (kj : Nat), .bool nj, .bool ngy, .slice ay ny cy, .slice ay' ny' cy'] 112
  rw [← hW4]
  clear hW4
  have hz_W4 := g4.size
  replace HE := hid (HE.out.trans g4)
  replace HB_F := hid (HB_F.out.ext g4)
  replace HB_A := hid (HB_A.out.ext g4)
  replace HB_B := hid (HB_B.out.ext g4)
  replace HB_Z := hid (HB_Z.out.ext g4)
  replace HB_M := hid (HB_M.out.ext g4)
  replace HB_X := hid (HB_X.out.ext g4)
  replace HB_Y := hid (HB_Y.out.ext g4)
  replace kX := kX.ext g4
  replace kY := kY.ext g4
  have HB_R := hid B_R
  clear B_R
  have HOS : Hid (OSl W4 (.slice (some ⟨wc.heap.size, 0, none⟩) 2 2) [ki, kj]) := hid ⟨some ⟨wc.heap.size, 0, none⟩, wc.heap.size, 0, 2, rfl, Nat.le_refl _, by decide, fun _ => rfl, fun x hx => by
    simp at hx; rcases hx with rfl | rfl
    ·have := KI.out; omega
    ·have := KJ.out; omega, fun k hk => by
    have hk2 : k = 0 ∨ k = 1 := by simp at hk; omega
    rcases hk2 with rfl | rfl
    ·exact ⟨ni, ngx, ax, nx, cx, ax', nx', cx', HB_R.out.cell 0, HB_R.out.cell 1, HB_R.out.cell 2, HB_R.out.cell 3, HB_R.out.cell 4⟩
    ·exact ⟨nj, ngy, ay, ny, cy, ay', ny', cy', HB_R.out.cell 5, HB_R.out.cell 6, HB_R.out.cell 7, HB_R.out.cell 8, HB_R.out.cell 9⟩⟩
  have HSP : Hid (anyNan [ki, kj] = false) := hid (by have := KI.out; have := KJ.out; simp [anyNan]; omega)
  refine (special_c E P m _ _ [ki, kj] _ HF.out HOS.out).mono ?_
  rintro e w5 ⟨rfl, g5⟩
  have hz_w5 := g5.size
  replace HE := hid (HE.out.trans g5)
  replace HB_F := hid (HB_F.out.ext g5)
  replace HB_A := hid (HB_A.out.ext g5)
  replace HB_B := hid (HB_B.out.ext g5)
  replace HB_Z := hid (HB_Z.out.ext g5)
  replace HB_M := hid (HB_M.out.ext g5)
  replace HB_X := hid (HB_X.out.ext g5)
  replace HB_Y := hid (HB_Y.out.ext g5)
  replace kX := kX.ext g5
  replace kY := kY.ext g5
  rw [HSP.out]
  obtain ⟨s0, s1, es⟩ := Word.shape (nanw E P)
  rw [es]
  clear es
  generalize (if anySig [ki, kj] = true then (1 : Int) else 0) = fl
  obtain ⟨r0, r1, er⟩ := Word.shape r.1
  have Er := hid er
  clear er
  have en := HEN.out
  have gA := Ext.alloc w5 (.cells #[.int .u64 s0, .int .u64 s1] 29)
  obtain ⟨c_39, c_40⟩ := (HB_F.out.ext gA).c2
  obtain ⟨c_41, c_42⟩ := (HB_A.out.ext gA).c2
  obtain ⟨c_43, c_44⟩ := (HB_B.out.ext gA).c2
  obtain ⟨c_45, c_46⟩ := (HB_Z.out.ext gA).c2
  obtain ⟨c_47, c_48, c_49, c_50⟩ := (HB_M.out.ext gA).c4
  obtain ⟨c_51, c_52, c_53, c_54, c_55⟩ := (HB_X.out.ext gA).c5
  obtain ⟨c_56, c_57, c_58, c_59, c_60⟩ := (HB_Y.out.ext gA).c5
  go_wp2_with fail
  clear gA c_39 c_40 c_41 c_42 c_43 c_44 c_45 c_46 c_47 c_48 c_49 c_50 c_51 c_52 c_53 c_54 c_55 c_56 c_57 c_58 c_59 c_60
  obtain ⟨W6, hW6, g6, hy6, B_W⟩ := pro1 w5 #[.int .u64 s0, .int .u64 s1] 29
  rw [← hW6]
  clear hW6
  have hz_W6 := g6.size
  replace HE := hid (HE.out.trans g6)
  replace HB_F := hid (HB_F.out.ext g6)
  replace HB_A := hid (HB_A.out.ext g6)
  replace HB_B := hid (HB_B.out.ext g6)
  replace HB_Z := hid (HB_Z.out.ext g6)
  replace HB_M := hid (HB_M.out.ext g6)
  replace HB_X := hid (HB_X.out.ext g6)
  replace HB_Y := hid (HB_Y.out.ext g6)
  replace kX := kX.ext g6
  replace kY := kY.ext g6
  have HB_W := hid B_W
  clear B_W
  refine (CF.out _ _ _ ⟨_, _, _, _, _, _, _, rfl, kX⟩ ⟨_, _, _, _, _, _, _, rfl, kY⟩ (HT.out.ext HE.out)).mono ?_
  rintro e w7 ⟨rfl, g7⟩
  have hz_w7 := g7.size
  replace HE := hid (HE.out.trans g7)
  replace HB_F := hid (HB_F.out.ext g7)
  replace HB_A := hid (HB_A.out.ext g7)
  replace HB_B := hid (HB_B.out.ext g7)
  replace HB_Z := hid (HB_Z.out.ext g7)
  replace HB_M := hid (HB_M.out.ext g7)
  replace HB_X := hid (HB_X.out.ext g7)
  replace HB_Y := hid (HB_Y.out.ext g7)
  replace HB_W := hid (HB_W.out.ext g7)
  replace kX := kX.ext g7
  replace kY := kY.ext g7
  rw [Er.out]
  obtain ⟨c_61, c_62⟩ := HB_F.out.c2
  obtain ⟨c_63, c_64⟩ := HB_A.out.c2
  obtain ⟨c_65, c_66⟩ := HB_B.out.c2
  obtain ⟨c_67, c_68⟩ := HB_Z.out.c2
  obtain ⟨c_69, c_70, c_71, c_72⟩ := HB_M.out.c4
  obtain ⟨c_73, c_74, c_75, c_76, c_77⟩ := HB_X.out.c5
  obtain ⟨c_78, c_79, c_80, c_81, c_82⟩ := HB_Y.out.c5
  obtain ⟨c_83, c_84⟩ := HB_W.out.c2
  obtain ⟨f_85, f_86⟩ := HB_W.out.f2
  obtain ⟨f_87, f_88⟩ := HB_Z.out.f2
  go_wp2_with fail
  clear c_61 c_62 c_63 c_64 c_65 c_66 c_67 c_68 c_69 c_70 c_71 c_72 c_73 c_74 c_75 c_76 c_77 c_78 c_79 c_80 c_81 c_82 c_83 c_84 f_85 f_86 f_87 f_88
  obtain ⟨W8, hW8, g8, q8, B8, hy8, ho8⟩ := sto2 HE.out (by omega) HB_W.out (by decide) (.int .u64 r0) (.int .u64 r1)
  rw [← hW8]
  clear hW8
  replace HE := hid g8
  replace HB_F := hid (ho8 _ _ _ (by omega) HB_F.out)
  replace HB_A := hid (ho8 _ _ _ (by omega) HB_A.out)
  replace HB_B := hid (ho8 _ _ _ (by omega) HB_B.out)
  replace HB_Z := hid (ho8 _ _ _ (by omega) HB_Z.out)
  replace HB_M := hid (ho8 _ _ _ (by omega) HB_M.out)
  replace HB_X := hid (ho8 _ _ _ (by omega) HB_X.out)
  replace HB_Y := hid (ho8 _ _ _ (by omega) HB_Y.out)
  replace HB_W := hid B8
  replace kX := kX.keep q8
  replace kY := kY.keep q8
  obtain ⟨W9, hW9, g9, q9, B9, hy9, ho9⟩ := sto2 HE.out (by omega) HB_Z.out (by decide) (.int .u64 r0) (.int .u64 r1)
  rw [← hW9]
  clear hW9
  replace HE := hid g9
  replace HB_F := hid (ho9 _ _ _ (by omega) HB_F.out)
  replace HB_A := hid (ho9 _ _ _ (by omega) HB_A.out)
  replace HB_B := hid (ho9 _ _ _ (by omega) HB_B.out)
  replace HB_M := hid (ho9 _ _ _ (by omega) HB_M.out)
  replace HB_X := hid (ho9 _ _ _ (by omega) HB_X.out)
  replace HB_Y := hid (ho9 _ _ _ (by omega) HB_Y.out)
  replace HB_W := hid (ho9 _ _ _ (by omega) HB_W.out)
  replace HB_Z := hid B9
  replace kX := kX.keep q9
  replace kY := kY.keep q9
  unfold RoundPost
  obtain ⟨c_89, c_90⟩ := HB_Z.out.c2
  refine bodyPost_ret (v := .tuple #[.agg #[.int .u64 r0, .int .u64 r1], .int .i64 (r.2 : Nat), .int .i64 0]) (by simp [results, Tryz.results93, go_sem, c_89, c_90]) rfl ⟨by rw [Er.out], HE.out⟩
end Go.Proofs.YtopmjkkjlagfcaaGreatDoor
