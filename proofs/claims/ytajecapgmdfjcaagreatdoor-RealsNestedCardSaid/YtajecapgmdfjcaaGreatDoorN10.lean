/- Rational numbers: log, Log. -/
import Derived.Test.YtajecapgmdfjcaaGreatDoorN09
namespace Go.Proofs.YtajecapgmdfjcaaGreatDoor
open Go.RowKit Vn
set_option maxRecDepth 100000 in
set_option maxHeartbeats 8000000 in
theorem log_core (x : Value) (q : Rat) (K : Nat) (k z : Int) (w : World) (hx : NumV w x q) (sx : SmQ K q) (hK : K ≤ 10000000) (HKq : Hid (k = (bl q.num.natAbs : Int) - bl q.den)) (hk0 : -20000000 ≤ k) (hk1 : k ≤ 20000000)
  (Hz : Hid (z = if q.num.natAbs * 2 ^ (max (-k) 0).toNat < q.den * 2 ^ (max k 0).toNat then k - 1 else k)) :
  Calls Tryz.prog 84 #[x] w fun e w' => e = .returned (.int .i64 z) ∧ Ext w w' := by
 obtain ⟨ng, a, n, c, a', n', c', rfl⟩ := hx.shape
 obtain ⟨W0, hW0⟩ : ∃ W0, W0 = w.alloc (.cells #[.bool ng, .slice a n c, .slice a' n' c'] 33) := ⟨_, rfl⟩
 have HE : Hid (Ext w W0) := hid (by rw [hW0]; exact Ext.alloc w _)
 have hBx : Box W0 w.heap.size #[.bool ng, .slice a n c, .slice a' n' c'] 33 := by rw [hW0]; exact Box.new w _ _
 have HS : Hid (∀ w', Ext W0 w' → Tri w.heap.size (.bool ng) (.slice a n c) (.slice a' n' c') w') := hid fun w' h => Tri.of (hBx.ext h)
 have Hx := hid hx
 have hb0 : Ext W0 W0.drew := Below.drew (Below.refl _ W0)
 have HK := hid hK
 have Sx := hid sx
 have H0 := hid hk0
 have H1 := hid hk1
 clear hx hBx hK sx hk0 hk1
 obtain ⟨x0, x1, x2⟩ := HS.out _ (Below.refl _ W0)
 go_enter Tryz.func84, Tryz.ntmps84
 go_wp2_with fail
 rw [← hW0]
 clear hW0
 refine (bottom_c _ q _ (Hx.out.ext HE.out)).mono ?_
 rintro e w1 ⟨a1, n1, c1, rfl, k1, hb1⟩
 clear x0 x1 x2
 obtain ⟨x0, x1, x2⟩ := HS.out _ hb1
 go_wp2_with fail
 refine (bits_c _ q.num.natAbs K _ (Hx.out.p.ext (HE.out.trans hb1)) Sx.out.1 (by have := HK.out; omega)).mono ?_
 rintro e w2 ⟨rfl, g2⟩
 have hb2 := hb1.trans g2
 clear x0 x1 x2
 obtain ⟨x0, x1, x2⟩ := HS.out _ hb2
 go_wp2_with fail
 refine (bits_c _ q.den K _ (k1.ext g2) Sx.out.2 (by have := HK.out; omega)).mono ?_
 rintro e w3 ⟨rfl, g3⟩
 have hb3 := hb2.trans g3
 clear x0 x1 x2
 obtain ⟨x0, x1, x2⟩ := HS.out _ hb3
 have hw : IntKind.i64.wrap ((bl q.num.natAbs : Int) - bl q.den) = k := by rw [← HKq.out, IntKind.wrap_i64]; have := H0.out; have := H1.out; omega
 have hw2 : wrap64 (-k) = -k := (IntWalk.i64_left (-k)).symm.trans (by rw [IntKind.wrap_i64]; have := H0.out; have := H1.out; omega)
 go_wp2_with fail
 refine (shl_c _ q.num.natAbs K _ _ (Hx.out.p.ext (HE.out.trans hb3)) Sx.out.1 (by have := HK.out; omega) (by omega) (by have := H0.out; have := H1.out; omega)).mono ?_
 rintro e w4 ⟨a4, n4, c4, rfl, k4, g4⟩
 have hb4 := hb3.trans g4
 clear x0 x1 x2
 go_wp2_with fail
 refine (shl_c _ q.den K _ _ (k1.ext (g2.trans (g3.trans g4))) Sx.out.2 (by have := HK.out; omega) (by omega) (by have := H0.out; have := H1.out; omega)).mono ?_
 rintro e w5 ⟨a5, n5, c5, rfl, k5, g5⟩
 have hb5 := hb4.trans g5
 go_wp2_with fail
 have e1 : Hid (Sm (K + 20000000) (q.num.natAbs * 2 ^ (max (-k) 0).toNat)) := hid (Sx.out.1.pow.mono (by have := H0.out; have := H1.out; omega))
 have e2 : Hid (Sm (K + 20000000) (q.den * 2 ^ (max k 0).toNat)) := hid (Sx.out.2.pow.mono (by have := H0.out; have := H1.out; omega))
 refine (cmp_c _ _ _ _ (K + 20000000) _ (k4.ext g5) k5 e1.out e2.out (by have := HK.out; omega)).mono ?_
 rintro e w6 ⟨rfl, g6⟩
 have hb6 := hb5.trans g6
 by_cases hl : q.num.natAbs * 2 ^ (max (-k) 0).toNat < q.den * 2 ^ (max k 0).toNat
 ·have hc : decide (cmpN (q.num.natAbs * 2 ^ (max (-k) 0).toNat) (q.den * 2 ^ (max k 0).toNat) < 0) = true := decide_eq_true (cmpN_neg.2 hl)
  have hw3 : wrap64 (k - 1) = k - 1 := (IntWalk.i64_left (k - 1)).symm.trans (by rw [IntKind.wrap_i64]; have := H0.out; have := H1.out; omega)
  have Hz1 : Hid (z = k - 1) := hid (by rw [Hz.out, if_pos hl])
  clear hl
  go_wp2_with fail
  go_ret
  refine ⟨?_, HE.out.trans hb6⟩
  rw [Hz1.out, hw3]; rfl
 ·have hc : decide (cmpN (q.num.natAbs * 2 ^ (max (-k) 0).toNat) (q.den * 2 ^ (max k 0).toNat) < 0) = false := decide_eq_false (fun h => hl (cmpN_neg.1 h))
  have Hz1 : Hid (z = k) := hid (by rw [Hz.out, if_neg hl])
  clear hl
  go_wp2_with fail
  go_ret
  refine ⟨?_, HE.out.trans hb6⟩
  rw [Hz1.out]; rfl
end Go.Proofs.YtajecapgmdfjcaaGreatDoor

/- floats: two, shift, log. -/
namespace Go.Proofs.YtajecapgmdfjcaaGreatDoor
open Go.RowKit Vn
end Go.Proofs.YtajecapgmdfjcaaGreatDoor

/- floats: Check, least, normal, step. -/
namespace Go.Proofs.YtajecapgmdfjcaaGreatDoor
open Go.RowKit Vn
def Fmt (E P : Int) : Prop := 2 ≤ E ∧ E ≤ 11 ∧ 2 ≤ P ∧ P ≤ 113 ∧ 5 ≤ E + P
instance (E P : Int) : Decidable (Fmt E P) := by unfold Fmt; infer_instance
end Go.Proofs.YtajecapgmdfjcaaGreatDoor

/- floats: words. -/
namespace Go.Proofs.YtajecapgmdfjcaaGreatDoor
open Go.RowKit Vn
def Word (n : Nat) : Value := .agg #[.int .u64 ((n / 18446744073709551616 : Nat) : Int), .int .u64 ((n % 18446744073709551616 : Nat) : Int)]
def Duo (x : Nat) (x0 x1 : Value) (w : World) : Prop :=
 w.cell? ⟨x, 0, none⟩ = some x0 ∧ w.cell? ⟨x, 1, none⟩ = some x1
theorem Duo.of {w : World} {x : Nat} {x0 x1 : Value} {t : TypeId} (h : Box w x #[x0, x1] t) : Duo x x0 x1 w := ⟨h.cell 0, h.cell 1⟩
theorem cell_store2 {w : World} {p : Addr} {b : Nat} (h : p.block ≠ b) (x y : Value) : ((w.setCell ⟨b, 0, none⟩ x).setCell ⟨b, 1, none⟩ y).cell? p = w.cell? p := by
 have e : ∀ (w : World) (i : Nat) (x : Value), (w.setCell ⟨b, i, none⟩ x).cell? p = w.cell? p := fun w i x => by
  unfold World.cell?
  rw [Below.heap_setCell _ _ _ _ (show p.block ≠ (⟨b, i, none⟩ : Addr).block from h)]
 rw [e, e]
theorem Duo.store {w : World} {x b : Nat} {x0 x1 : Value} (h : Duo x x0 x1 w) (hx : x ≠ b) (u v : Value) :
  Duo x x0 x1 ((w.setCell ⟨b, 0, none⟩ u).setCell ⟨b, 1, none⟩ v) := by
 unfold Duo at *
 refine ⟨?_, ?_⟩
 ·rw [cell_store2 (by exact hx)]; exact h.1
 ·rw [cell_store2 (by exact hx)]; exact h.2
theorem Box.two {w : World} {b : Nat} {x y : Value} {t : TypeId} (h : Box w b #[x, y] t) :
  w.cell? ⟨b, 0, none⟩ = some x ∧ w.cell? ⟨b, 1, none⟩ = some y ∧ w.frozen? ⟨b, 0, none⟩ = false ∧ w.frozen? ⟨b, 1, none⟩ = false :=
 ⟨h.cell 0, h.cell 1, h.free 0, h.free 1⟩
end Go.Proofs.YtajecapgmdfjcaaGreatDoor

/- floats: words, shl. -/
namespace Go.Proofs.YtajecapgmdfjcaaGreatDoor
open Go.RowKit Vn
end Go.Proofs.YtajecapgmdfjcaaGreatDoor

/- floats: words, both, low. -/
namespace Go.Proofs.YtajecapgmdfjcaaGreatDoor
open Go.RowKit Vn
theorem Word.shape (n : Nat) : ∃ h l : Nat, Word n = .agg #[.int .u64 h, .int .u64 l] := ⟨_, _, rfl⟩
end Go.Proofs.YtajecapgmdfjcaaGreatDoor

/- floats: sign. -/
namespace Go.Proofs.YtajecapgmdfjcaaGreatDoor
open Go.RowKit Vn
end Go.Proofs.YtajecapgmdfjcaaGreatDoor

/- floats: infinite. -/
namespace Go.Proofs.YtajecapgmdfjcaaGreatDoor
open Go.RowKit Vn
def Quad (x : Nat) (x0 x1 x2 x3 : Value) (w : World) : Prop :=
 w.cell? ⟨x, 0, none⟩ = some x0 ∧ w.cell? ⟨x, 1, none⟩ = some x1 ∧ w.cell? ⟨x, 2, none⟩ = some x2 ∧ w.cell? ⟨x, 3, none⟩ = some x3
theorem Quad.of {w : World} {x : Nat} {x0 x1 x2 x3 : Value} {t : TypeId} (h : Box w x #[x0, x1, x2, x3] t) : Quad x x0 x1 x2 x3 w := ⟨h.cell 0, h.cell 1, h.cell 2, h.cell 3⟩
theorem Quad.store3 {w : World} {x b : Nat} {x0 x1 x2 x3 : Value} (h : Quad x x0 x1 x2 x3 w) (hx : x ≠ b) (u v z : Value) :
  Quad x x0 x1 x2 x3 (((w.setCell ⟨b, 0, none⟩ u).setCell ⟨b, 1, none⟩ v).setCell ⟨b, 2, none⟩ z) := by
 unfold Quad at *
 refine ⟨?_, ?_, ?_, ?_⟩ <;> rw [cell_store3 (by exact hx)]
 ·exact h.1
 ·exact h.2.1
 ·exact h.2.2.1
 ·exact h.2.2.2
end Go.Proofs.YtajecapgmdfjcaaGreatDoor

/- floats: nan, zero, invalid. -/
namespace Go.Proofs.YtajecapgmdfjcaaGreatDoor
open Go.RowKit Vn
end Go.Proofs.YtajecapgmdfjcaaGreatDoor

/- floats: size. -/
namespace Go.Proofs.YtajecapgmdfjcaaGreatDoor
open Go.RowKit Vn
end Go.Proofs.YtajecapgmdfjcaaGreatDoor

/- floats: whole. -/
namespace Go.Proofs.YtajecapgmdfjcaaGreatDoor
open Go.RowKit Vn
end Go.Proofs.YtajecapgmdfjcaaGreatDoor

/- floats: whole of a word. -/
namespace Go.Proofs.YtajecapgmdfjcaaGreatDoor
open Go.RowKit Vn
theorem Duo.store3 {w : World} {x b : Nat} {x0 x1 : Value} (h : Duo x x0 x1 w) (hx : x ≠ b) (u v z : Value) :
  Duo x x0 x1 (((w.setCell ⟨b, 0, none⟩ u).setCell ⟨b, 1, none⟩ v).setCell ⟨b, 2, none⟩ z) := by
 unfold Duo at *
 refine ⟨?_, ?_⟩ <;> rw [cell_store3 (by exact hx)]
 ·exact h.1
 ·exact h.2
end Go.Proofs.YtajecapgmdfjcaaGreatDoor

/- floats: greatest, step. -/
namespace Go.Proofs.YtajecapgmdfjcaaGreatDoor
open Go.RowKit Vn
theorem SmQ.p2 {K : Nat} {k : Nat} (h : k < K) : SmQ K ((2 : Rat) ^ (k : Int)) := by
 rw [p2_nat]
 exact SmQ.int (n := ((2 ^ k : Nat) : Int)) (by omega) (by rw [Int.natAbs_natCast]; exact Nat.pow_lt_pow_right (by decide) h)
end Go.Proofs.YtajecapgmdfjcaaGreatDoor

/- floats: step. -/
namespace Go.Proofs.YtajecapgmdfjcaaGreatDoor
open Go.RowKit Vn
end Go.Proofs.YtajecapgmdfjcaaGreatDoor

/- What the walks over boxes share: new boxes, stores, what goes on from world to world. -/
namespace Go.Proofs.YtajecapgmdfjcaaGreatDoor
open Go.RowKit Vn
theorem pro1 (w : World) (c1 : Array Value) (t1 : TypeId) : ∃ W0, W0 = w.alloc (.cells c1 t1) ∧ Ext w W0 ∧ w.heap.size + 1 ≤ W0.heap.size ∧ Box W0 w.heap.size c1 t1 :=
 ⟨_, rfl, Ext.alloc w _, by simp, Box.new w _ _⟩
def putCells (w : World) (b : Nat) : Nat → List Value → World
 | _, [] => w
 | i, v :: l => putCells (w.setCell ⟨b, i, none⟩ v) b (i + 1) l
def putArr (cs : Array Value) : Nat → List Value → Array Value
 | _, [] => cs
 | i, v :: l => putArr (cs.setIfInBounds i v) (i + 1) l
theorem Box.other {w : World} {b b' : Nat} {cs : Array Value} {t : TypeId} (h : Box w b cs t) (hne : b ≠ b') (i : Nat) (x : Value) : Box (w.setCell ⟨b', i, none⟩ x) b cs t := by
 unfold Box at *
 rw [Below.heap_setCell _ _ _ _ (show b ≠ (⟨b', i, none⟩ : Addr).block from hne)]; exact h
theorem putCells_law (w : World) : ∀ (l : List Value) (i : Nat) (wk : World) (b : Nat) (cs : Array Value) (t : TypeId), Ext w wk → w.heap.size ≤ b → Box wk b cs t → t ≠ 100 →
  Ext w (putCells wk b i l) ∧ Keep wk (putCells wk b i l) ∧ Box (putCells wk b i l) b (putArr cs i l) t ∧ wk.heap.size ≤ (putCells wk b i l).heap.size ∧
   ∀ b' cs' t', b' ≠ b → Box wk b' cs' t' → Box (putCells wk b i l) b' cs' t'
 | [], i, wk, b, cs, t, hE, hle, hB, ht => ⟨hE, fun _ _ h => h, hB, Nat.le_refl _, fun _ _ _ _ h => h⟩
 | v :: l, i, wk, b, cs, t, hE, hle, hB, ht => by
  obtain ⟨h1, h2, h3, h4, h5⟩ := putCells_law w l (i + 1) (wk.setCell ⟨b, i, none⟩ v) b _ t (hE.setCell (p := ⟨b, i, none⟩) hle v) hle (hB.set i v) ht
  exact ⟨h1, (Keep.setCell (p := ⟨b, i, none⟩) hB ht v).trans h2, h3, Nat.le_trans (by simp [World.setCell]) h4, fun b' cs' t' hne h => h5 b' cs' t' hne (h.other hne i v)⟩
def Stored (w wk W1 : World) (b : Nat) (cs : Array Value) (t : TypeId) : Prop :=
 Ext w W1 ∧ Keep wk W1 ∧ Box W1 b cs t ∧ wk.heap.size ≤ W1.heap.size ∧ ∀ b' cs' t', b' ≠ b → Box wk b' cs' t' → Box W1 b' cs' t'
theorem sto3 {w wk : World} {b : Nat} {x y z : Value} {t : TypeId} (hE : Ext w wk) (hle : w.heap.size ≤ b) (hB : Box wk b #[x, y, z] t) (ht : t ≠ 100) (x' y' z' : Value) :
  ∃ W1, W1 = ((wk.setCell ⟨b, 0, none⟩ x').setCell ⟨b, 1, none⟩ y').setCell ⟨b, 2, none⟩ z' ∧ Stored w wk W1 b #[x', y', z'] t := ⟨_, rfl, putCells_law w [x', y', z'] 0 wk b _ t hE hle hB ht⟩
theorem Box.c1 {w : World} {b : Nat} {x0 : Value} {t : TypeId} (h : Box w b #[x0] t) : w.cell? ⟨b, 0, none⟩ = some x0 := h.cell 0
theorem Box.c2 {w : World} {b : Nat} {x0 x1 : Value} {t : TypeId} (h : Box w b #[x0, x1] t) : w.cell? ⟨b, 0, none⟩ = some x0 ∧ w.cell? ⟨b, 1, none⟩ = some x1 := ⟨h.cell 0, h.cell 1⟩
theorem Box.c3 {w : World} {b : Nat} {x0 x1 x2 : Value} {t : TypeId} (h : Box w b #[x0, x1, x2] t) : w.cell? ⟨b, 0, none⟩ = some x0 ∧ w.cell? ⟨b, 1, none⟩ = some x1 ∧ w.cell? ⟨b, 2, none⟩ = some x2 := ⟨h.cell 0, h.cell 1, h.cell 2⟩
theorem Box.c4 {w : World} {b : Nat} {x0 x1 x2 x3 : Value} {t : TypeId} (h : Box w b #[x0, x1, x2, x3] t) : w.cell? ⟨b, 0, none⟩ = some x0 ∧ w.cell? ⟨b, 1, none⟩ = some x1 ∧ w.cell? ⟨b, 2, none⟩ = some x2 ∧ w.cell? ⟨b, 3, none⟩ = some x3 := ⟨h.cell 0, h.cell 1, h.cell 2, h.cell 3⟩
theorem Box.c5 {w : World} {b : Nat} {x0 x1 x2 x3 x4 : Value} {t : TypeId} (h : Box w b #[x0, x1, x2, x3, x4] t) : w.cell? ⟨b, 0, none⟩ = some x0 ∧ w.cell? ⟨b, 1, none⟩ = some x1 ∧ w.cell? ⟨b, 2, none⟩ = some x2 ∧ w.cell? ⟨b, 3, none⟩ = some x3 ∧ w.cell? ⟨b, 4, none⟩ = some x4 := ⟨h.cell 0, h.cell 1, h.cell 2, h.cell 3, h.cell 4⟩
theorem Box.fr {w : World} {b : Nat} {cs : Array Value} {t : TypeId} (h : Box w b cs t) : ∀ i, w.frozen? ⟨b, i, none⟩ = false := fun i => h.free i
theorem Box.f1 {w : World} {b : Nat} {cs : Array Value} {t : TypeId} (h : Box w b cs t) : w.frozen? ⟨b, 0, none⟩ = false := h.free 0
theorem Box.f2 {w : World} {b : Nat} {cs : Array Value} {t : TypeId} (h : Box w b cs t) : w.frozen? ⟨b, 0, none⟩ = false ∧ w.frozen? ⟨b, 1, none⟩ = false := ⟨h.free 0, h.free 1⟩
theorem Box.f3 {w : World} {b : Nat} {cs : Array Value} {t : TypeId} (h : Box w b cs t) : w.frozen? ⟨b, 0, none⟩ = false ∧ w.frozen? ⟨b, 1, none⟩ = false ∧ w.frozen? ⟨b, 2, none⟩ = false := ⟨h.free 0, h.free 1, h.free 2⟩
theorem Box.f4 {w : World} {b : Nat} {cs : Array Value} {t : TypeId} (h : Box w b cs t) : w.frozen? ⟨b, 0, none⟩ = false ∧ w.frozen? ⟨b, 1, none⟩ = false ∧ w.frozen? ⟨b, 2, none⟩ = false ∧ w.frozen? ⟨b, 3, none⟩ = false := ⟨h.free 0, h.free 1, h.free 2, h.free 3⟩
theorem Box.f5 {w : World} {b : Nat} {cs : Array Value} {t : TypeId} (h : Box w b cs t) : w.frozen? ⟨b, 0, none⟩ = false ∧ w.frozen? ⟨b, 1, none⟩ = false ∧ w.frozen? ⟨b, 2, none⟩ = false ∧ w.frozen? ⟨b, 3, none⟩ = false ∧ w.frozen? ⟨b, 4, none⟩ = false := ⟨h.free 0, h.free 1, h.free 2, h.free 3, h.free 4⟩
theorem Num.sh {w : World} {v : Value} {q : Rat} (h : NumV w v q) : ∃ x0 x1 x2, v = .agg #[x0, x1, x2] := by
 obtain ⟨ng, a, n, c, a', n', c', rfl⟩ := h.shape; exact ⟨_, _, _, rfl⟩
theorem Ext.undrew {a w : World} (h : Ext a.drew w) : Ext a w := Ext.trans (Below.drew (Below.refl _ a)) h
end Go.Proofs.YtajecapgmdfjcaaGreatDoor

/- exact: Int64 of a number that is not below 0. -/
namespace Go.Proofs.YtajecapgmdfjcaaGreatDoor
open Go.RowKit Vn
theorem SlAt.at {T : TypeId} {k : IntKind} {w : World} {a : Option Addr} {b off n cap : Nat} {l : List Nat} (h : SlAt T k w (.slice a n cap) l) (ha : 0 < n → a = some ⟨b, off, none⟩) (i : Nat) (hi : i < l.length) :
  w.cell? ⟨b, off + i, none⟩ = some (.int k (l.getD i 0 : Nat)) := by
 obtain ⟨a', b', off', cap', h1, h2, h3, h4, h5⟩ := h.open
 obtain ⟨rfl, rfl, rfl⟩ : a = a' ∧ n = l.length ∧ cap = cap' := by simpa using h1
 have e1 := ha (by omega)
 have e2 := h4 (by omega)
 rw [e1] at e2
 obtain ⟨rfl, rfl⟩ : b = b' ∧ off = off' := by simpa using e2
 exact h5 i hi
end Go.Proofs.YtajecapgmdfjcaaGreatDoor

/- Natural numbers in words of 32 bits: root returns the square root, rounded down. -/
namespace Go.Proofs.YtajecapgmdfjcaaGreatDoor
open Go.RowKit Vn
theorem bl_half {M : Nat} (_h : 0 < M) : M < (2 ^ ((bl M + 1) / 2) + 1) * (2 ^ ((bl M + 1) / 2) + 1) := by
 have h1 := bl_lt M
 have h2 : 2 ^ bl M ≤ 2 ^ ((bl M + 1) / 2) * 2 ^ ((bl M + 1) / 2) := by
  rw [← Nat.pow_add]; exact Nat.pow_le_pow_right (by decide) (by omega)
 generalize 2 ^ ((bl M + 1) / 2) = z at *
 have : (z + 1) * (z + 1) = z * z + 2 * z + 1 := by grind
 omega
set_option maxHeartbeats 1000000 in
theorem root_c (x : Value) (M K : Nat) (w : World) (hx : NatV w x M) (sx : Sm K M) (hK : K ≤ 40000000) (hM : 0 < M) :
  Calls Tryz.prog 175 #[x] w fun e w' => ∃ a k c s, e = .returned (.slice a k c) ∧ NatV w' (.slice a k c) s ∧ IsRoot M s ∧ Ext w w' := by
 obtain ⟨ax, nx, cx, rfl⟩ := hx.shape
 have Hx := hid hx
 have Sx := hid sx
 have hbl : bl M ≤ K := bl_le_of_lt sx
 clear hx sx
 go_enter Tryz.func175, Tryz.ntmps175
 go_wp2_with fail
 refine (of_c _ _ (by omega) (by omega)).mono ?_
 rintro e w1 ⟨a1, n1, c1, rfl, h1, hb1⟩
 have H1 := hid h1
 have Hb1 := hid hb1
 clear h1 hb1
 go_wp2_with fail
 refine (bits_c _ M K _ (Hx.out.ext Hb1.out) Sx.out (by omega)).mono ?_
 rintro e w2 ⟨rfl, hb2⟩
 have Hb2 := hid hb2
 obtain ⟨z, hz⟩ : ∃ z, z = bl M := ⟨_, rfl⟩
 rw [← hz] at hbl ⊢
 have Hz := hid hz
 clear hz hb2
 go_wp2_with fail
 refine (shl_c _ 1 1 _ _ (H1.out.ext Hb2.out) (by show 1 < 2 ^ 1; decide) (by omega) (by omega) (by omega)).mono ?_
 rintro e w3 ⟨a3, n3, c3, rfl, h3, hb3⟩
 have e1 : (((z : Int) + 1) / 2).toNat = (z + 1) / 2 := by omega
 rw [e1, Nat.one_mul] at h3
 have H3 := hid h3
 have Hb3 := hid hb3
 clear h3 hb3 e1
 have HE := hid (Hb1.out.trans (Hb2.out.trans Hb3.out))
 go_wp2_with fail
 go_loopg [3] (2 ^ ((z + 1) / 2)) (fun k p wr => ∃ a n c, p = .slice a n c ∧ Hid (NatV wr p k) ∧ Hid (Sm (K + 1) k) ∧ Hid (M < (k + 1) * (k + 1)) ∧ Hid (Ext w wr))
 case atStart =>
  refine ⟨a3, n3, c3, rfl, H3, hid ?_, hid ?_, HE⟩
  ·exact Nat.pow_lt_pow_right (by decide) (by omega)
  ·rw [Hz.out]; exact bl_half hM
 case round =>
  obtain ⟨a4, n4, c4, rfl, H4, S4, HM4, HE4⟩ := hrel
  have hk0 : 0 < gk := by
   rcases Nat.eq_zero_or_pos gk with h | h
   ·have := HM4.out; rw [h] at this; simp at this; omega
   ·exact h
  go_wp2_with fail
  refine (div_c _ _ M gk (K + 1) _ (Hx.out.ext HE4.out) H4.out (Sx.out.mono (by omega)) S4.out (by omega) hk0).mono ?_
  rintro e w5 ⟨a5, n5, c5, a6, n6, c6, rfl, h5, h6, hb5⟩
  have H5 := hid h5
  have Hb5 := hid hb5
  clear h5 h6 hb5
  go_wp2_with fail
  refine (add_c _ _ gk (M / gk) (K + 1) _ (H4.out.ext Hb5.out) H5.out S4.out ((Sx.out.mono (by omega)).of_le (Nat.div_le_self _ _)) (by omega)).mono ?_
  rintro e w7 ⟨a7, n7, c7, rfl, h7, hb7⟩
  have H7 := hid h7
  have Hb7 := hid hb7
  clear h7 hb7
  have S7 : Hid (Sm (K + 2) (gk + M / gk)) := by
   have a1 := S4.out
   have a2 : M / gk < 2 ^ (K + 1) := (Sx.out.mono (by omega)).of_le (Nat.div_le_self _ _)
   refine hid ?_
   show _ < 2 ^ (K + 2)
   rw [Nat.pow_succ]
   unfold Sm at a1
   omega
  go_wp2_with fail
  refine (shr_c _ _ (K + 2) _ _ H7.out S7.out (by omega) (by omega) (by omega)).mono ?_
  rintro e w8 ⟨a8, n8, c8, rfl, h8, hb8⟩
  have H8 : Hid (NatV w8 (.slice a8 n8 c8) ((gk + M / gk) / 2)) := hid (by simpa using h8)
  have Hb8 := hid hb8
  clear h8 hb8
  have S8 : Hid (Sm (K + 1) ((gk + M / gk) / 2)) := by
   have := S7.out
   refine hid ?_
   unfold Sm at *
   rw [Nat.pow_succ] at this
   omega
  have HE8 := hid (HE4.out.trans (Hb5.out.trans (Hb7.out.trans Hb8.out)))
  have H48 := hid (H4.out.ext (Hb5.out.trans (Hb7.out.trans Hb8.out)))
  rcases Nat.lt_or_ge ((gk + M / gk) / 2) gk with hlt | hge
  ·have hd : decide ((0 : Int) ≤ cmpN ((gk + M / gk) / 2) gk) = false := by rw [cmpN_lt hlt]; rfl
   have Hlt := hid hlt
   clear hlt
   go_wp2_with fail
   refine (cmp_c _ _ _ _ (K + 1) _ H8.out H48.out S8.out S4.out (by omega)).mono ?_
   rintro e w9 ⟨rfl, hb9⟩
   have Hb9 := hid hb9
   clear hb9
   go_wp2_with fail
   go_roundg ((gk + M / gk) / 2)
   case measure => exact Hlt.out
   case rel => exact ⟨a8, n8, c8, rfl, hid (H8.out.ext Hb9.out), S8, hid (heron_ge hk0 rfl), hid (HE8.out.trans Hb9.out)⟩
  ·have hd : decide ((0 : Int) ≤ cmpN ((gk + M / gk) / 2) gk) = true := by
    rcases Nat.eq_or_lt_of_le hge with h | h
    ·rw [cmpN_eq h.symm]; rfl
    ·rw [cmpN_gt h]; rfl
   have Hge := hid hge
   clear hge
   go_wp2_with fail
   refine (cmp_c _ _ _ _ (K + 1) _ H8.out H48.out S8.out S4.out (by omega)).mono ?_
   rintro e w9 ⟨rfl, hb9⟩
   have Hb9 := hid hb9
   clear hb9
   go_wp2_with fail
   go_ret
   exact ⟨a4, n4, c4, gk, rfl, H48.out.ext Hb9.out, ⟨heron_done rfl Hge.out, HM4.out⟩, HE8.out.trans Hb9.out⟩
end Go.Proofs.YtajecapgmdfjcaaGreatDoor

/- floats: packed. -/
namespace Go.Proofs.YtajecapgmdfjcaaGreatDoor
open Go.RowKit Vn
theorem SmQ.nat {K n : Nat} (hK : 0 < K) (h : n < 2 ^ K) : SmQ K ((n : Nat) : Rat) := SmQ.int (n := (n : Int)) hK (by omega)
theorem SmQ.mul_p2 {K : Nat} {q : Rat} (k : Int) (L : Nat) (h : SmQ K q) (hk : k.natAbs < L) : SmQ (K + L) (q * (2 : Rat) ^ k) := by
 have hq := mkq_self q
 have hn : (2 : Nat) ^ k.natAbs ≤ 2 ^ L := Nat.pow_le_pow_right (by decide) (by omega)
 have b1 : q.num.natAbs * 2 ^ k.natAbs < 2 ^ (K + L) := by
  rw [Nat.pow_add]; exact Nat.mul_lt_mul_of_lt_of_le h.1 hn (Nat.pow_pos (by decide))
 have b2 : q.den * 2 ^ k.natAbs < 2 ^ (K + L) := by
  rw [Nat.pow_add]; exact Nat.mul_lt_mul_of_lt_of_le h.2 hn (Nat.pow_pos (by decide))
 have c1 : q.num.natAbs < 2 ^ (K + L) := Nat.lt_of_lt_of_le h.1 (Nat.pow_le_pow_right (by decide) (by omega))
 have c2 : q.den < 2 ^ (K + L) := Nat.lt_of_lt_of_le h.2 (Nat.pow_le_pow_right (by decide) (by omega))
 have hd : q.den ≠ 0 := q.den_nz
 rcases Int.le_total 0 k with hk0 | hk0
 ·have e : q * (2 : Rat) ^ k = mkq (decide (q.num < 0)) (q.num.natAbs * 2 ^ k.natAbs) q.den := by
   rw [shift_up, hq]; congr 2; omega
  rw [e]
  unfold SmQ Sm
  rw [mkq_natAbs _ _ _ hd, mkq_den _ _ _ hd]
  exact ⟨Nat.lt_of_le_of_lt (Nat.div_le_self _ _) b1, Nat.lt_of_le_of_lt (Nat.div_le_self _ _) c2⟩
 ·have e : q * (2 : Rat) ^ k = mkq (decide (q.num < 0)) q.num.natAbs (q.den * 2 ^ k.natAbs) := by
   rw [shift_down _ _ _ _ hd, hq]; congr 2; omega
  have hd2 : q.den * 2 ^ k.natAbs ≠ 0 := Nat.mul_ne_zero hd (Nat.ne_of_gt (Nat.pow_pos (by decide)))
  rw [e]
  unfold SmQ Sm
  rw [mkq_natAbs _ _ _ hd2, mkq_den _ _ _ hd2]
  exact ⟨Nat.lt_of_le_of_lt (Nat.div_le_self _ _) c1, Nat.lt_of_le_of_lt (Nat.div_le_self _ _) b2⟩
end Go.Proofs.YtajecapgmdfjcaaGreatDoor

/- Plain: the size of a number. -/
namespace Go.Proofs.YtajecapgmdfjcaaGreatDoor
open Go.RowKit Vn
def absQ (q : Rat) : Rat := mkq false q.num.natAbs q.den
theorem absQ_eq (q : Rat) : absQ q = if q.num < 0 then -q else q := neg_num_abs q
theorem num_neg_iff {q : Rat} : q.num < 0 ↔ q < 0 := by
 rw [← Rat.not_le, ← Rat.num_nonneg]; omega
theorem absQ_pos {q : Rat} (h : q.num ≠ 0) : 0 < absQ q := by
 rw [absQ_eq]
 have hq : q ≠ 0 := fun e => h (by rw [e]; rfl)
 split
 ·rename_i h2
  have := num_neg_iff.1 h2
  grind
 ·rename_i h2
  have : 0 ≤ q := Rat.num_nonneg.1 (by omega)
  grind
theorem absQ_num_pos {q : Rat} (h : q.num ≠ 0) : 0 < (absQ q).num := by
 have h1 := absQ_pos h
 have h2 : 0 ≤ (absQ q).num := Rat.num_nonneg.2 (Rat.le_of_lt h1)
 rcases Int.lt_or_le 0 (absQ q).num with h3 | h3
 ·exact h3
 ·have : absQ q = 0 := Rat.num_eq_zero.1 (by omega)
  rw [this] at h1; exact absurd h1 (Rat.lt_irrefl)
theorem SmQ.absQ {K : Nat} {q : Rat} (h : SmQ K q) : SmQ K (absQ q) := by
 rw [absQ_eq]; split
 ·exact h.neg
 ·exact h
theorem IsLog.bound {K : Nat} {q : Rat} {l : Int} (h : IsLog q l) (s : SmQ K q) : -(K : Int) - 1 ≤ l ∧ l ≤ K := by
 have hp : 0 < q.num := by
  have h1 := h.pos
  have h2 : 0 ≤ q.num := Rat.num_nonneg.2 (Rat.le_of_lt h1)
  rcases Int.lt_or_le 0 q.num with h3 | h3
  ·exact h3
  ·have : q = 0 := Rat.num_eq_zero.1 (by omega)
   rw [this] at h1; exact absurd h1 (Rat.lt_irrefl)
 have hd := den_pos q
 constructor
 ·have h1 : (2 : Rat) ^ (((0 : Nat) : Int) - (K : Nat)) ≤ q := (p2_le hp 0 K).2 (by
   have := s.2; unfold Sm at this
   have e : 1 * 2 ^ K ≤ q.num.natAbs * 2 ^ K := Nat.mul_le_mul_right _ (by omega)
   omega)
  have h2 : (2 : Rat) ^ (((0 : Nat) : Int) - (K : Nat)) < (2 : Rat) ^ (l + 1) := by have := h.2; grind
  rw [p2_lt_iff] at h2
  omega
 ·have h1 : q < (2 : Rat) ^ (((K : Nat) : Int) - (0 : Nat)) := (lt_p2 hp K 0).2 (by
   have := s.1; unfold Sm at this
   have e : 1 * 2 ^ K ≤ q.den * 2 ^ K := Nat.mul_le_mul_right _ (by omega)
   omega)
  have h2 : (2 : Rat) ^ l < (2 : Rat) ^ (((K : Nat) : Int) - (0 : Nat)) := by have := h.1; grind
  rw [p2_lt_iff] at h2
  omega
theorem SmQ.mk {K : Nat} (n : Int) (d : Nat) (hd : d ≠ 0) (h1 : n.natAbs < 2 ^ K) (h2 : d < 2 ^ K) : SmQ K (mkRat n d) := by
 have e : mkRat n d = mkq (decide (n < 0)) n.natAbs d := by
  unfold mkq sg
  by_cases h : n < 0
  ·simp only [h, decide_true, if_true]; congr 1; omega
  ·simp only [h, decide_false]; congr 1; simp; omega
 rw [e]
 unfold SmQ Sm
 rw [mkq_natAbs _ _ _ hd, mkq_den _ _ _ hd]
 exact ⟨Nat.lt_of_le_of_lt (Nat.div_le_self _ _) h1, Nat.lt_of_le_of_lt (Nat.div_le_self _ _) h2⟩
theorem SmQ.add {K L : Nat} {q r : Rat} (h : SmQ K q) (k : SmQ L r) : SmQ (K + L + 1) (q + r) := by
 rw [Rat.add_def']
 have e : (2 : Nat) ^ (K + L + 1) = 2 ^ K * 2 ^ L * 2 := by rw [Nat.pow_succ, Nat.pow_add]
 have a1 : q.num.natAbs * r.den < 2 ^ K * 2 ^ L := Nat.mul_lt_mul_of_lt_of_le h.1 (Nat.le_of_lt k.2) (Nat.pow_pos (by decide))
 have a2 : r.num.natAbs * q.den < 2 ^ L * 2 ^ K := Nat.mul_lt_mul_of_lt_of_le k.1 (Nat.le_of_lt h.2) (Nat.pow_pos (by decide))
 have a3 : q.den * r.den < 2 ^ K * 2 ^ L := Nat.mul_lt_mul_of_lt_of_le h.2 (Nat.le_of_lt k.2) (Nat.pow_pos (by decide))
 rw [Nat.mul_comm (2 ^ L)] at a2
 refine SmQ.mk _ _ (Nat.mul_ne_zero q.den_nz r.den_nz) ?_ (by rw [e]; omega)
 have b1 : (q.num * (r.den : Int)).natAbs = q.num.natAbs * r.den := by rw [Int.natAbs_mul]; simp
 have b2 : (r.num * (q.den : Int)).natAbs = r.num.natAbs * q.den := by rw [Int.natAbs_mul]; simp
 have b3 := Int.natAbs_add_le (q.num * (r.den : Int)) (r.num * (q.den : Int))
 rw [e]
 omega
theorem SmQ.sub {K L : Nat} {q r : Rat} (h : SmQ K q) (k : SmQ L r) : SmQ (K + L + 1) (q - r) := by
 rw [Rat.sub_eq_add_neg]; exact h.add k.neg
theorem SmQ.zero (K : Nat) (h : 0 < K) : SmQ K 0 := SmQ.nat (n := 0) h (Nat.pow_pos (by decide))
theorem SmQ.mul {K L : Nat} {q r : Rat} (h : SmQ K q) (k : SmQ L r) : SmQ (K + L) (q * r) := by
 have e1 : q.num.natAbs * r.num.natAbs < 2 ^ (K + L) := by
  rw [Nat.pow_add]; exact Nat.mul_lt_mul_of_lt_of_le h.1 (Nat.le_of_lt k.1) (Nat.pow_pos (by decide))
 have e2 : q.den * r.den < 2 ^ (K + L) := by
  rw [Nat.pow_add]; exact Nat.mul_lt_mul_of_lt_of_le h.2 (Nat.le_of_lt k.2) (Nat.pow_pos (by decide))
 rw [Rat.mul_def']
 exact SmQ.mk _ _ (Nat.mul_ne_zero q.den_nz r.den_nz) (by rw [Int.natAbs_mul]; exact e1) e2
theorem SmQ.pos {K : Nat} {q : Rat} (h : SmQ K q) : 0 < K := by
 rcases Nat.eq_zero_or_pos K with e | e
 ·subst e
  have h1 : q.den < 2 ^ 0 := h.2
  have := q.den_pos
  omega
 ·exact e
theorem SmQ.floor {K : Nat} {q : Rat} (h : SmQ K q) : SmQ K ((q.floor : Int) : Rat) := by
 refine SmQ.int h.pos ?_
 rw [Rat.floor_def]
 exact Nat.lt_of_le_of_lt (Int.natAbs_ediv_le_natAbs _ _) h.1
theorem cmpQ_self (q : Rat) : cmpQ q q = 0 := by
 have : ¬ q < q := Rat.lt_irrefl
 simp [cmpQ, this]
end Go.Proofs.YtajecapgmdfjcaaGreatDoor

/- exact: the logarithm of the size of a number that is not 0. -/
namespace Go.Proofs.YtajecapgmdfjcaaGreatDoor
open Go.RowKit Vn
theorem absQ_parts (q : Rat) : (absQ q).num.natAbs = q.num.natAbs ∧ (absQ q).den = q.den := by
 rw [absQ_eq]; split
 ·simp [Rat.neg_num, Rat.neg_den]
 ·exact ⟨rfl, rfl⟩
theorem logA_c (x : Value) (q : Rat) (K : Nat) (w : World) (hx : NumV w x q) (sx : SmQ K q) (hK : K ≤ 10000000) (h : q.num ≠ 0) :
  Calls Tryz.prog 84 #[x] w fun e w' => ∃ k, e = .returned (.int .i64 k) ∧ IsLog (absQ q) k ∧ Ext w w' := by
 have h1 : bl q.num.natAbs ≤ K := bl_le_of_lt sx.1
 have h2 : bl q.den ≤ K := bl_le_of_lt sx.2
 refine (log_core x q K _ _ w hx sx hK (hid rfl) (by omega) (by omega) (hid rfl)).mono ?_
 rintro e w' ⟨rfl, g⟩
 obtain ⟨e1, e2⟩ := absQ_parts q
 have hl := log_is (absQ_num_pos h) _ rfl
 rw [e1, e2] at hl
 exact ⟨_, rfl, hl, g⟩
end Go.Proofs.YtajecapgmdfjcaaGreatDoor
