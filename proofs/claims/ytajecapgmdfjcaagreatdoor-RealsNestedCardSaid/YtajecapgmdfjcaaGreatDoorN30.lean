/- The reference's numbers in memory: how a value reads as one; what stays when cells of other types are stored. -/
import Derived.Test.YtajecapgmdfjcaaGreatDoorN29
import Derived.Test.YtajecapgmdfjcaaGreatDoorN10
namespace Go.Proofs.YtajecapgmdfjcaaGreatDoor
open Go.RowKit Vn
def RNumV (w : World) (v : Value) (q : Rat) : Prop := ∃ (a : Option Addr) (n c : Nat) (a' : Option Addr) (n' c' : Nat), v = .agg #[.int .i64 q.num.sign, .slice a n c, .slice a' n' c'] ∧
 RefV w (.slice a n c) q.num.natAbs ∧ RefV w (.slice a' n' c') (if q = 0 then 0 else q.den)
def KeepR (w w' : World) : Prop := Keep w w' ∧ ∀ v l, SlAt 2 .i64 w v l → SlAt 2 .i64 w' v l
theorem KeepR.of_ext {w w' : World} (h : Ext w w') : KeepR w w' := ⟨Keep.of_ext h, fun _ _ k => k.ext h⟩
theorem KeepR.trans {a b c : World} (h : KeepR a b) (k : KeepR b c) : KeepR a c := ⟨h.1.trans k.1, fun v l x => k.2 v l (h.2 v l x)⟩
theorem KeepR.setCell {w : World} {p : Addr} {c : Array Value} {U : TypeId} {fr : Nat × Nat} (hp : w.heap[p.block]? = some (.cells c U fr)) (hU : U ≠ 100) (hV : U ≠ 2) (x : Value) : KeepR w (w.setCell p x) :=
 ⟨Keep.setCell hp hU x, fun _ _ k => k.setCell hp hV x⟩
theorem RefV.keepR {w w' : World} {v : Value} {n : Nat} (h : RefV w v n) (k : KeepR w w') : RefV w' v n := by
 obtain ⟨l, h1, h2, h3⟩ := h; exact ⟨l, h1, h2, k.2 _ _ h3⟩
theorem RNumV.keepR {w w' : World} {v : Value} {q : Rat} (h : RNumV w v q) (k : KeepR w w') : RNumV w' v q := by
 obtain ⟨a, n, c, a', n', c', h1, h2, h3⟩ := h
 exact ⟨a, n, c, a', n', c', h1, h2.keepR k, h3.keepR k⟩
theorem RNumV.ext {w w' : World} {v : Value} {q : Rat} (h : RNumV w v q) (k : Ext w w') : RNumV w' v q := h.keepR (KeepR.of_ext k)
theorem NumV.keepR {w w' : World} {v : Value} {q : Rat} (h : NumV w v q) (k : KeepR w w') : NumV w' v q := h.keep k.1
theorem NatV.keepR {w w' : World} {v : Value} {n : Nat} (h : NatV w v n) (k : KeepR w w') : NatV w' v n := h.keep k.1
theorem RNumV.shape {w : World} {v : Value} {q : Rat} (h : RNumV w v q) : ∃ (s : Int) (a : Option Addr) (n c : Nat) (a' : Option Addr) (n' c' : Nat), v = .agg #[.int .i64 s, .slice a n c, .slice a' n' c'] := by
 obtain ⟨a, n, c, a', n', c', h1, _, _⟩ := h; exact ⟨_, a, n, c, a', n', c', h1⟩
theorem RNumV.sign {w : World} {s : Int} {x y : Value} {q : Rat} (h : RNumV w (.agg #[.int .i64 s, x, y]) q) : s = q.num.sign := by
 obtain ⟨a, n, c, a', n', c', h1, _, _⟩ := h
 have h2 : s = q.num.sign ∧ x = .slice a n c ∧ y = .slice a' n' c' := by simpa using h1
 exact h2.1
theorem RNumV.top {w : World} {s : Int} {x y : Value} {q : Rat} (h : RNumV w (.agg #[.int .i64 s, x, y]) q) : RefV w x q.num.natAbs := by
 obtain ⟨a, n, c, a', n', c', h1, h2, _⟩ := h
 have h3 : s = q.num.sign ∧ x = .slice a n c ∧ y = .slice a' n' c' := by simpa using h1
 rw [h3.2.1]; exact h2
theorem RNumV.den {w : World} {s : Int} {x y : Value} {q : Rat} (h : RNumV w (.agg #[.int .i64 s, x, y]) q) : RefV w y (if q = 0 then 0 else q.den) := by
 obtain ⟨a, n, c, a', n', c', h1, _, h2⟩ := h
 have h3 : s = q.num.sign ∧ x = .slice a n c ∧ y = .slice a' n' c' := by simpa using h1
 rw [h3.2.2]; exact h2
theorem RNumV.zero (w : World) : RNumV w (.agg #[.int .i64 0, .slice none 0 0, .slice none 0 0]) 0 :=
 ⟨none, 0, 0, none, 0, 0, rfl, RefV.nil w, RefV.nil w⟩
/-! ### plain: numbers made of a sign, a numerator and a denominator -/
theorem mkRat_sgn {s : Int} {P Q : Nat} (hs : s = 1 ∨ s = -1) : mkRat (s * P) Q = mkq (decide (s < 0)) P Q := by
 unfold mkq sg
 rcases hs with rfl | rfl <;> simp
theorem RNumV.made {w : World} {s : Int} {a a' : Option Addr} {n c n' c' P Q : Nat} (hs : s = 1 ∨ s = -1) (hP : 0 < P) (hQ : Q ≠ 0) (h1 : RefV w (.slice a n c) (P / Nat.gcd P Q)) (h2 : RefV w (.slice a' n' c') (Q / Nat.gcd P Q)) :
  RNumV w (.agg #[.int .i64 s, .slice a n c, .slice a' n' c']) (mkRat (s * P) Q) := by
 rw [mkRat_sgn hs]
 have hg : 0 < Nat.gcd P Q := Nat.gcd_pos_of_pos_left _ hP
 have hp : 0 < P / Nat.gcd P Q := Nat.div_pos (Nat.le_of_dvd hP (Nat.gcd_dvd_left P Q)) hg
 have hn := mkq_natAbs (decide (s < 0)) P Q hQ
 have hneg := mkq_neg (decide (s < 0)) P Q hQ
 have hz : mkq (decide (s < 0)) P Q ≠ 0 := fun e => by rw [e] at hn; simp at hn; omega
 refine ⟨a, n, c, a', n', c', ?_, ?_, ?_⟩
 ·have : s = (mkq (decide (s < 0)) P Q).num.sign := by
   rw [decide_eq_true (show P ≠ 0 by omega), Bool.and_true, decide_eq_decide] at hneg
   rcases hs with rfl | rfl
   ·have h3 : ¬ (mkq (decide ((1 : Int) < 0)) P Q).num < 0 := fun h => by have := hneg.1 h; omega
    exact (Int.sign_eq_one_of_pos (by omega)).symm
   ·have h3 : (mkq (decide ((-1 : Int) < 0)) P Q).num < 0 := hneg.2 (by decide)
    exact (Int.sign_eq_neg_one_of_neg h3).symm
  rw [← this]
 ·rw [hn]; exact h1
 ·rw [if_neg hz, mkq_den _ P Q hQ]; exact h2
end Go.Proofs.YtajecapgmdfjcaaGreatDoor
