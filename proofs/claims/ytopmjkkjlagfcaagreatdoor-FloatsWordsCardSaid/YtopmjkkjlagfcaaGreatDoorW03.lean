/- What all the walks import. -/
import Derived.Test.YtopmjkkjlagfcaaGreatDoorProg
import Derived.WalkKit
import Derived.WalkSpells
import Derived.WalkLawsBesides
import Derived.OwnWalk
import Derived.BigQuiet
import Derived.Below
import Derived.Deep.QuietTactic
import Derived.Deep.RegionHeld3
import Derived.Laws.Pointers
import Derived.StillTactics
import Derived.Outline
import Derived.Deep.LoopGhost
import Derived.Deep.CutBlock
import Derived.Deep.DeepCutAuto
import Derived.Test.YtopmjkkjlagfcaaGreatDoorW02
import Derived.Test.YtopmjkkjlagfcaaGreatDoorW01
import Derived.Deep.DeepCutAuto

/- Natural numbers in words of 32 bits: trim, cut, of, add return what they are named for. -/
namespace Go.Proofs.YtopmjkkjlagfcaaGreatDoor
open Go.RowKit Vn
theorem vint {k : IntKind} {a b : Int} (h : a = b) : Value.int k a = Value.int k b := by rw [h]
def NatV (w : World) (v : Value) (n : Nat) : Prop := ∃ l, Norm 4294967296 l ∧ dv 4294967296 l = n ∧ SlAt 171 .u32 w v l
theorem NatV.ext {w w' : World} {v : Value} {n : Nat} (h : NatV w v n) (hb : Ext w w') : NatV w' v n := by
 obtain ⟨l, h1, h2, h3⟩ := h; exact ⟨l, h1, h2, h3.ext hb⟩
theorem info32 : (Tryz.prog.info? 171).map (fun i => (i.zero, i.size, i.bytes)) = some (some (.int .u32 0), 1, 4) := by kernel_rfl
theorem mkNat (n : Nat) (x : Int) (hx : x = (n : Int)) (hn : n ≤ 1000000000000) (w : World) :
  (Instr.makeSlice 38 (.int .i64 x) (.int .i64 x)).run Tryz.prog w = .ok (.slice (some ⟨w.heap.size, 0, none⟩) n n) (w.alloc (.cells (rowOf .u32 (List.replicate n 0)) 171)) := by
 obtain ⟨i0, hi, hz0, hz1, hz2⟩ := info_parts info32
 exact make_row (P := Tryz.prog) 38 171 i0 .u32 Tryz.underlying38 hi hz0 hz1 n x hx (by rw [hz2]; omega) (by unfold maxLen; omega) w
def lenOf : Value → Nat | .slice _ n _ => n | _ => 0
structure TrimRel (l : List Nat) (n : Nat) (w : World) (k : Nat) (wr : World) : Prop where
 hk : k ≤ n
 zeros : ∀ i, k ≤ i → i < n → l.getD i 0 = 0
 heap : wr.heap = w.heap
 ext : Ext w wr
set_option maxHeartbeats 400000 in
theorem trim_core (a : Option Addr) (b off n cap : Nat) (l : List Nat) (w : World) (hn : n ≤ 1000000000000) (hcap : n ≤ cap) (_hcap2 : cap ≤ maxLen)
  (Ha : Hid (0 < n → a = some ⟨b, off, none⟩)) (Hd : Hid (Dig 4294967296 l))
  (Hc : Hid (∀ i, i < n → w.cell? ⟨b, off + i, none⟩ = some (.int .u32 (l.getD i 0 : Nat)))) :
  Calls Tryz.prog 185 #[.slice a n cap] w fun e w' => ∃ k : Nat, e = .returned (.slice a k cap) ∧ TrimRel l n w k w' ∧ (0 < k → l.getD (k - 1) 0 ≠ 0) := by
 go_enter Tryz.func185, Tryz.ntmps185
 go_wp2
 go_loopw [0] (fun v wr => ∃ k : Nat, v = .slice a k cap ∧ TrimRel l n w k wr) (fun v _ => lenOf v)
 case atStart => exact ⟨n, rfl, Nat.le_refl _, fun i h h' => by omega, rfl, Below.refl _ _⟩
 case round =>
  obtain ⟨k, rfl, hR⟩ := hrel
  have hk := hR.hk
  rcases Nat.eq_zero_or_pos k with h0 | h0
  ·subst h0
   have hd : decide ((0 : Int) < 0) = false := by decide
   go_wp2
   go_ret
   exact ⟨0, rfl, ⟨hR.hk, hR.zeros, hR.heap, hR.ext⟩, by omega⟩
  ·have hd1 : decide ((0 : Int) < (k : Int)) = true := decide_eq_true (by omega)
   obtain ⟨d, hd2⟩ : ∃ d, d = l.getD (k - 1) 0 := ⟨_, rfl⟩
   have hcell : wr.cell? ⟨b, off + (k - 1), none⟩ = some (.int .u32 d) := by
    rw [hd2, ← Hc.out (k - 1) (by omega)]; simp [World.cell?, hR.heap]
   have hlt : d < 4294967296 := by rw [hd2]; exact Hd.out.get (by decide) _
   obtain rfl := Ha.out (by omega)
   have Hd2 : Hid (d = l.getD (k - 1) 0) := hd2
   clear hd2 Hc Ha
   go_wp2
   ·have h1 : ((d : Int) == 0) = true := by assumption
    go_roundw
    case rel =>
     refine ⟨k - 1, rfl, by omega, fun i h h' => ?_, hR.heap, hR.ext⟩
     rcases Nat.eq_or_lt_of_le h with h2 | h2
     ·rw [← h2, ← Hd2.out]; simpa using h1
     ·exact hR.zeros i (by omega) h'
    case measure => simp [lenOf]; omega
   ·have h1 : ((d : Int) == 0) = false := by assumption
    go_ret
    exact ⟨k, rfl, ⟨hR.hk, hR.zeros, hR.heap, hR.ext⟩, fun _ => by rw [← Hd2.out]; simpa using h1⟩
theorem cut_c (v : Value) (l : List Nat) (w : World) (h : SlAt 171 .u32 w v l) (hd : Dig 4294967296 l) (hl : l.length ≤ 1000000000000) :
  Calls Tryz.prog 143 #[v] w fun e w' => ∃ a n cap, e = .returned (.slice a n cap) ∧ NatV w' (.slice a n cap) (dv 4294967296 l) ∧ Ext w w' := by
 obtain ⟨a, b, off, cap, rfl, h2, h3, h4, h5⟩ := h.open
 obtain ⟨n, hn⟩ : ∃ n, n = l.length := ⟨_, rfl⟩
 rw [← hn] at h h2 h4 h5 hl ⊢
 have Hh := hid h; have H4 := hid h4; have H5 := hid h5; have Hn : Hid (n = l.length) := hn; have Hd := hid hd
 clear h h4 h5 hn hd
 go_enter Tryz.func143, Tryz.ntmps143
 go_wp2_with (go_at_call 185; refine (trim_core a b off n cap l _ hl h2 h3 H4 Hd H5).mono ?_; rintro e w1 ⟨k, rfl, hR, hnz⟩)
 go_ret
 have hk := hR.hk
 have hn := Hn.out
 refine ⟨a, k, cap, rfl, ⟨l.take k, ⟨Hd.out.take k, ?_⟩, ?_, ?_⟩, hR.ext⟩
 ·rcases Nat.eq_zero_or_pos k with h0 | h0
  ·left; simp [h0]
  ·right
   have : (l.take k).length = k := by simp; omega
   rw [this]
   have := hnz h0
   rw [List.getD_eq_getElem?_getD] at this ⊢
   rw [List.getElem?_take, if_pos (by omega)]
   omega
 ·exact dv_take_zeros (by omega) (fun i h1 h2 => hR.zeros i h1 (by omega))
 ·exact (Hh.out.ext hR.ext).short k hk
end Go.Proofs.YtopmjkkjlagfcaaGreatDoor

/- Plain facts behind sums, differences and products of numbers in words. -/
namespace Vn
theorem getD_ge {l : List Nat} {k : Nat} (h : l.length ≤ k) : l.getD k 0 = 0 := by
 rw [List.getD_eq_getElem?_getD, List.getElem?_eq_none h]; rfl
theorem dv_take_succ' (B : Nat) (l : List Nat) (k : Nat) : dv B (l.take (k + 1)) = dv B (l.take k) + l.getD k 0 * B ^ k := by
 rcases Nat.lt_or_ge k l.length with h | h
 ·exact dv_take_succ B l k h
 ·rw [getD_ge h, List.take_of_length_le h, List.take_of_length_le (by omega)]; simp
theorem getD_set (l : List Nat) (k x j : Nat) (hk : k < l.length) : (l.set k x).getD j 0 = if j = k then x else l.getD j 0 := by
 simp only [List.getD_eq_getElem?_getD, List.getElem?_set]
 by_cases h : k = j
 ·subst h; simp [hk]
 ·have h' : ¬ j = k := fun e => h e.symm
  simp [h, h']
def Zero (l : List Nat) (k : Nat) : Prop := ∀ j, k ≤ j → l.getD j 0 = 0
theorem Zero.set {l : List Nat} {k : Nat} (h : Zero l k) (x : Nat) (hk : k < l.length) : Zero (l.set k x) (k + 1) := by
 intro j hj
 rw [getD_set l k x j hk, if_neg (by omega)]
 exact h j (by omega)
theorem Zero.replicate (n k : Nat) : Zero (List.replicate n 0) k := by
 intro j _
 rw [List.getD_eq_getElem?_getD, List.getElem?_replicate]
 split <;> rfl
theorem dv_set_zero (B : Nat) {l : List Nat} {k : Nat} (h : Zero l k) (x : Nat) (hk : k < l.length) : dv B (l.set k x) = dv B l + x * B ^ k := by
 have := dv_set B l k x hk
 rw [h k (Nat.le_refl _)] at this
 omega
theorem Zero.dv_lt {B : Nat} (hB : 0 < B) {l : List Nat} (hl : Dig B l) {k : Nat} (h : Zero l k) : dv B l < B ^ k := by
 rcases Nat.lt_or_ge k l.length with hk | hk
 ·rw [← dv_take_zeros (B := B) (Nat.le_of_lt hk) (fun j h1 _ => h j h1)]
  have := Vn.dv_lt hB (hl.take k)
  simpa [Nat.min_eq_left (Nat.le_of_lt hk)] using this
 ·exact Nat.lt_of_lt_of_le (Vn.dv_lt hB hl) (Nat.pow_le_pow_right hB hk)
theorem add_step {B k c d f s c' D X Y : Nat} (h : D + B ^ k * c = X + Y) (hs : c + d + f = s + B * c') :
  (D + s * B ^ k) + B ^ (k + 1) * c' = (X + d * B ^ k) + (Y + f * B ^ k) := by
 rw [Nat.pow_succ]
 have : B ^ k * (c + d + f) = B ^ k * (s + B * c') := by rw [hs]
 grind
theorem dif_step {B k c d f s c' D X Y : Nat} (h : D + Y = X + B ^ k * c) (hs : s + f + c = d + B * c') :
  (D + s * B ^ k) + (Y + f * B ^ k) = (X + d * B ^ k) + B ^ (k + 1) * c' := by
 rw [Nat.pow_succ]
 have : B ^ k * (s + f + c) = B ^ k * (d + B * c') := by rw [hs]
 grind
theorem mul_step {B i j c d f s c' D D' E F o : Nat} (h : D + c * B ^ (i + j) = E + d * F * B ^ i) (hs : c + d * f + o = s + B * c')
  (hset : D' + o * B ^ (i + j) = D + s * B ^ (i + j)) : D' + c' * B ^ (i + j + 1) = E + d * (F + f * B ^ j) * B ^ i := by
 have h2 : B ^ (i + j) * (c + d * f + o) = B ^ (i + j) * (s + B * c') := by rw [hs]
 have h3 : d * f * B ^ (i + j) = d * (f * B ^ j) * B ^ i := by rw [Nat.pow_add]; grind
 rw [Nat.pow_succ]
 grind
end Vn

/- Plain facts behind square roots of natural numbers, rounded down. -/
namespace Vn
def IsRoot (a s : Nat) : Prop := s * s ≤ a ∧ a < (s + 1) * (s + 1)
theorem IsRoot.unique {a s t : Nat} (h : IsRoot a s) (k : IsRoot a t) : s = t := by
 rcases Nat.lt_trichotomy s t with h1 | h1 | h1
 ·have := Nat.mul_le_mul (show s + 1 ≤ t from h1) (show s + 1 ≤ t from h1)
  have := h.2; have := k.1; omega
 ·exact h1
 ·have := Nat.mul_le_mul (show t + 1 ≤ s from h1) (show t + 1 ≤ s from h1)
  have := k.2; have := h.1; omega
end Vn
namespace Vn
def bl (n : Nat) : Nat := if n = 0 then 0 else n.log2 + 1
theorem bl_zero : bl 0 = 0 := rfl
theorem bl_lt (n : Nat) : n < 2 ^ bl n := by
 unfold bl
 split
 ·next h => subst h; decide
 ·next h => exact Nat.lt_log2_self
theorem bl_le {n : Nat} (h : 0 < n) : 2 ^ (bl n - 1) ≤ n := by
 unfold bl
 rw [if_neg (by omega), Nat.add_sub_cancel]
 exact Nat.log2_self_le (by omega)
theorem bl_pos {n : Nat} (h : 0 < n) : 0 < bl n := by
 unfold bl
 rw [if_neg (by omega)]; omega
theorem bl_unique {n k : Nat} (h1 : 2 ^ k ≤ n) (h2 : n < 2 ^ (k + 1)) : bl n = k + 1 := by
 have hp : 0 < n := Nat.lt_of_lt_of_le (Nat.pow_pos (by decide)) h1
 have a1 := bl_lt n
 have a2 := bl_le hp
 have a3 := bl_pos hp
 have b1 : k < bl n := by
  rcases Nat.lt_or_ge k (bl n) with h | h
  ·exact h
  ·have := Nat.pow_le_pow_right (n := 2) (by decide) h; omega
 have b2 : bl n - 1 < k + 1 := by
  rcases Nat.lt_or_ge (bl n - 1) (k + 1) with h | h
  ·exact h
  ·have := Nat.pow_le_pow_right (n := 2) (by decide) h; omega
 omega
theorem bl_le_of_lt {n k : Nat} (h : n < 2 ^ k) : bl n ≤ k := by
 rcases Nat.eq_zero_or_pos n with h0 | h0
 ·subst h0; exact Nat.zero_le _
 ·have a2 := bl_le h0
  have a3 := bl_pos h0
  rcases Nat.lt_or_ge k (bl n) with hlt | hge
  ·have := Nat.pow_le_pow_right (n := 2) (by decide) (show k ≤ bl n - 1 by omega); omega
  ·exact hge
theorem bl_words {d k X low : Nat} (hd : 0 < d) (hl : low < 4294967296 ^ k) (hX : X = low + 4294967296 ^ k * d) : bl X = 32 * k + bl d := by
 have e : (4294967296 : Nat) ^ k = 2 ^ (32 * k) := by rw [Nat.pow_mul]
 rw [e] at hl hX
 have h1 := bl_le hd
 have h2 := bl_lt d
 have h3 := bl_pos hd
 have h4 : bl X = 32 * k + (bl d - 1) + 1 := by
  apply bl_unique
  ·rw [Nat.pow_add, hX]
   have := Nat.mul_le_mul_left (2 ^ (32 * k)) h1
   omega
  ·rw [hX, show 32 * k + (bl d - 1) + 1 = 32 * k + bl d by omega, Nat.pow_add]
   have := Nat.mul_le_mul_left (2 ^ (32 * k)) (Nat.succ_le_of_lt h2)
   rw [Nat.mul_succ] at this
   omega
 omega
end Vn
