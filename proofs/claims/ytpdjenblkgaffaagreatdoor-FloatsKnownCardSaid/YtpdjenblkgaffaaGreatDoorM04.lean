/- Plain facts behind sums, differences and products of numbers in words. -/
import Derived.Test.YtpdjenblkgaffaaGreatDoorM01
namespace Vn

theorem getD_ge {l : List Nat} {k : Nat} (h : l.length ≤ k) : l.getD k 0 = 0 := by
  rw [List.getD_eq_getElem?_getD, List.getElem?_eq_none h]; rfl

theorem dv_take_succ' (B : Nat) (l : List Nat) (k : Nat) : dv B (l.take (k + 1)) = dv B (l.take k) + l.getD k 0 * B ^ k := by
  rcases Nat.lt_or_ge k l.length with h | h
  · exact dv_take_succ B l k h
  · rw [getD_ge h, List.take_of_length_le h, List.take_of_length_le (by omega)]; simp

theorem getD_set (l : List Nat) (k x j : Nat) (hk : k < l.length) : (l.set k x).getD j 0 = if j = k then x else l.getD j 0 := by
  simp only [List.getD_eq_getElem?_getD, List.getElem?_set]
  by_cases h : k = j
  · subst h; simp [hk]
  · have h' : ¬ j = k := fun e => h e.symm
    simp [h, h']

/-- zero from position k on. -/
def Zero (l : List Nat) (k : Nat) : Prop := ∀ j, k ≤ j → l.getD j 0 = 0

theorem Zero.set {l : List Nat} {k : Nat} (h : Zero l k) (x : Nat) (hk : k < l.length) : Zero (l.set k x) (k + 1) := by
  intro j hj
  rw [getD_set l k x j hk, if_neg (by omega)]
  exact h j (by omega)
theorem Zero.replicate (n k : Nat) : Zero (List.replicate n 0) k := by
  intro j _
  rw [List.getD_eq_getElem?_getD, List.getElem?_replicate]
  split <;> rfl
theorem dv_set_zero (B : Nat) {l : List Nat} {k : Nat} (h : Zero l k) (x : Nat) (hk : k < l.length) : dv B (l.set k x) = dv B l + x * B ^ k := by
  have := dv_set B l k x hk
  rw [h k (Nat.le_refl _)] at this
  omega
theorem Zero.dv_lt {B : Nat} (hB : 0 < B) {l : List Nat} (hl : Dig B l) {k : Nat} (h : Zero l k) : dv B l < B ^ k := by
  rcases Nat.lt_or_ge k l.length with hk | hk
  · rw [← dv_take_zeros (B := B) (Nat.le_of_lt hk) (fun j h1 _ => h j h1)]
    have := Vn.dv_lt hB (hl.take k)
    simpa [Nat.min_eq_left (Nat.le_of_lt hk)] using this
  · exact Nat.lt_of_lt_of_le (Vn.dv_lt hB hl) (Nat.pow_le_pow_right hB hk)

theorem add_step {B k c d f s c' D X Y : Nat} (h : D + B ^ k * c = X + Y) (hs : c + d + f = s + B * c') :
    (D + s * B ^ k) + B ^ (k + 1) * c' = (X + d * B ^ k) + (Y + f * B ^ k) := by
  rw [Nat.pow_succ]
  have : B ^ k * (c + d + f) = B ^ k * (s + B * c') := by rw [hs]
  grind

/-- the difference so far, X less Y, is D less B^k times the borrow. -/
theorem dif_step {B k c d f s c' D X Y : Nat} (h : D + Y = X + B ^ k * c) (hs : s + f + c = d + B * c') :
    (D + s * B ^ k) + (Y + f * B ^ k) = (X + d * B ^ k) + B ^ (k + 1) * c' := by
  rw [Nat.pow_succ]
  have : B ^ k * (s + f + c) = B ^ k * (d + B * c') := by rw [hs]
  grind

/-- the product so far: the inner round. -/
theorem mul_step {B i j c d f s c' D D' E F o : Nat} (h : D + c * B ^ (i + j) = E + d * F * B ^ i) (hs : c + d * f + o = s + B * c')
    (hset : D' + o * B ^ (i + j) = D + s * B ^ (i + j)) : D' + c' * B ^ (i + j + 1) = E + d * (F + f * B ^ j) * B ^ i := by
  have h2 : B ^ (i + j) * (c + d * f + o) = B ^ (i + j) * (s + B * c') := by rw [hs]
  have h3 : d * f * B ^ (i + j) = d * (f * B ^ j) * B ^ i := by rw [Nat.pow_add]; grind
  rw [Nat.pow_succ]
  grind
end Vn
