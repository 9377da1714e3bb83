/- Plain facts on lists of digits to a base B: values, comparison, one digit changed. -/

namespace Vn
def dv (B : Nat) : List Nat → Nat
 | [] => 0
 | d :: l => d + B * dv B l
theorem dv_cons (B d : Nat) (l : List Nat) : dv B (d :: l) = d + B * dv B l := rfl
theorem dv_append (B : Nat) (l m : List Nat) : dv B (l ++ m) = dv B l + B ^ l.length * dv B m := by
 induction l with
 | nil => simp [dv]
 | cons d l ih => simp only [List.cons_append, dv, ih, List.length_cons, Nat.pow_succ]; grind
def Dig (B : Nat) (l : List Nat) : Prop := ∀ d ∈ l, d < B
theorem Dig.cons {B d : Nat} {l : List Nat} (h : Dig B (d :: l)) : d < B ∧ Dig B l :=
 ⟨h d (by simp), fun x hx => h x (by simp [hx])⟩
theorem Dig.mk {B d : Nat} {l : List Nat} (h : d < B) (hl : Dig B l) : Dig B (d :: l) := by
 intro x hx; rcases List.mem_cons.1 hx with rfl | hx
 ·exact h
 ·exact hl x hx
theorem Dig.nil {B : Nat} : Dig B [] := fun _ h => by cases h
theorem Dig.append {B : Nat} {l m : List Nat} (h : Dig B l) (h' : Dig B m) : Dig B (l ++ m) := by
 intro x hx; rcases List.mem_append.1 hx with hx | hx
 ·exact h x hx
 ·exact h' x hx
theorem Dig.take {B : Nat} {l : List Nat} (h : Dig B l) (k : Nat) : Dig B (l.take k) := fun x hx => h x (List.mem_of_mem_take hx)
theorem Dig.drop {B : Nat} {l : List Nat} (h : Dig B l) (k : Nat) : Dig B (l.drop k) := fun x hx => h x (List.mem_of_mem_drop hx)
theorem Dig.get {B : Nat} {l : List Nat} (h : Dig B l) (hB : 0 < B) (k : Nat) : l.getD k 0 < B := by
 rw [List.getD_eq_getElem?_getD]
 by_cases hk : k < l.length
 ·simp [List.getElem?_eq_getElem hk]; exact h _ (List.getElem_mem hk)
 ·simp [List.getElem?_eq_none (Nat.le_of_not_lt hk), hB]
theorem Dig.set {B : Nat} {l : List Nat} (h : Dig B l) {x : Nat} (hx : x < B) (k : Nat) : Dig B (l.set k x) := by
 intro y hy
 rcases List.mem_or_eq_of_mem_set hy with h' | rfl
 ·exact h y h'
 ·exact hx
theorem Dig.replicate {B : Nat} (hB : 0 < B) (k : Nat) : Dig B (List.replicate k 0) := by
 intro x hx; rw [(List.mem_replicate.1 hx).2]; exact hB
theorem dv_lt {B : Nat} (hB : 0 < B) : ∀ {l : List Nat}, Dig B l → dv B l < B ^ l.length
 | [], _ => by simp [dv]
 | d :: l, h => by
  obtain ⟨h1, h2⟩ := h.cons
  have := dv_lt hB h2
  simp only [dv, List.length_cons, Nat.pow_succ]
  have : B * dv B l + B ≤ B * B ^ l.length := by
   have := Nat.mul_le_mul_left B (Nat.succ_le_of_lt this)
   simpa [Nat.mul_succ] using this
  have e : B ^ l.length * B = B * B ^ l.length := Nat.mul_comm _ _
  omega
theorem dv_replicate (B k : Nat) : dv B (List.replicate k 0) = 0 := by
 induction k with
 | zero => rfl
 | succ k ih => simp [List.replicate_succ, dv, ih]
theorem dv_set (B : Nat) : ∀ (l : List Nat) (k x : Nat), k < l.length → dv B (l.set k x) + l.getD k 0 * B ^ k = dv B l + x * B ^ k
 | [], k, x, h => by simp at h
 | d :: l, 0, x, h => by simp [dv]; omega
 | d :: l, k + 1, x, h => by
  have := dv_set B l k x (by simpa using h)
  simp only [List.set_cons_succ, dv, List.getD_cons_succ, Nat.pow_succ] at this ⊢
  grind
theorem dv_take_succ (B : Nat) (l : List Nat) (k : Nat) (h : k < l.length) : dv B (l.take (k + 1)) = dv B (l.take k) + l.getD k 0 * B ^ k := by
 rw [List.take_succ_eq_append_getElem h, dv_append]
 simp [dv, List.getElem?_eq_getElem h, Nat.min_eq_left (Nat.le_of_lt h), Nat.mul_comm]
theorem dv_take_drop (B : Nat) (l : List Nat) (k : Nat) (h : k ≤ l.length) : dv B l = dv B (l.take k) + B ^ k * dv B (l.drop k) := by
 conv => lhs; rw [← List.take_append_drop k l]
 rw [dv_append]; simp [Nat.min_eq_left h]
theorem dv_drop (B : Nat) (l : List Nat) (k : Nat) (h : k < l.length) : dv B (l.drop k) = l.getD k 0 + B * dv B (l.drop (k + 1)) := by
 rw [List.drop_eq_getElem_cons h, dv]; simp [List.getElem?_eq_getElem h]
def Trim (l : List Nat) : Prop := l = [] ∨ 0 < l.getD (l.length - 1) 0
structure Norm (B : Nat) (l : List Nat) : Prop where
 dig : Dig B l
 trim : Trim l
theorem Norm.nil {B : Nat} : Norm B [] := ⟨Dig.nil, .inl rfl⟩
theorem Trim.tail {d : Nat} {l : List Nat} (h : Trim (d :: l)) (hl : l ≠ []) : Trim l := by
 rcases h with h | h
 ·cases h
 ·right
  cases l with
  | nil => exact absurd rfl hl
  | cons e l => simpa using h
theorem Norm.tail {B d : Nat} {l : List Nat} (h : Norm B (d :: l)) : Norm B l := by
 refine ⟨h.dig.cons.2, ?_⟩
 cases l with
 | nil => exact .inl rfl
 | cons e l => exact h.trim.tail (by simp)
theorem Trim.pos {B : Nat} (hB : 0 < B) : ∀ {l : List Nat}, Trim l → l ≠ [] → B ^ (l.length - 1) ≤ dv B l
 | [], _, h => absurd rfl h
 | [d], h, _ => by
  rcases h with h | h
  ·cases h
  ·simp [dv] at h ⊢; omega
 | d :: e :: l, h, _ => by
  have := Trim.pos hB (h.tail (by simp)) (by simp)
  simp only [List.length_cons, Nat.add_sub_cancel, dv_cons B d] at this ⊢
  rw [Nat.pow_succ, Nat.mul_comm]
  exact Nat.le_trans (Nat.mul_le_mul_left B this) (Nat.le_add_left _ _)
theorem Norm.zero {B : Nat} (hB : 0 < B) {l : List Nat} (h : Norm B l) (h0 : dv B l = 0) : l = [] := by
 cases l with
 | nil => rfl
 | cons d l =>
  have := Trim.pos hB h.trim (by simp)
  have : 0 < B ^ ((d :: l).length - 1) := Nat.pow_pos hB
  omega
theorem Norm.inj {B : Nat} (hB : 0 < B) : ∀ {l m : List Nat}, Norm B l → Norm B m → dv B l = dv B m → l = m
 | [], m, _, hm, h => (hm.zero hB (by rw [← h]; rfl)).symm
 | d :: l, [], hl, _, h => hl.zero hB (by rw [h]; rfl)
 | d :: l, e :: m, hl, hm, h => by
  have h1 := hl.dig.cons.1
  have h2 := hm.dig.cons.1
  simp only [dv] at h
  have hd : d = e := by
   have := congrArg (· % B) h
   simpa [Nat.add_mul_mod_self_left, Nat.mod_eq_of_lt h1, Nat.mod_eq_of_lt h2] using this
  subst hd
  have hv : dv B l = dv B m := Nat.eq_of_mul_eq_mul_left hB (by omega)
  rw [Norm.inj hB hl.tail hm.tail hv]
theorem Norm.lt_of_len {B : Nat} (hB : 0 < B) {l m : List Nat} (hl : Dig B l) (hm : Norm B m) (h : l.length < m.length) : dv B l < dv B m := by
 have h1 := dv_lt hB hl
 have h2 := Trim.pos hB hm.trim (by intro e; simp [e] at h)
 have h3 : B ^ l.length ≤ B ^ (m.length - 1) := Nat.pow_le_pow_right hB (by omega)
 omega
theorem dv_lt_at {B : Nat} (hB : 0 < B) {l m : List Nat} (hl : Dig B l) {k : Nat} (hk : k < l.length) (hk' : k < m.length)
  (hs : dv B (l.drop (k + 1)) = dv B (m.drop (k + 1))) (hlt : l.getD k 0 < m.getD k 0) : dv B l < dv B m := by
 rw [dv_take_drop B l k (Nat.le_of_lt hk), dv_take_drop B m k (Nat.le_of_lt hk'), dv_drop B l k hk, dv_drop B m k hk', hs]
 have h1 : dv B (l.take k) < B ^ k := by
  have := dv_lt hB (hl.take k)
  simpa [Nat.min_eq_left (Nat.le_of_lt hk)] using this
 have h2 : B ^ k * (l.getD k 0 + B * dv B (m.drop (k + 1))) + B ^ k ≤ B ^ k * (m.getD k 0 + B * dv B (m.drop (k + 1))) := by
  rw [← Nat.mul_succ]; exact Nat.mul_le_mul_left _ (by omega)
 omega
theorem Norm.len_le {B : Nat} (hB : 0 < B) {l : List Nat} (h : Norm B l) {k : Nat} (hk : dv B l < B ^ k) : l.length ≤ k := by
 rcases Nat.lt_or_ge k l.length with hlt | hge
 ·have hne : l ≠ [] := by intro e; simp [e] at hlt
  have h2 := Trim.pos hB h.trim hne
  have h3 : B ^ k ≤ B ^ (l.length - 1) := Nat.pow_le_pow_right hB (by omega)
  omega
 ·exact hge
theorem dv_take_zeros {B : Nat} {l : List Nat} {n : Nat} (hn : n ≤ l.length) (h : ∀ k, n ≤ k → k < l.length → l.getD k 0 = 0) : dv B (l.take n) = dv B l := by
 rw [dv_take_drop B l n hn]
 have : l.drop n = List.replicate (l.length - n) 0 := by
  apply List.ext_getElem (by simp)
  intro i h1 h2
  have h1' : n + i < l.length := by simp at h1; omega
  have := h (n + i) (by omega) h1'
  rw [List.getD_eq_getElem?_getD, List.getElem?_eq_getElem h1'] at this
  simpa using this
 rw [this, dv_replicate]; simp
end Vn
