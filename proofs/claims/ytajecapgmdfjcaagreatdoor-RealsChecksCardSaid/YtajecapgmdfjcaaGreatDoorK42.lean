/- The reference's natural numbers: divided, the state of its rounds. -/
import Derived.Laws.OwnMore
import Derived.Test.YtajecapgmdfjcaaGreatDoorK22
import Derived.Test.YtajecapgmdfjcaaGreatDoorK08
namespace Go.Proofs.YtajecapgmdfjcaaGreatDoor
open Go.RowKit Vn
def Fresh (w0 : World) (N : Nat) (g k cp : Nat) (wx : World) : Prop := w0.heap.size ≤ g ∧ Ext w0 wx ∧ k ≤ cp ∧ cp ≤ maxLen ∧
 ∃ l cur, Norm 1000000000 l ∧ dv 1000000000 l = N ∧ l.length = k ∧ wx.heap[g]? = some (.cells cur 2 (0, 0)) ∧ ∀ i, i < k → cur[i]? = some (.int .i64 (l.getD i 0 : Nat))
theorem Fresh.refv {w0 wx : World} {N g k cp : Nat} (h : Fresh w0 N g k cp wx) : RefV wx (.slice (some ⟨g, 0, none⟩) k cp) N := by
 obtain ⟨h1, h2, h3, h4, l, cur, h5, h6, h7, h8, h9⟩ := h
 refine ⟨l, h5, h6, ?_⟩
 subst h7
 exact ⟨some ⟨g, 0, none⟩, g, 0, cp, rfl, h3, h4, fun _ => rfl, cur, (0, 0), fun _ => h8, fun i hi => by rw [Nat.zero_add]; exact h9 i hi⟩
theorem Fresh.ext {w0 wx w' : World} {N g k cp : Nat} (h : Fresh w0 N g k cp wx) (k' : Ext wx w') : Fresh w0 N g k cp w' := by
 obtain ⟨h1, h2, h3, h4, l, cur, h5, h6, h7, h8, h9⟩ := h
 exact ⟨h1, h2.trans k', h3, h4, l, cur, h5, h6, h7, k'.heap h8, h9⟩
theorem Fresh.cell {w0 wx : World} {N g k cp : Nat} (h : Fresh w0 N g k cp wx) : ∃ l, Norm 1000000000 l ∧ dv 1000000000 l = N ∧ l.length = k ∧ ∀ i, i < k → wx.cell? ⟨g, i, none⟩ = some (.int .i64 (l.getD i 0 : Nat)) := by
 obtain ⟨h1, h2, h3, h4, l, cur, h5, h6, h7, h8, h9⟩ := h
 exact ⟨l, h5, h6, h7, fun i hi => by simp [World.cell?, h8, h9 i hi]⟩
theorem Fresh.setCell {w0 wx : World} {N g k cp b i : Nat} (h : Fresh w0 N g k cp wx) (hb : b < w0.heap.size) (x : Value) : RefV (wx.setCell ⟨b, i, none⟩ x) (.slice (some ⟨g, 0, none⟩) k cp) N := by
 obtain ⟨h1, h2, h3, h4, l, cur, h5, h6, h7, h8, h9⟩ := h
 refine ⟨l, h5, h6, ?_⟩
 subst h7
 refine ⟨some ⟨g, 0, none⟩, g, 0, cp, rfl, h3, h4, fun _ => rfl, cur, (0, 0), fun _ => ?_, fun j hj => by rw [Nat.zero_add]; exact h9 j hj⟩
 rw [Below.heap_setCell _ _ _ _ (show g ≠ (⟨b, i, none⟩ : Addr).block from by show g ≠ b; omega)]
 exact h8
theorem fresh_of {w0 w1 : World} {v : Value} {n d : Nat} {r : List Nat} (hr : Norm 1000000000 r) (hd : d < 1000000000) (hl : r.length ≤ 100000000000) (hE : Ext w0 w1) (hown : w1.ownsRow w0.heap.size 2 1 v n (digs (d :: r))) :
  ∃ g cp, v = .slice (some ⟨g, 0, none⟩) n cp ∧ n = r.length + 1 ∧ ((Calls Tryz.prog 165 #[.slice (some ⟨g, 0, none⟩) n cp] w1 fun e w' => ∃ k, e = .returned (.slice (some ⟨g, 0, none⟩) k cp) ∧ Fresh w0 (d + 1000000000 * dv 1000000000 r) g k cp w')) := by
 have hn : n = r.length + 1 := by have := hown.1; rw [digs_len] at this; simp at this; omega
 rcases hown.2 with ⟨_, h0⟩ | ⟨g, cap, cur, rfl, h1, h2, h3, h4, h5, h6⟩
 ·omega
 ·refine ⟨g, cap, rfl, hn, ?_⟩
  have hdig : Dig 1000000000 (d :: r) := Dig.mk hd hr.dig
  have hcur : ∀ i, i < n → cur[i]? = some (.int .i64 ((d :: r).getD i 0 : Nat)) := fun i hi => by
   have h7 : (cur.toList.take (n * 1))[i]? = (digs (d :: r))[i]? := by rw [h6]
   rw [List.getElem?_take, if_pos (by omega), Array.getElem?_toList] at h7
   rw [h7]
   simp only [digs, List.getElem?_map, List.getD_eq_getElem?_getD, List.getElem?_eq_getElem (show i < (d :: r).length by simp; omega), Option.map_some, Option.getD_some]
  refine (rtrim_core (some ⟨g, 0, none⟩) g 0 n cap (d :: r) w1 (by omega) h3 h4 (hid fun _ => rfl) (hid hdig) (hid fun i hi => by simp [World.cell?, h2, hcur i hi])).mono ?_
  rintro e w' ⟨k, rfl, hR, hnz⟩
  obtain ⟨h8, h9⟩ := rtrim_norm hR (by rw [hn]; simp) hdig hnz
  have hk := hR.hk
  refine ⟨k, rfl, h1, hE.trans hR.ext, by omega, h4, (d :: r).take k, cur, h8, by rw [h9, dv_cons], by simp; omega, by rw [hR.heap]; exact h2, fun i hi => ?_⟩
  rw [hcur i (by omega)]
  simp only [List.getD_eq_getElem?_getD]
  rw [List.getElem?_take, if_pos hi]
structure DivRel (x : List Nat) (n M : Nat) (w : World) (k R : Nat) (o : List Nat) (wr : World) : Prop where
 hk : k ≤ n
 hr : R < M
 val : dv 1000000000 (x.drop k) = dv 1000000000 (o.drop k) * M + R
 low : ∀ i, i < k → o.getD i 0 = 0
 own : ROwn w wr w.heap.size o n
theorem DivRel.stay {x : List Nat} {n M : Nat} {w : World} {j R : Nat} {o : List Nat} {wr w' : World} (h : DivRel x n M w (j + 1) R o wr) (hE : Ext wr w') (hn : x.length = n) {d : Nat} (hd : d = x.getD j 0) (hlt : d + 1000000000 * R < M) :
  DivRel x n M w j (d + 1000000000 * R) o w' := by
 have hk := h.hk
 have hl : j < o.length := by rw [h.own.len]; omega
 refine ⟨by omega, hlt, ?_, fun i hi => h.low i (by omega), h.own.ext' hE⟩
 rw [dv_drop _ x j (by omega), ← hd, dv_drop _ o j hl, h.low j (by omega), h.val, Nat.zero_add, Nat.mul_add, Nat.mul_assoc]
 omega
theorem DivRel.step {x : List Nat} {n M : Nat} {w : World} {j R : Nat} {o : List Nat} {wr w' : World} (h : DivRel x n M w (j + 1) R o wr) (hE : Ext wr w') (hn : x.length = n) {d : Nat} (hd : d = x.getD j 0) (hd' : d < 1000000000) (e : Int) (he : e = (((d + 1000000000 * R) / M : Nat) : Int)) :
  DivRel x n M w j ((d + 1000000000 * R) % M) (o.set j ((d + 1000000000 * R) / M)) (w'.setCell ⟨w.heap.size, j, none⟩ (.int .i64 e)) := by
 have hk := h.hk
 have hr := h.hr
 have hl : j < o.length := by rw [h.own.len]; omega
 have hq : (d + 1000000000 * R) / M < 1000000000 := by
  apply Nat.div_lt_of_lt_mul
  have : 1000000000 * (R + 1) ≤ 1000000000 * M := Nat.mul_le_mul_left _ hr
  rw [Nat.mul_comm M]
  omega
 refine ⟨by omega, Nat.mod_lt _ (by omega), ?_, fun i hi => ?_, (h.own.ext' hE).set (Nat.le_refl _) j _ e he hq⟩
 ·rw [dv_drop _ x j (by omega), ← hd, rdrop_set_self _ _ _ hl, dv_cons, h.val]
  have := Nat.div_add_mod (d + 1000000000 * R) M
  generalize (d + 1000000000 * R) / M = q at *
  generalize (d + 1000000000 * R) % M = s at *
  generalize dv 1000000000 (o.drop (j + 1)) = D at *
  grind
 ·rw [getD_set _ _ _ _ hl, if_neg (by omega)]
  exact h.low i (by omega)
theorem DivRel.ext {x : List Nat} {n M : Nat} {w : World} {k R : Nat} {o : List Nat} {wr w' : World} (h : DivRel x n M w k R o wr) (hE : Ext wr w') : DivRel x n M w k R o w' :=
 ⟨h.hk, h.hr, h.val, h.low, h.own.ext' hE⟩
theorem refv_oneI (w : World) (e : Int) (d : Nat) (he : e = (d : Int)) (h0 : 0 < d) (h1 : d < 1000000000) : RefV (w.alloc (.cells #[.int .i64 e] 2)) (.slice (some ⟨w.heap.size, 0, none⟩) 1 1) d := by
 subst he; exact refv_one w d h0 h1
theorem cmpN_le {m n : Nat} : decide (cmpN m n ≤ 0) = decide (m ≤ n) := by
 unfold cmpN
 by_cases h : m < n
 ·rw [if_pos h, decide_eq_true (by omega : m ≤ n)]; rfl
 ·rw [if_neg h]
  by_cases h2 : n < m
  ·rw [if_pos h2, decide_eq_false (by omega : ¬ m ≤ n)]; rfl
  ·rw [if_neg h2, decide_eq_true (by omega : m ≤ n)]; rfl
section
variable {P : Program}
theorem run_append_none0 (w : World) (base : Nat) (t ty e : TypeId) (i : TypeInfo) (size : Nat) (ht : P.underlying t = some (.slice e)) (hi : P.info? e = some i)
  (v : Value) (n : Nat) (xs : List Value) (hown : w.ownsRow base e size v n xs) (c : Nat) :
  (Builtin.append_ #[t, t] ty #[v, .slice none 0 c]).run P w = .ok v w := by
 rcases hown.2 with ⟨rfl, rfl⟩ | ⟨g, cap, cur, rfl, _, _, hnc, _⟩
 ·simp [Builtin.append_, run_underlying ht, sizeOf, typeInfo, hi, Builtin.lenOf, Builtin.firstCells]
 ·simp [Builtin.append_, run_underlying ht, sizeOf, typeInfo, hi, Builtin.lenOf, Builtin.firstCells, hnc, storeCells]
theorem wpList_append_none0 {w : World} {ops : Array Oper} {rest : List Oper} {o : Oper} {a : Act} {Q : Exit → Act → World → Prop} (hgd : o.guard = none) (s x : Operand) (t : TypeId)
  (ho : o.op = .call { callee := .builtin .append, args := #[s, x], argTypes := #[t, t] })
  (base : Nat) (e : TypeId) (i : TypeInfo) (size : Nat) (ht : P.underlying t = some (.slice e)) (hi : P.info? e = some i)
  (v : Value) (n : Nat) (xs : List Value) (hs : a.eval s = v) (hown : w.ownsRow base e size v n xs) (c : Nat) (hx : a.eval x = .slice none 0 c)
  (h : wpList P ops Q rest (a.put o.dst v) w) : wpList P ops Q (o :: rest) a w := by
 refine wpList_plain hgd fun K hK => ?_
 have hrun := run_append_none0 (P := P) w base t o.type e i size ht hi v n xs hown c
 unfold Oper.wp
 simp [execOp, ho, resolve, invoke, builtin, hs, hx, hrun, Result.andThen]
 exact hK _ _ h
end
end Go.Proofs.YtajecapgmdfjcaaGreatDoor
