/- The reference's natural numbers, digits to the base 10^9 in words of 64 bits: how a slice reads as one; trim returns what it is named for. -/
import Derived.Laws.AppendOwn
import Derived.Maps.AppendAt
import Derived.Laws.MakeOwn
import Derived.Test.YtajecapgmdfjcaaGreatDoorK03
namespace Go.Proofs.YtajecapgmdfjcaaGreatDoor
open Go.RowKit Vn
def RefV (w : World) (v : Value) (n : Nat) : Prop := ∃ l, Norm 1000000000 l ∧ dv 1000000000 l = n ∧ SlAt 2 .i64 w v l
theorem RefV.ext {w w' : World} {v : Value} {n : Nat} (h : RefV w v n) (hb : Ext w w') : RefV w' v n := by
 obtain ⟨l, h1, h2, h3⟩ := h; exact ⟨l, h1, h2, h3.ext hb⟩
theorem RefV.nil (w : World) : RefV w (.slice none 0 0) 0 := ⟨[], Norm.nil, rfl, SlAt.nil _ _ _⟩
abbrev RCells (w : World) (b off n : Nat) (l : List Nat) : Prop := Hid (∀ i, i < n → w.cell? ⟨b, off + i, none⟩ = some (.int .i64 (l.getD i 0 : Nat)))
theorem RefV.open {w : World} {v : Value} {N : Nat} (h : RefV w v N) : ∃ (a : Option Addr) (b off n cap : Nat) (l : List Nat), v = .slice a n cap ∧ n ≤ cap ∧ cap ≤ maxLen ∧ Hid (l.length = n) ∧
  Hid (0 < n → a = some ⟨b, off, none⟩) ∧ Hid (Norm 1000000000 l) ∧ Hid (dv 1000000000 l = N) ∧ RCells w b off n l ∧ Hid (SlAt 2 .i64 w v l) := by
 obtain ⟨l, h1, h2, h3⟩ := h
 obtain ⟨a, b, off, cap, h4, h5, h6, h7, h8⟩ := h3.open
 exact ⟨a, b, off, l.length, cap, l, h4, h5, h6, hid rfl, hid h7, hid h1, hid h2, hid h8, hid h3⟩
theorem RefV.shape {w : World} {v : Value} {N : Nat} (h : RefV w v N) : ∃ a n c, v = .slice a n c := by
 obtain ⟨a, b, off, n, cap, l, rfl, _⟩ := h.open; exact ⟨_, _, _, rfl⟩
theorem rlen_le {l : List Nat} {K : Nat} (h : Norm 1000000000 l) (hK : dv 1000000000 l < 2 ^ (29 * K)) : l.length ≤ K := by
 refine h.len_le (by decide) (Nat.lt_of_lt_of_le hK ?_)
 rw [Nat.pow_mul]
 exact Nat.pow_le_pow_left (by decide) K
theorem Sm.rlen {l : List Nat} {K n : Nat} (h : Sm K n) (hl : Norm 1000000000 l) (hv : dv 1000000000 l = n) : l.length ≤ K := by
 refine rlen_le hl ?_
 rw [hv]
 exact Nat.lt_of_lt_of_le h (Nat.pow_le_pow_right (by decide) (by omega))
theorem RefV.len0 {w : World} {a : Option Addr} {n c N : Nat} (h : RefV w (.slice a n c) N) : n = 0 ↔ N = 0 := by
 obtain ⟨a', b, off, n', cap, l, h1, _, _, h4, _, h6, h7, _, _⟩ := h.open
 obtain ⟨rfl, rfl, rfl⟩ : a = a' ∧ n = n' ∧ c = cap := by simpa using h1
 constructor
 ·intro e
  have := h4.out
  rw [e] at this
  rw [← h7.out, List.eq_nil_of_length_eq_zero this]
  rfl
 ·intro e
  have := h6.out.zero (by decide) (by rw [h7.out, e])
  rw [← h4.out, this]; rfl
theorem info64 : (Tryz.prog.info? 2).map (fun i => (i.zero, i.size, i.bytes)) = some (some (.int .i64 0), 1, 8) := by kernel_rfl
theorem mkRef (n : Nat) (x : Int) (hx : x = (n : Int)) (hn : n ≤ 1000000000000) (w : World) :
  (Instr.makeSlice 145 (.int .i64 x) (.int .i64 x)).run Tryz.prog w = .ok (.slice (some ⟨w.heap.size, 0, none⟩) n n) (w.alloc (.cells (rowOf .i64 (List.replicate n 0)) 2)) := by
 obtain ⟨i0, hi, hz0, hz1, hz2⟩ := info_parts info64
 exact make_row (P := Tryz.prog) 145 2 i0 .i64 Tryz.underlying145 hi hz0 hz1 n x hx (by rw [hz2]; omega) (by unfold maxLen; omega) w
theorem mkRoom (n : Nat) (x : Int) (hx : x = (n : Int)) (hn : n ≤ 1000000000000) (w : World) :
  (Instr.makeSlice 145 (.int .i64 0) (.int .i64 x)).run Tryz.prog w = .ok (.slice (some ⟨w.heap.size, 0, none⟩) 0 n) (w.alloc (.cells (rowOf .i64 (List.replicate n 0)) 2)) := by
 obtain ⟨i0, hi, hz0, hz1, hz2⟩ := info_parts info64
 subst hx
 rw [run_make w 145 2 i0 (.int .i64 0) Tryz.underlying145 hi hz0 .i64 .i64 0 n (Int.le_refl _) (by omega) (by rw [hz2]; omega) (by omega)]
 have e1 : madeCells (Value.int .i64 0).cells (n * i0.size) = rowOf .i64 (List.replicate n 0) := by
  apply Array.ext_getElem?
  intro j
  simp only [rowOf, madeCells, Value.cells, hz1, Nat.mul_one]
  by_cases hj : j < n
  ·simp [hj, Nat.mod_one]
  ·simp [hj]
 rw [Int.toNat_natCast, e1]; rfl
set_option maxHeartbeats 400000 in
theorem rtrim_core (a : Option Addr) (b off n cap : Nat) (l : List Nat) (w : World) (hn : n ≤ 1000000000000) (hcap : n ≤ cap) (_hcap2 : cap ≤ maxLen)
  (Ha : Hid (0 < n → a = some ⟨b, off, none⟩)) (Hd : Hid (Dig 1000000000 l))
  (Hc : Hid (∀ i, i < n → w.cell? ⟨b, off + i, none⟩ = some (.int .i64 (l.getD i 0 : Nat)))) :
  Calls Tryz.prog 165 #[.slice a n cap] w fun e w' => ∃ k : Nat, e = .returned (.slice a k cap) ∧ TrimRel l n w k w' ∧ (0 < k → l.getD (k - 1) 0 ≠ 0) := by
 go_enter Tryz.func165, Tryz.ntmps165
 go_wp2
 go_loopw [0] (fun v wr => ∃ k : Nat, v = .slice a k cap ∧ TrimRel l n w k wr) (fun v _ => lenOf v)
 case atStart => exact ⟨n, rfl, Nat.le_refl _, fun i h h' => by omega, rfl, Below.refl _ _⟩
 case round =>
  obtain ⟨k, rfl, hR⟩ := hrel
  have hk := hR.hk
  rcases Nat.eq_zero_or_pos k with h0 | h0
  ·subst h0
   have hd : decide ((0 : Int) < 0) = false := by decide
   go_wp2
   go_ret
   exact ⟨0, rfl, ⟨hR.hk, hR.zeros, hR.heap, hR.ext⟩, by omega⟩
  ·have hd1 : decide ((0 : Int) < (k : Int)) = true := decide_eq_true (by omega)
   obtain ⟨d, hd2⟩ : ∃ d, d = l.getD (k - 1) 0 := ⟨_, rfl⟩
   have hcell : wr.cell? ⟨b, off + (k - 1), none⟩ = some (.int .i64 d) := by
    rw [hd2, ← Hc.out (k - 1) (by omega)]; simp [World.cell?, hR.heap]
   have hlt : d < 1000000000 := by rw [hd2]; exact Hd.out.get (by decide) _
   obtain rfl := Ha.out (by omega)
   have Hd2 : Hid (d = l.getD (k - 1) 0) := hd2
   clear hd2 Hc Ha
   go_wp2
   ·have h1 : ((d : Int) == 0) = true := by assumption
    go_roundw
    case rel =>
     refine ⟨k - 1, rfl, by omega, fun i h h' => ?_, hR.heap, hR.ext⟩
     rcases Nat.eq_or_lt_of_le h with h2 | h2
     ·rw [← h2, ← Hd2.out]; simpa using h1
     ·exact hR.zeros i (by omega) h'
    case measure => simp [lenOf]; omega
   ·have h1 : ((d : Int) == 0) = false := by assumption
    go_ret
    exact ⟨k, rfl, ⟨hR.hk, hR.zeros, hR.heap, hR.ext⟩, fun _ => by rw [← Hd2.out]; simpa using h1⟩
theorem rtrim_norm {l : List Nat} {n k : Nat} {w w' : World} (hR : TrimRel l n w k w') (hn : n = l.length) (hd : Dig 1000000000 l) (hnz : 0 < k → l.getD (k - 1) 0 ≠ 0) : Norm 1000000000 (l.take k) ∧ dv 1000000000 (l.take k) = dv 1000000000 l := by
 have hk := hR.hk
 refine ⟨⟨hd.take k, ?_⟩, dv_take_zeros (by omega) (fun i h1 h2 => hR.zeros i h1 (by omega))⟩
 rcases Nat.eq_zero_or_pos k with h0 | h0
 ·left; simp [h0]
 ·right
  have : (l.take k).length = k := by simp; omega
  rw [this]
  have := hnz h0
  rw [List.getD_eq_getElem?_getD] at this ⊢
  rw [List.getElem?_take, if_pos (by omega)]
  omega
theorem rtrim_c (v : Value) (l : List Nat) (w : World) (h : SlAt 2 .i64 w v l) (hd : Dig 1000000000 l) (hl : l.length ≤ 1000000000000) :
  Calls Tryz.prog 165 #[v] w fun e w' => ∃ a n cap, e = .returned (.slice a n cap) ∧ RefV w' (.slice a n cap) (dv 1000000000 l) ∧ Ext w w' := by
 obtain ⟨a, b, off, cap, rfl, h2, h3, h4, h5⟩ := h.open
 refine (rtrim_core a b off l.length cap l w hl h2 h3 (hid h4) (hid hd) (hid h5)).mono ?_
 rintro e w1 ⟨k, rfl, hR, hnz⟩
 obtain ⟨h6, h7⟩ := rtrim_norm hR rfl hd hnz
 exact ⟨a, k, cap, rfl, ⟨l.take k, h6, h7, (h.ext hR.ext).short k hR.hk⟩, hR.ext⟩
structure ROwn (w wr : World) (b : Nat) (o : List Nat) (n : Nat) : Prop where
 row : wr.heap[b]? = some (.cells (rowOf .i64 o) 2 (0, 0))
 len : o.length = n
 dig : Dig 1000000000 o
 ext : Ext w wr
theorem ROwn.cell {w wr : World} {b n : Nat} {o : List Nat} (h : ROwn w wr b o n) {k : Nat} (hk : k < n) : wr.cell? ⟨b, k, none⟩ = some (.int .i64 (o.getD k 0 : Nat)) :=
 row_cell h.row k (by rw [h.len]; exact hk)
theorem ROwn.free {w wr : World} {b n : Nat} {o : List Nat} (h : ROwn w wr b o n) (k : Nat) : wr.frozen? ⟨b, k, none⟩ = false := row_free h.row k
theorem ROwn.set {w wr : World} {b n : Nat} {o : List Nat} (h : ROwn w wr b o n) (hb : w.heap.size ≤ b) (k x : Nat) (e : Int) (he : e = (x : Int)) (hx : x < 1000000000) :
  ROwn w (wr.setCell ⟨b, k, none⟩ (.int .i64 e)) b (o.set k x) n := by
 subst he
 exact ⟨row_set h.row k x, by rw [List.length_set]; exact h.len, h.dig.set hx k, h.ext.setCell (p := ⟨b, k, none⟩) hb _⟩
theorem ROwn.init (w : World) (n : Nat) : ROwn w (w.alloc (.cells (rowOf .i64 (List.replicate n 0)) 2)) w.heap.size (List.replicate n 0) n :=
 ⟨heap_alloc_new w _, by simp, Dig.replicate (by decide) n, (Below.refl _ w).alloc (Nat.le_refl _) _⟩
theorem ROwn.slat {w wr : World} {b n : Nat} {o : List Nat} (h : ROwn w wr b o n) (hn : n ≤ maxLen) : SlAt 2 .i64 wr (.slice (some ⟨b, 0, none⟩) n n) o := by
 have := SlAt.row h.row n n (by rw [h.len]; exact Nat.le_refl _) (Nat.le_refl _) hn
 rwa [List.take_of_length_le (by rw [h.len]; exact Nat.le_refl _)] at this
theorem ROwn.ext' {w wr wr' : World} {b n : Nat} {o : List Nat} (h : ROwn w wr b o n) (hb : Ext wr wr') : ROwn w wr' b o n := ⟨hb.heap h.row, h.len, h.dig, h.ext.trans hb⟩
theorem ROwn.drew {w wr : World} {b n : Nat} {o : List Nat} (h : ROwn w wr b o n) : ROwn w wr.drew b o n := ⟨h.row, h.len, h.dig, h.ext.drew⟩
def digs (l : List Nat) : List Value := l.map fun n => Value.int .i64 (n : Nat)
theorem digs_len (l : List Nat) : (digs l).length = l.length := by simp [digs]
theorem digs_snoc (l : List Nat) (x : Nat) : digs l ++ [.int .i64 (x : Nat)] = digs (l ++ [x]) := by simp [digs]
theorem digs_append (l m : List Nat) : digs l ++ digs m = digs (l ++ m) := by simp [digs]
theorem slat_of_owns {w : World} {base n : Nat} {v : Value} {o : List Nat} (h : w.ownsRow base 2 1 v n (digs o)) : SlAt 2 .i64 w v o := by
 have hl : n = o.length := by have := h.1; rw [digs_len] at this; omega
 subst hl
 rcases h.2 with ⟨rfl, h0⟩ | ⟨g, cap, cur, rfl, h1, h2, h3, h4, h5, h6⟩
 ·have : o = [] := List.eq_nil_of_length_eq_zero h0
  subst this
  exact SlAt.nil _ _ _
 ·refine ⟨some ⟨g, 0, none⟩, g, 0, cap, rfl, h3, h4, fun _ => rfl, cur, (0, 0), fun _ => h2, fun i hi => ?_⟩
  have h7 : (cur.toList.take (o.length * 1))[i]? = (digs o)[i]? := by rw [h6]
  rw [List.getElem?_take, if_pos (by omega), Array.getElem?_toList] at h7
  rw [Nat.zero_add, h7]
  simp [digs, List.getElem?_eq_getElem hi]
theorem rows_ext {w w' : World} {base : Nat} {e : TypeId} {size : Nat} {v : Value} {n : Nat} {xs : List Value} (h : w.ownsRow base e size v n xs) (g : Ext w w') : w'.ownsRow base e size v n xs := by
 refine ⟨h.1, ?_⟩
 rcases h.2 with h0 | ⟨b, cap, cur, h1, h2, h3, h4⟩
 ·exact .inl h0
 ·exact .inr ⟨b, cap, cur, h1, h2, g.heap h3, h4⟩
theorem rows_shape {w : World} {base : Nat} {e : TypeId} {size : Nat} {v : Value} {n : Nat} {xs : List Value} (h : w.ownsRow base e size v n xs) : ∃ a cap, v = .slice a n cap := by
 rcases h.2 with ⟨h1, h2⟩ | ⟨b, cap, cur, h1, _⟩
 ·subst h2; exact ⟨none, 0, h1⟩
 ·exact ⟨_, cap, h1⟩
theorem rows_grown {w w2 w3 : World} {e : TypeId} {size : Nat} {v : Value} {n : Nat} {xs : List Value} {o : Obj} (HE : Ext w w2) (HO : w2.ownsRow w.heap.size e size v n xs) (hg : (w2.alloc o).grownBy w3 v.ownBlock) : Ext w w3 := by
 have ho2 := rows_ext HO (Below.alloc (Below.refl _ w2) (Nat.le_refl _) o)
 exact Below.grown (HE.trans (Below.alloc (Below.refl _ w2) (Nat.le_refl _) o)) hg (by have := HE.size; simp; omega) (fun k hk => (ho2.lt k hk).1)
end Go.Proofs.YtajecapgmdfjcaaGreatDoor

/- The reference's natural numbers: compare returns what it is named for; one. -/
namespace Go.Proofs.YtajecapgmdfjcaaGreatDoor
open Go.RowKit Vn
set_option maxRecDepth 100000 in
set_option maxHeartbeats 1000000 in
theorem rcmp_core (aa ab : Option Addr) (ba oa ca bb ob cb : Nat) (x y : List Nat) (n : Nat) (w : World) (Hn : Hid (x.length = n)) (Hm : Hid (y.length = n)) (hn : n ≤ 100000000000)
  (Hax : Hid (0 < n → aa = some ⟨ba, oa, none⟩)) (Hay : Hid (0 < n → ab = some ⟨bb, ob, none⟩))
  (Hx : Hid (Dig 1000000000 x)) (Hy : Hid (Dig 1000000000 y)) (Hcx : RCells w ba oa n x) (Hcy : RCells w bb ob n y) :
  Calls Tryz.prog 161 #[.slice aa n ca, .slice ab n cb] w fun e w' => ∃ r : Int, e = .returned (.int .i64 r) ∧ r = cmpN (dv 1000000000 x) (dv 1000000000 y) ∧ Ext w w' := by
 have hb : (((n : Nat) : Int) != (n : Int)) = false := by simp
 go_enter Tryz.func161, Tryz.ntmps161
 go_wp2
 go_loopw [5] (fun i wr => ∃ k : Int, i = .int .i64 k ∧ -1 ≤ k ∧ k < n ∧ Hid (dv 1000000000 (x.drop (k + 1).toNat) = dv 1000000000 (y.drop (k + 1).toNat)) ∧ Ext w wr) (fun i _ => (intOf i + 1).toNat)
 case atStart => exact ⟨(n : Int) - 1, by go_num, by omega, by omega, by unfold Hid; rw [List.drop_eq_nil_of_le (by have := Hn.out; omega), List.drop_eq_nil_of_le (by have := Hm.out; omega)], Below.refl _ _⟩
 case round =>
  obtain ⟨k, rfl, hlo, hhi, HS, hE⟩ := hrel
  have HE := hid hE
  rcases Int.lt_or_le k 0 with hk | hk
  ·obtain rfl : k = -1 := by omega
   have hd : decide ((0 : Int) ≤ -1) = false := by decide
   go_wp2
   go_ret
   have := HS.out
   exact ⟨_, rfl, by rw [cmpN_eq (by simpa using this)], hE⟩
  ·obtain ⟨j, rfl⟩ := Int.eq_ofNat_of_zero_le hk
   obtain ⟨d, hd2⟩ : ∃ d, d = x.getD j 0 := ⟨_, rfl⟩
   obtain ⟨f, hf2⟩ : ∃ f, f = y.getD j 0 := ⟨_, rfl⟩
   have hcell : wr.cell? ⟨ba, oa + j, none⟩ = some (.int .i64 d) := by rw [hd2]; exact hE.cell (Hcx.out j (by omega))
   have hcelf : wr.cell? ⟨bb, ob + j, none⟩ = some (.int .i64 f) := by rw [hf2]; exact hE.cell (Hcy.out j (by omega))
   have hlt : d < 1000000000 := by rw [hd2]; exact Hx.out.get (by decide) _
   have hltf : f < 1000000000 := by rw [hf2]; exact Hy.out.get (by decide) _
   obtain rfl := Hax.out (by omega)
   obtain rfl := Hay.out (by omega)
   have Hd2 : Hid (d = x.getD j 0) := hd2
   have Hf2 : Hid (f = y.getD j 0) := hf2
   have hs := HS.out
   have Hs : Hid (dv 1000000000 (x.drop (j + 1)) = dv 1000000000 (y.drop (j + 1))) := hid (by simpa using hs)
   clear hd2 hf2 hs HS hE
   have hj : j < n := by omega
   have hge : decide ((0 : Int) ≤ (j : Int)) = true := decide_eq_true (by omega)
   have i1 : (0 : Int) ≤ (j : Int) := by omega
   have i2 : (j : Int) < (n : Int) := by omega
   rcases Nat.lt_trichotomy d f with h | h | h
   ·have h3 : decide ((d : Int) < (f : Int)) = true := decide_eq_true (by omega)
    go_wp2
    go_quiet (fail)
    go_wp2
    go_ret
    have := dv_lt_at (B := 1000000000) (by decide) Hx.out (k := j) (by have := Hn.out; omega) (by have := Hm.out; omega) Hs.out (by rw [← Hd2.out, ← Hf2.out]; exact h)
    exact ⟨_, rfl, by rw [cmpN_lt this], below_drewN HE.out _⟩
   ·have h3 : decide ((d : Int) < (f : Int)) = false := decide_eq_false (by omega)
    have h4 : decide ((f : Int) < (d : Int)) = false := decide_eq_false (by omega)
    go_wp2
    go_quiet (fail)
    go_wp2
    go_quiet (fail)
    go_wp2
    go_roundw
    case rel =>
     refine ⟨(j : Int) - 1, by go_num, by omega, by omega, ?_, below_drewN HE.out _⟩
     have e1 : ((j : Int) - 1 + 1).toNat = j := by omega
     unfold Hid
     rw [e1, dv_drop _ x j (by have := Hn.out; omega), dv_drop _ y j (by have := Hm.out; omega), Hs.out, ← Hd2.out, ← Hf2.out, h]
    case measure => simp [intOf]
   ·have h3 : decide ((d : Int) < (f : Int)) = false := decide_eq_false (by omega)
    have h4 : decide ((f : Int) < (d : Int)) = true := decide_eq_true (by omega)
    go_wp2
    go_quiet (fail)
    go_wp2
    go_quiet (fail)
    go_wp2
    go_ret
    have := dv_lt_at (B := 1000000000) (by decide) Hy.out (k := j) (by have := Hm.out; omega) (by have := Hn.out; omega) Hs.out.symm (by rw [← Hd2.out, ← Hf2.out]; exact h)
    exact ⟨_, rfl, by rw [cmpN_gt this], below_drewN (below_drewN HE.out _) _⟩
set_option maxHeartbeats 400000 in
theorem rcmp_len (aa ab : Option Addr) (n m ca cb : Nat) (w : World) (_hn : n ≤ 100000000000) (_hm : m ≤ 100000000000) (hne : n < m ∨ m < n) (r : Int) (Hr : Hid (r = cmpN n m)) :
  Calls Tryz.prog 161 #[.slice aa n ca, .slice ab m cb] w fun e w' => e = .returned (.int .i64 r) ∧ Ext w w' := by
 rcases hne with h | h
 ·have h1 : ((n : Int) == (m : Int)) = false := by simp; omega
  have h2 : ((n : Int) != (m : Int)) = true := by simp; omega
  have h3 : decide ((n : Int) < (m : Int)) = true := decide_eq_true (by omega)
  have Hr2 : Hid (r = -1) := hid (by rw [Hr.out, cmpN_lt h])
  clear Hr
  go_enter Tryz.func161, Tryz.ntmps161
  go_wp2
  go_ret
  exact ⟨by rw [Hr2.out]; rfl, Below.refl _ _⟩
 ·have h1 : ((n : Int) == (m : Int)) = false := by simp; omega
  have h2 : ((n : Int) != (m : Int)) = true := by simp; omega
  have h3 : decide ((n : Int) < (m : Int)) = false := decide_eq_false (by omega)
  have Hr2 : Hid (r = 1) := hid (by rw [Hr.out, cmpN_gt h])
  clear Hr
  go_enter Tryz.func161, Tryz.ntmps161
  go_wp2
  go_ret
  exact ⟨by rw [Hr2.out]; rfl, Below.refl _ _⟩
theorem rcmp_c (x y : Value) (M N K : Nat) (w : World) (hx : RefV w x M) (hy : RefV w y N) (sx : Sm K M) (sy : Sm K N) (hK : K ≤ 100000000) :
  Calls Tryz.prog 161 #[x, y] w fun e w' => e = .returned (.int .i64 (cmpN M N)) ∧ Ext w w' := by
 obtain ⟨a, b, off, n, cap, l, rfl, h1, h2, h3, h4, h5, h6, h7, h8⟩ := hx.open
 obtain ⟨a', b', off', n', cap', l', rfl, h1', h2', h3', h4', h5', h6', h7', h8'⟩ := hy.open
 have e1 := sx.rlen h5.out h6.out
 have e2 := sy.rlen h5'.out h6'.out
 have hv := h6.out
 have hv' := h6'.out
 have hn := h3.out
 have hn' := h3'.out
 rcases Nat.lt_trichotomy n n' with h | h | h
 ·refine rcmp_len a a' n n' cap cap' w (by omega) (by omega) (.inl h) _ (hid ?_)
  have := Norm.lt_of_len (by decide) h5.out.dig h5'.out (by omega)
  rw [cmpN_lt h, cmpN_lt (by omega)]
 ·subst h
  have := rcmp_core a a' b off cap b' off' cap' l l' n w h3 h3' (by omega) h4 h4' (hid h5.out.dig) (hid h5'.out.dig) h7 h7'
  rw [hv, hv'] at this
  refine this.mono ?_
  rintro e w' ⟨r, rfl, rfl, hb⟩
  exact ⟨rfl, hb⟩
 ·refine rcmp_len a a' n n' cap cap' w (by omega) (by omega) (.inr h) _ (hid ?_)
  have := Norm.lt_of_len (by decide) h5'.out.dig h5.out (by omega)
  rw [cmpN_gt h, cmpN_gt (by omega)]
theorem refv_one (w : World) (d : Nat) (h0 : 0 < d) (h1 : d < 1000000000) : RefV (w.alloc (.cells #[.int .i64 (d : Nat)] 2)) (.slice (some ⟨w.heap.size, 0, none⟩) 1 1) d := by
 refine ⟨[d], ⟨Dig.mk h1 Dig.nil, .inr (by simpa using h0)⟩, by simp [dv], ?_⟩
 exact SlAt.row (l := [d]) (fr := (0, 0)) (heap_alloc_new w _) 1 1 (Nat.le_refl _) (Nat.le_refl _) (by unfold maxLen; omega)
theorem rone_c (w : World) : Calls Tryz.prog 162 #[] w fun e w' => ∃ a k cap, e = .returned (.slice a k cap) ∧ RefV w' (.slice a k cap) 1 ∧ Ext w w' := by
 go_enter Tryz.func162, Tryz.ntmps162
 go_wp2
 go_ret
 exact ⟨_, _, _, rfl, refv_one w 1 (by decide) (by decide), Below.alloc (Below.refl _ w) (Nat.le_refl _) _⟩
end Go.Proofs.YtajecapgmdfjcaaGreatDoor

/- The reference's natural numbers: sum, difference return what they are named for. -/
namespace Go.Proofs.YtajecapgmdfjcaaGreatDoor
open Go.RowKit Vn
theorem rowsRoom (w : World) (n : Nat) (hn : n ≤ 1000000000000) : (w.alloc (.cells (rowOf .i64 (List.replicate n 0)) 2)).ownsRow w.heap.size 2 1 (.slice (some ⟨w.heap.size, 0, none⟩) 0 n) 0 (digs []) :=
 World.ownsRow_made w _ n (Nat.le_refl _) (by unfold maxLen; omega) (by rw [rowOf_size]; simp)
def SumS (w : World) (x y : List Nat) (k q : Nat) (v : Value) (wr : World) : Prop := ∃ o, SumR 1000000000 x y k q o ∧ wr.ownsRow w.heap.size 2 1 v k (digs o) ∧ Ext w wr
theorem SumS.start (w : World) (x y : List Nat) (c : Nat) (hc : c ≤ 1000000000000) : SumS w x y 0 0 (.slice (some ⟨w.heap.size, 0, none⟩) 0 c) (w.alloc (.cells (rowOf .i64 (List.replicate c 0)) 2)) :=
 ⟨[], SumR.start _ _ _, rowsRoom w c hc, Below.alloc (Below.refl _ w) (Nat.le_refl _) _⟩
theorem SumS.next {w w2 w3 : World} {x y : List Nat} {k q : Nat} {v v' : Value} {o : List Nat} (h : SumR 1000000000 x y k q o) (HE : Ext w w2) (hx : Dig 1000000000 x) (hy : Dig 1000000000 y) (hc : k < max x.length y.length ∨ 0 < q) (z : Nat)
  (hz : z = q + x.getD k 0 + y.getD k 0) (t : Int) (ht : t = ((z % 1000000000 : Nat) : Int))
  (HO : w2.ownsRow w.heap.size 2 1 v k (digs o)) (hg : (w2.alloc (.cells #[.int .i64 t] 2)).grownBy w3 v.ownBlock)
  (hown : w3.ownsRow w.heap.size 2 1 v' (k + 1) (digs o ++ [.int .i64 t])) : SumS w x y (k + 1) (z / 1000000000) v' w3 := by
 subst ht hz
 rw [digs_snoc] at hown
 exact ⟨_, h.step (by decide) hx hy hc, hown, rows_grown HE HO hg⟩
set_option maxRecDepth 100000 in
set_option maxHeartbeats 4000000 in
theorem rsum_core (aa ab : Option Addr) (ba oa ca bb ob cb : Nat) (x y : List Nat) (n m : Nat) (w : World) (Hn : Hid (x.length = n)) (Hm : Hid (y.length = m)) (hn : n ≤ 100000000000) (hm : m ≤ 100000000000)
  (Hax : Hid (0 < n → aa = some ⟨ba, oa, none⟩)) (Hay : Hid (0 < m → ab = some ⟨bb, ob, none⟩))
  (Hx : Hid (Norm 1000000000 x)) (Hy : Hid (Norm 1000000000 y)) (Hcx : RCells w ba oa n x) (Hcy : RCells w bb ob m y) :
  Calls Tryz.prog 193 #[.slice aa n ca, .slice ab m cb] w fun e w' => ∃ a k cap, e = .returned (.slice a k cap) ∧ RefV w' (.slice a k cap) (dv 1000000000 x + dv 1000000000 y) ∧ Ext w w' := by
 obtain ⟨i0, hi, hz0, hz1, hz2⟩ := info_parts info64
 have hmk1 := mkRoom (n + 1) ((n : Int) + 1) (by omega) (by omega)
 have hmk2 := mkRoom (m + 1) ((m : Int) + 1) (by omega) (by omega)
 go_enter Tryz.func193, Tryz.ntmps193
 go_upto_region 1 with (fail)
 go_cut [5] (fun v wx => ∃ a c, v = .slice a 0 c ∧ Hid (SumS w x y 0 0 (.slice a 0 c) wx))
 case first =>
  go_wp2_with fail
  ·go_meet
   exact ⟨_, _, rfl, hid (SumS.start w x y (m + 1) (by omega))⟩
  ·go_meet
   exact ⟨_, _, rfl, hid (SumS.start w x y (n + 1) (by omega))⟩
 case rest =>
  obtain ⟨a0, c0, rfl, H0⟩ := hcut
  clear hmk1 hmk2
  go_wp2_with fail
  go_loopg [5, 6, 7] (max n m + 1) (fun g v c i wr => ∃ (k q : Nat) (a : Option Addr) (cp : Nat), v = .slice a k cp ∧ c = .int .i64 (q : Nat) ∧ i = .int .i64 (k : Nat) ∧ g + k = max n m + 1 ∧ Hid (SumS w x y k q (.slice a k cp) wr))
  case atStart => exact ⟨0, 0, a0, c0, rfl, rfl, rfl, by omega, H0⟩
  case round =>
   obtain ⟨k, q, a, cp, rfl, rfl, rfl, hg, HS⟩ := hrel
   obtain ⟨o, hR, hown, hE⟩ := HS.out
   have HR := hid hR; have HO := hid hown; have HE := hid hE
   have hq := hR.hq
   have hsz := hE.size
   clear HS hR hown H0
   rcases Nat.lt_or_ge k n with hkn | hkn
   ·rcases Nat.lt_or_ge k m with hkm | hkm
    ·skip
     have hd1 : decide ((k : Int) < (n : Int)) = true := decide_eq_true (by omega)
     have hd2 : decide ((k : Int) < (m : Int)) = true := decide_eq_true (by omega)
     obtain ⟨d, hd⟩ : ∃ d, d = x.getD k 0 := ⟨_, rfl⟩
     have hcell : wr.cell? ⟨ba, oa + k, none⟩ = some (.int .i64 d) := by rw [hd]; exact hE.cell (Hcx.out k hkn)
     have hlt : d < 1000000000 := by rw [hd]; exact Hx.out.dig.get (by decide) _
     obtain rfl := Hax.out (by omega)
     have Hd := hid hd
     clear hd
     obtain ⟨f, hf⟩ : ∃ f, f = y.getD k 0 := ⟨_, rfl⟩
     have hcelf : wr.cell? ⟨bb, ob + k, none⟩ = some (.int .i64 f) := by rw [hf]; exact hE.cell (Hcy.out k hkm)
     have hltf : f < 1000000000 := by rw [hf]; exact Hy.out.dig.get (by decide) _
     obtain rfl := Hay.out (by omega)
     have Hf := hid hf
     clear hf
     go_wp2_with (at_builtin; refine wpList_append_own _ rfl _ _ 145 rfl w.heap.size 2 i0 (.int .i64 0) 1 8 Tryz.underlying145 hi hz0 hz1 hz2 rfl (by decide) _ _ _ rfl (rows_ext HO.out (Below.alloc (Below.refl _ wr) (Nat.le_refl _) _)) ⟨wr.heap.size, 0, none⟩ 1 1 [.int .i64 (((q : Int) + (d : Int) + (f : Int)) % 1000000000)] rfl rfl (cell_one_new _ _ _) (fun x hx => by simp at hx; subst hx; rfl) (by unfold maxLen; omega) (by omega) (by simp; omega) ?_; intro v' w3 hown' hgrow3 hnil3; obtain ⟨a5, c5, hsh5⟩ := rows_shape hown'; subst hsh5)
     go_roundg (gk - 1)
     case measure => omega
     case rel =>
      refine ⟨k + 1, (q + d + f) / 1000000000, _, _, rfl, vint (by omega), by go_num, by omega, hid (SumS.next HR.out HE.out Hx.out.dig Hy.out.dig (by have := Hn.out; have := Hm.out; omega) (q + d + f) ?_ _ (by omega) HO.out hgrow3 hown')⟩
      rw [← Hd.out, ← Hf.out]
    ·skip
     have hd1 : decide ((k : Int) < (n : Int)) = true := decide_eq_true (by omega)
     have hd2 : decide ((k : Int) < (m : Int)) = false := decide_eq_false (by omega)
     obtain ⟨d, hd⟩ : ∃ d, d = x.getD k 0 := ⟨_, rfl⟩
     have hcell : wr.cell? ⟨ba, oa + k, none⟩ = some (.int .i64 d) := by rw [hd]; exact hE.cell (Hcx.out k hkn)
     have hlt : d < 1000000000 := by rw [hd]; exact Hx.out.dig.get (by decide) _
     obtain rfl := Hax.out (by omega)
     have Hd := hid hd
     clear hd
     go_wp2_with (at_builtin; refine wpList_append_own _ rfl _ _ 145 rfl w.heap.size 2 i0 (.int .i64 0) 1 8 Tryz.underlying145 hi hz0 hz1 hz2 rfl (by decide) _ _ _ rfl (rows_ext HO.out (Below.alloc (Below.refl _ wr) (Nat.le_refl _) _)) ⟨wr.heap.size, 0, none⟩ 1 1 [.int .i64 (((q : Int) + (d : Int)) % 1000000000)] rfl rfl (cell_one_new _ _ _) (fun x hx => by simp at hx; subst hx; rfl) (by unfold maxLen; omega) (by omega) (by simp; omega) ?_; intro v' w3 hown' hgrow3 hnil3; obtain ⟨a5, c5, hsh5⟩ := rows_shape hown'; subst hsh5)
     go_roundg (gk - 1)
     case measure => omega
     case rel =>
      refine ⟨k + 1, (q + d + 0) / 1000000000, _, _, rfl, vint (by omega), by go_num, by omega, hid (SumS.next HR.out HE.out Hx.out.dig Hy.out.dig (by have := Hn.out; have := Hm.out; omega) (q + d + 0) ?_ _ (by omega) HO.out hgrow3 hown')⟩
      rw [← Hd.out, getD_ge (l := y) (by rw [Hm.out]; exact hkm)]
   ·rcases Nat.lt_or_ge k m with hkm | hkm
    ·skip
     have hd1 : decide ((k : Int) < (n : Int)) = false := decide_eq_false (by omega)
     have hd2 : decide ((k : Int) < (m : Int)) = true := decide_eq_true (by omega)
     obtain ⟨f, hf⟩ : ∃ f, f = y.getD k 0 := ⟨_, rfl⟩
     have hcelf : wr.cell? ⟨bb, ob + k, none⟩ = some (.int .i64 f) := by rw [hf]; exact hE.cell (Hcy.out k hkm)
     have hltf : f < 1000000000 := by rw [hf]; exact Hy.out.dig.get (by decide) _
     obtain rfl := Hay.out (by omega)
     have Hf := hid hf
     clear hf
     go_wp2_with (at_builtin; refine wpList_append_own _ rfl _ _ 145 rfl w.heap.size 2 i0 (.int .i64 0) 1 8 Tryz.underlying145 hi hz0 hz1 hz2 rfl (by decide) _ _ _ rfl (rows_ext HO.out (Below.alloc (Below.refl _ wr) (Nat.le_refl _) _)) ⟨wr.heap.size, 0, none⟩ 1 1 [.int .i64 (((q : Int) + (f : Int)) % 1000000000)] rfl rfl (cell_one_new _ _ _) (fun x hx => by simp at hx; subst hx; rfl) (by unfold maxLen; omega) (by omega) (by simp; omega) ?_; intro v' w3 hown' hgrow3 hnil3; obtain ⟨a5, c5, hsh5⟩ := rows_shape hown'; subst hsh5)
     go_roundg (gk - 1)
     case measure => omega
     case rel =>
      refine ⟨k + 1, (q + 0 + f) / 1000000000, _, _, rfl, vint (by omega), by go_num, by omega, hid (SumS.next HR.out HE.out Hx.out.dig Hy.out.dig (by have := Hn.out; have := Hm.out; omega) (q + 0 + f) ?_ _ (by omega) HO.out hgrow3 hown')⟩
      rw [getD_ge (l := x) (by rw [Hn.out]; exact hkn), ← Hf.out]
    ·rcases (show q = 0 ∨ q = 1 by omega) with rfl | rfl
     ·skip
      have hd1 : decide ((k : Int) < (n : Int)) = false := decide_eq_false (by omega)
      have hd2 : decide ((k : Int) < (m : Int)) = false := decide_eq_false (by omega)
      have hd3 : decide ((0 : Int) < ((0 : Nat) : Int)) = false := by decide
      obtain ⟨hN, hV⟩ := HR.out.finish (by decide) Hx.out Hy.out (by have := Hn.out; have := Hm.out; omega)
      have HN := hid hN; have HV := hid hV
      clear hN hV
      go_wp2_with fail
      go_ret
      exact ⟨_, _, _, rfl, ⟨o, HN.out, HV.out, slat_of_owns HO.out⟩, hE⟩
     ·skip
      have hd1 : decide ((k : Int) < (n : Int)) = false := decide_eq_false (by omega)
      have hd2 : decide ((k : Int) < (m : Int)) = false := decide_eq_false (by omega)
      have hkL : k ≤ max n m := by
       have h0 := HR.out.hk
       rw [Hn.out, Hm.out] at h0
       omega
      have hd3 : decide ((0 : Int) < ((1 : Nat) : Int)) = true := by decide
      go_wp2_with (at_builtin; refine wpList_append_own _ rfl _ _ 145 rfl w.heap.size 2 i0 (.int .i64 0) 1 8 Tryz.underlying145 hi hz0 hz1 hz2 rfl (by decide) _ _ _ rfl (rows_ext HO.out (Below.alloc (Below.refl _ wr) (Nat.le_refl _) _)) ⟨wr.heap.size, 0, none⟩ 1 1 [.int .i64 ((((1 : Nat) : Int)) % 1000000000)] rfl rfl (cell_one_new _ _ _) (fun x hx => by simp at hx; subst hx; rfl) (by unfold maxLen; omega) (by omega) (by simp; omega) ?_; intro v' w3 hown' hgrow3 hnil3; obtain ⟨a5, c5, hsh5⟩ := rows_shape hown'; subst hsh5)
      go_roundg (gk - 1)
      case measure => omega
      case rel =>
       refine ⟨k + 1, (1 + 0 + 0) / 1000000000, _, _, rfl, vint (by omega), by go_num, by omega, hid (SumS.next HR.out HE.out Hx.out.dig Hy.out.dig (by have := Hn.out; have := Hm.out; omega) (1 + 0 + 0) ?_ _ (by omega) HO.out hgrow3 hown')⟩
       rw [getD_ge (l := x) (by rw [Hn.out]; exact hkn), getD_ge (l := y) (by rw [Hm.out]; exact hkm)]
theorem rsum_c (x y : Value) (M N K : Nat) (w : World) (hx : RefV w x M) (hy : RefV w y N) (sx : Sm K M) (sy : Sm K N) (hK : K ≤ 100000000) :
  Calls Tryz.prog 193 #[x, y] w fun e w' => ∃ a k cap, e = .returned (.slice a k cap) ∧ RefV w' (.slice a k cap) (M + N) ∧ Ext w w' := by
 obtain ⟨a, b, off, n, cap, l, rfl, h1, h2, h3, h4, h5, h6, h7, h8⟩ := hx.open
 obtain ⟨a', b', off', n', cap', l', rfl, h1', h2', h3', h4', h5', h6', h7', h8'⟩ := hy.open
 have e1 := sx.rlen h5.out h6.out
 have e2 := sy.rlen h5'.out h6'.out
 rw [h3.out] at e1
 rw [h3'.out] at e2
 have := rsum_core a a' b off cap b' off' cap' l l' n n' w h3 h3' (by omega) (by omega) h4 h4' h5 h5' h7 h7'
 rw [h6.out, h6'.out] at this
 exact this
end Go.Proofs.YtajecapgmdfjcaaGreatDoor

/- The reference's natural numbers: difference returns what it is named for. -/
namespace Go.Proofs.YtajecapgmdfjcaaGreatDoor
open Go.RowKit Vn
def DifS (w : World) (x y : List Nat) (k q : Nat) (v : Value) (wr : World) : Prop := ∃ o, DifR 1000000000 x y k q o ∧ wr.ownsRow w.heap.size 2 1 v k (digs o) ∧ Ext w wr
theorem DifS.next {w w2 w3 : World} {x y : List Nat} {k q : Nat} {v v' : Value} {o : List Nat} (h : DifR 1000000000 x y k q o) (HE : Ext w w2) (hx : Dig 1000000000 x) (hy : Dig 1000000000 y) (hk : k < x.length) (t : Int)
  (q' : Nat) (ht : (q + y.getD k 0 ≤ x.getD k 0 ∧ q' = 0 ∧ t = ((x.getD k 0 : Nat) : Int) - q - ((y.getD k 0 : Nat) : Int)) ∨ (x.getD k 0 < q + y.getD k 0 ∧ q' = 1 ∧ t = ((x.getD k 0 : Nat) : Int) - q - ((y.getD k 0 : Nat) : Int) + 1000000000))
  (HO : w2.ownsRow w.heap.size 2 1 v k (digs o)) (hg : (w2.alloc (.cells #[.int .i64 t] 2)).grownBy w3 v.ownBlock)
  (hown : w3.ownsRow w.heap.size 2 1 v' (k + 1) (digs o ++ [.int .i64 t])) : DifS w x y (k + 1) q' v' w3 := by
 have hf := hy.get (by decide) k
 have hq := h.hq
 rcases ht with ⟨h1, rfl, rfl⟩ | ⟨h1, rfl, rfl⟩
 ·have e : ((x.getD k 0 : Nat) : Int) - q - ((y.getD k 0 : Nat) : Int) = ((x.getD k 0 - (q + y.getD k 0) : Nat) : Int) := by omega
  rw [e, digs_snoc] at hown
  exact ⟨_, h.stay hk hx (by decide) h1, hown, rows_grown HE HO hg⟩
 ·have e : ((x.getD k 0 : Nat) : Int) - q - ((y.getD k 0 : Nat) : Int) + 1000000000 = ((x.getD k 0 + 1000000000 - (q + y.getD k 0) : Nat) : Int) := by omega
  rw [e, digs_snoc] at hown
  exact ⟨_, h.lend hk hy (by decide) h1, hown, rows_grown HE HO hg⟩
set_option maxRecDepth 100000 in
set_option maxHeartbeats 4000000 in
theorem rdif_core (aa ab : Option Addr) (ba oa ca bb ob cb : Nat) (x y : List Nat) (n m : Nat) (w : World) (Hn : Hid (x.length = n)) (Hm : Hid (y.length = m)) (hxy : m ≤ n) (hn : n ≤ 100000000000)
  (Hax : Hid (0 < n → aa = some ⟨ba, oa, none⟩)) (Hay : Hid (0 < m → ab = some ⟨bb, ob, none⟩))
  (Hx : Hid (Dig 1000000000 x)) (Hy : Hid (Dig 1000000000 y)) (Hv : Hid (dv 1000000000 y ≤ dv 1000000000 x)) (Hcx : RCells w ba oa n x) (Hcy : RCells w bb ob m y) :
  Calls Tryz.prog 192 #[.slice aa n ca, .slice ab m cb] w fun e w' => ∃ a k cap, e = .returned (.slice a k cap) ∧ RefV w' (.slice a k cap) (dv 1000000000 x - dv 1000000000 y) ∧ Ext w w' := by
 obtain ⟨i0, hi, hz0, hz1, hz2⟩ := info_parts info64
 have hmk1 := mkRoom n (n : Int) (by omega) (by omega)
 go_enter Tryz.func192, Tryz.ntmps192
 go_wp2_with fail
 clear hmk1
 go_loopg [5, 6, 7] n (fun g v c i wr => ∃ (k q : Nat) (a : Option Addr) (cp : Nat), v = .slice a k cp ∧ c = .int .i64 (q : Nat) ∧ i = .int .i64 (k : Nat) ∧ g + k = n ∧ Hid (DifS w x y k q (.slice a k cp) wr))
 case atStart => exact ⟨0, 0, _, _, rfl, rfl, rfl, by omega, hid ⟨[], DifR.start _ _ _, rowsRoom w n (by omega), Below.alloc (Below.refl _ w) (Nat.le_refl _) _⟩⟩
 case round =>
  obtain ⟨k, q, a, cp, rfl, rfl, rfl, hg, HS⟩ := hrel
  obtain ⟨o, hR, hown, hE⟩ := HS.out
  have HR := hid hR; have HO := hid hown; have HE := hid hE
  have hq := hR.hq
  have hsz := hE.size
  clear HS hR hown
  rcases Nat.lt_or_ge k n with hkn | hkn
  ·have hd1 : decide ((k : Int) < (n : Int)) = true := decide_eq_true (by omega)
   obtain ⟨d, hd⟩ : ∃ d, d = x.getD k 0 := ⟨_, rfl⟩
   have hcell : wr.cell? ⟨ba, oa + k, none⟩ = some (.int .i64 d) := by rw [hd]; exact hE.cell (Hcx.out k hkn)
   have hlt : d < 1000000000 := by rw [hd]; exact Hx.out.get (by decide) _
   obtain rfl := Hax.out (by omega)
   have Hd := hid hd
   clear hd
   rcases Nat.lt_or_ge k m with hkm | hkm
   ·have hd2 : decide ((k : Int) < (m : Int)) = true := decide_eq_true (by omega)
    obtain ⟨f, hf⟩ : ∃ f, f = y.getD k 0 := ⟨_, rfl⟩
    have hcelf : wr.cell? ⟨bb, ob + k, none⟩ = some (.int .i64 f) := by rw [hf]; exact hE.cell (Hcy.out k hkm)
    have hltf : f < 1000000000 := by rw [hf]; exact Hy.out.get (by decide) _
    obtain rfl := Hay.out (by omega)
    have Hf := hid hf
    clear hf
    rcases Nat.lt_or_ge d (q + f) with hb | hb
    ·have hd3 : decide ((d : Int) - (q : Int) - (f : Int) < 0) = true := decide_eq_true (by omega)
     go_wp2_with (at_builtin; refine wpList_append_own _ rfl _ _ 145 rfl w.heap.size 2 i0 (.int .i64 0) 1 8 Tryz.underlying145 hi hz0 hz1 hz2 rfl (by decide) _ _ _ rfl (rows_ext HO.out (Below.alloc (Below.refl _ wr) (Nat.le_refl _) _)) ⟨wr.heap.size, 0, none⟩ 1 1 [.int .i64 ((d : Int) - (q : Int) - (f : Int) + 1000000000)] rfl rfl (cell_one_new _ _ _) (fun x hx => by simp at hx; subst hx; rfl) (by unfold maxLen; omega) (by omega) (by simp; omega) ?_; intro v' w3 hown' hgrow3 hnil3; obtain ⟨a5, c5, hsh5⟩ := rows_shape hown'; subst hsh5)
     go_roundg (gk - 1)
     case measure => omega
     case rel => exact ⟨k + 1, 1, _, _, rfl, rfl, by go_num, by omega, hid (DifS.next HR.out HE.out Hx.out Hy.out (by rw [Hn.out]; exact hkn) _ 1 (.inr (by rw [← Hd.out, ← Hf.out]; omega)) HO.out hgrow3 hown')⟩
    ·have hd3 : decide ((d : Int) - (q : Int) - (f : Int) < 0) = false := decide_eq_false (by omega)
     go_wp2_with (at_builtin; refine wpList_append_own _ rfl _ _ 145 rfl w.heap.size 2 i0 (.int .i64 0) 1 8 Tryz.underlying145 hi hz0 hz1 hz2 rfl (by decide) _ _ _ rfl (rows_ext HO.out (Below.alloc (Below.refl _ wr) (Nat.le_refl _) _)) ⟨wr.heap.size, 0, none⟩ 1 1 [.int .i64 ((d : Int) - (q : Int) - (f : Int))] rfl rfl (cell_one_new _ _ _) (fun x hx => by simp at hx; subst hx; rfl) (by unfold maxLen; omega) (by omega) (by simp; omega) ?_; intro v' w3 hown' hgrow3 hnil3; obtain ⟨a5, c5, hsh5⟩ := rows_shape hown'; subst hsh5)
     go_roundg (gk - 1)
     case measure => omega
     case rel => exact ⟨k + 1, 0, _, _, rfl, rfl, by go_num, by omega, hid (DifS.next HR.out HE.out Hx.out Hy.out (by rw [Hn.out]; exact hkn) _ 0 (.inl (by rw [← Hd.out, ← Hf.out]; omega)) HO.out hgrow3 hown')⟩
   ·have hd2 : decide ((k : Int) < (m : Int)) = false := decide_eq_false (by omega)
    have Hf := hid (getD_ge (l := y) (k := k) (by rw [Hm.out]; exact hkm))
    rcases Nat.lt_or_ge d q with hb | hb
    ·have hd3 : decide ((d : Int) - (q : Int) < 0) = true := decide_eq_true (by omega)
     go_wp2_with (at_builtin; refine wpList_append_own _ rfl _ _ 145 rfl w.heap.size 2 i0 (.int .i64 0) 1 8 Tryz.underlying145 hi hz0 hz1 hz2 rfl (by decide) _ _ _ rfl (rows_ext HO.out (Below.alloc (Below.refl _ wr) (Nat.le_refl _) _)) ⟨wr.heap.size, 0, none⟩ 1 1 [.int .i64 ((d : Int) - (q : Int) + 1000000000)] rfl rfl (cell_one_new _ _ _) (fun x hx => by simp at hx; subst hx; rfl) (by unfold maxLen; omega) (by omega) (by simp; omega) ?_; intro v' w3 hown' hgrow3 hnil3; obtain ⟨a5, c5, hsh5⟩ := rows_shape hown'; subst hsh5)
     go_roundg (gk - 1)
     case measure => omega
     case rel => exact ⟨k + 1, 1, _, _, rfl, rfl, by go_num, by omega, hid (DifS.next HR.out HE.out Hx.out Hy.out (by rw [Hn.out]; exact hkn) _ 1 (.inr (by rw [← Hd.out, Hf.out]; omega)) HO.out hgrow3 hown')⟩
    ·have hd3 : decide ((d : Int) - (q : Int) < 0) = false := decide_eq_false (by omega)
     go_wp2_with (at_builtin; refine wpList_append_own _ rfl _ _ 145 rfl w.heap.size 2 i0 (.int .i64 0) 1 8 Tryz.underlying145 hi hz0 hz1 hz2 rfl (by decide) _ _ _ rfl (rows_ext HO.out (Below.alloc (Below.refl _ wr) (Nat.le_refl _) _)) ⟨wr.heap.size, 0, none⟩ 1 1 [.int .i64 ((d : Int) - (q : Int))] rfl rfl (cell_one_new _ _ _) (fun x hx => by simp at hx; subst hx; rfl) (by unfold maxLen; omega) (by omega) (by simp; omega) ?_; intro v' w3 hown' hgrow3 hnil3; obtain ⟨a5, c5, hsh5⟩ := rows_shape hown'; subst hsh5)
     go_roundg (gk - 1)
     case measure => omega
     case rel => exact ⟨k + 1, 0, _, _, rfl, rfl, by go_num, by omega, hid (DifS.next HR.out HE.out Hx.out Hy.out (by rw [Hn.out]; exact hkn) _ 0 (.inl (by rw [← Hd.out, Hf.out]; omega)) HO.out hgrow3 hown')⟩
  ·obtain rfl : k = n := by omega
   have hd1 : decide ((k : Int) < (k : Int)) = false := decide_eq_false (by omega)
   have hsl := slat_of_owns HO.out
   have HV := hid (HR.out.finish (by decide) (by rw [Hn.out]) (by rw [Hn.out, Hm.out]; exact hxy) Hv.out)
   have hdig := HR.out.dig
   have hlen := HR.out.len
   go_wp2_with (go_at_call 165; refine (rtrim_c _ _ _ hsl hdig (by omega)).mono ?_; rintro e w1 ⟨a1, n1, c1, rfl, h1, hb1⟩)
   go_ret
   rw [HV.out] at h1
   exact ⟨a1, n1, c1, rfl, h1, hE.trans hb1⟩
theorem rnorm_len {l m : List Nat} (hl : Norm 1000000000 l) (hm : Norm 1000000000 m) (h : dv 1000000000 l ≤ dv 1000000000 m) : l.length ≤ m.length := by
 rcases Nat.lt_or_ge m.length l.length with hlt | hge
 ·have := Norm.lt_of_len (by decide) hm.dig hl hlt; omega
 ·exact hge
theorem rdif_c (x y : Value) (M N K : Nat) (w : World) (hx : RefV w x M) (hy : RefV w y N) (sx : Sm K M) (hK : K ≤ 100000000) (hle : N ≤ M) :
  Calls Tryz.prog 192 #[x, y] w fun e w' => ∃ a k cap, e = .returned (.slice a k cap) ∧ RefV w' (.slice a k cap) (M - N) ∧ Ext w w' := by
 obtain ⟨a, b, off, n, cap, l, rfl, h1, h2, h3, h4, h5, h6, h7, h8⟩ := hx.open
 obtain ⟨a', b', off', n', cap', l', rfl, h1', h2', h3', h4', h5', h6', h7', h8'⟩ := hy.open
 have e1 := sx.rlen h5.out h6.out
 have e2 : l'.length ≤ l.length := rnorm_len h5'.out h5.out (by rw [h6.out, h6'.out]; exact hle)
 rw [h3.out] at e1 e2
 rw [h3'.out] at e2
 have := rdif_core a a' b off cap b' off' cap' l l' n n' w h3 h3' e2 (by omega) h4 h4' (hid h5.out.dig) (hid h5'.out.dig) (hid (by rw [h6.out, h6'.out]; exact hle)) h7 h7'
 rw [h6.out, h6'.out] at this
 exact this
end Go.Proofs.YtajecapgmdfjcaaGreatDoor

/- The reference's natural numbers: product returns what it is named for. -/
namespace Go.Proofs.YtajecapgmdfjcaaGreatDoor
open Go.RowKit Vn
structure RMulRel (x y : List Nat) (n m : Nat) (w : World) (k : Nat) (o : List Nat) (wr : World) : Prop where
 hk : k ≤ n
 zero : Zero o (k + m)
 val : dv 1000000000 o = dv 1000000000 (x.take k) * dv 1000000000 y
 own : ROwn w wr w.heap.size o (n + m)
structure RMulIn (x y : List Nat) (n m : Nat) (w : World) (k d : Nat) (j c : Nat) (o : List Nat) (wr : World) : Prop where
 hj : j ≤ m
 hc : c < 1000000000
 zero : Zero o (k + m)
 val : dv 1000000000 o + c * 1000000000 ^ (k + j) = dv 1000000000 (x.take k) * dv 1000000000 y + d * dv 1000000000 (y.take j) * 1000000000 ^ k
 own : ROwn w wr w.heap.size o (n + m)
theorem rmulBound {c d f o : Nat} (hc : c < 1000000000) (hd : d < 1000000000) (hf : f < 1000000000) (ho : o < 1000000000) : c + d * f + o < 1000000000000000000 := by
 have : d * f ≤ 999999999 * 999999999 := Nat.mul_le_mul (by omega) (by omega)
 omega
theorem RMulIn.step {x y : List Nat} {n m : Nat} {w : World} {k d j c : Nat} {o : List Nat} {wr : World} (h : RMulIn x y n m w k d j c o wr) (hk : k < n) (hj : j < m) (hd : d < 1000000000) {f : Nat}
  (hf : f = y.getD j 0) (hf' : f < 1000000000) (e : Int) (he : e = (((c + d * f + o.getD (k + j) 0) % 1000000000 : Nat) : Int)) :
  RMulIn x y n m w k d (j + 1) ((c + d * f + o.getD (k + j) 0) / 1000000000) (o.set (k + j) ((c + d * f + o.getD (k + j) 0) % 1000000000)) (wr.setCell ⟨w.heap.size, k + j, none⟩ (.int .i64 e)) := by
 have hl : k + j < o.length := by rw [h.own.len]; omega
 have ho : o.getD (k + j) 0 < 1000000000 := h.own.dig.get (by decide) _
 have hb := rmulBound h.hc hd hf' ho
 refine ⟨by omega, by omega, ?_, ?_, h.own.set (Nat.le_refl _) _ _ e he (by omega)⟩
 ·intro i hi
  rw [getD_set _ _ _ _ hl, if_neg (by omega)]
  exact h.zero i hi
 ·rw [dv_take_succ', ← hf]
  exact mul_step h.val (Nat.mod_add_div _ _).symm (dv_set _ o _ _ hl)
theorem RMulIn.start {x y : List Nat} {n m : Nat} {w : World} {k : Nat} {o : List Nat} {wr : World} (h : RMulRel x y n m w k o wr) (d : Nat) : RMulIn x y n m w k d 0 0 o wr :=
 ⟨Nat.zero_le _, by decide, h.zero, by simp [h.val, dv], h.own⟩
theorem RMulIn.finish {x y : List Nat} {n m : Nat} {w : World} {k d c : Nat} {o : List Nat} {wr : World} (h : RMulIn x y n m w k d m c o wr) (hk : k < n) (hd : d = x.getD k 0) (hm : y.length = m) (e : Int) (he : e = (c : Int)) :
  RMulRel x y n m w (k + 1) (o.set (k + m) c) (wr.setCell ⟨w.heap.size, k + m, none⟩ (.int .i64 e)) := by
 have hl : k + m < o.length := by rw [h.own.len]; omega
 refine ⟨by omega, ?_, ?_, h.own.set (Nat.le_refl _) _ _ e he h.hc⟩
 ·have := h.zero.set c hl
  rwa [show k + 1 + m = k + m + 1 by omega]
 ·rw [dv_set_zero _ h.zero _ hl, h.val, dv_take_succ', ← hd, List.take_of_length_le (Nat.le_of_eq hm)]
  grind
theorem RMulIn.drewN {x y : List Nat} {n m : Nat} {w : World} {k d j c : Nat} {o : List Nat} {wr : World} (h : RMulIn x y n m w k d j c o wr) (q : Nat) : RMulIn x y n m w k d j c o (wr.drewN q) :=
 ⟨h.hj, h.hc, h.zero, h.val, h.own.ext' (below_drewN (Below.refl _ _) q)⟩
set_option maxRecDepth 100000 in
set_option maxHeartbeats 2000000 in
theorem rmul_core (aa ab : Option Addr) (ba oa ca bb ob cb : Nat) (x y : List Nat) (n m : Nat) (w : World) (Hn : Hid (x.length = n)) (Hm : Hid (y.length = m)) (hn : n ≤ 100000000000) (hm : m ≤ 100000000000)
  (Hax : Hid (0 < n → aa = some ⟨ba, oa, none⟩)) (Hay : Hid (0 < m → ab = some ⟨bb, ob, none⟩))
  (Hx : Hid (Dig 1000000000 x)) (Hy : Hid (Dig 1000000000 y)) (Hcx : RCells w ba oa n x) (Hcy : RCells w bb ob m y) :
  Calls Tryz.prog 194 #[.slice aa n ca, .slice ab m cb] w fun e w' => ∃ a k cap, e = .returned (.slice a k cap) ∧ RefV w' (.slice a k cap) (dv 1000000000 x * dv 1000000000 y) ∧ Ext w w' := by
 have hmk := mkRef (n + m) ((n : Int) + (m : Int)) (by omega) (by omega)
 go_enter Tryz.func194, Tryz.ntmps194
 go_wp2
 go_loopw [6] (fun i wr => ∃ (k : Nat) (o : List Nat), i = .int .i64 k ∧ RMulRel x y n m w k o wr) (fun i _ => n - (intOf i).toNat)
 case atStart => exact ⟨0, _, rfl, Nat.zero_le _, Zero.replicate _ _, by simp [dv_replicate, dv], ROwn.init w _⟩
 case round =>
  obtain ⟨k, o, rfl, HR⟩ := hrel
  have hk := HR.hk
  rcases Nat.lt_or_ge k n with hkn | hkn
  ·obtain ⟨d, hd2⟩ : ∃ d, d = x.getD k 0 := ⟨_, rfl⟩
   have hlt : d < 1000000000 := by rw [hd2]; exact Hx.out.get (by decide) _
   obtain rfl := Hax.out (by omega)
   have Hd2 : Hid (d = x.getD k 0) := hd2
   clear hd2
   have hd1 : decide ((k : Int) < (n : Int)) = true := decide_eq_true (by omega)
   obtain ⟨wo, rfl⟩ : ∃ wo : World, wo = wr := ⟨_, rfl⟩
   go_wp2
   go_loopw [7, 8] (fun c j wi => ∃ (q p : Nat) (o' : List Nat), j = .int .i64 p ∧ c = .int .i64 q ∧ RMulIn x y n m w k d p q o' wi) (fun _ j _ => m - (intOf j).toNat)
   case atStart => exact ⟨0, 0, o, rfl, rfl, RMulIn.start HR d⟩
   case round =>
    clear HR
    obtain ⟨q, p, o', rfl, rfl, HI⟩ := hrel
    have hj := HI.hj
    have hc := HI.hc
    have hcell : wr.cell? ⟨ba, oa + k, none⟩ = some (.int .i64 d) := by rw [Hd2.out]; exact HI.own.ext.cell (Hcx.out k hkn)
    rcases Nat.lt_or_ge p m with hpm | hpm
    ·obtain ⟨f, hf2⟩ : ∃ f, f = y.getD p 0 := ⟨_, rfl⟩
     have hcelf : wr.cell? ⟨bb, ob + p, none⟩ = some (.int .i64 f) := by rw [hf2]; exact HI.own.ext.cell (Hcy.out p hpm)
     have hltf : f < 1000000000 := by rw [hf2]; exact Hy.out.get (by decide) _
     obtain rfl := Hay.out (by omega)
     have Hf2 : Hid (f = y.getD p 0) := hf2
     clear hf2
     obtain ⟨t, ht⟩ : ∃ t, t = o'.getD (k + p) 0 := ⟨_, rfl⟩
     have hout : wr.cell? ⟨w.heap.size, k + p, none⟩ = some (.int .i64 t) := by rw [ht]; exact HI.own.cell (by omega)
     have hto : t < 1000000000 := by rw [ht]; exact HI.own.dig.get (by decide) _
     have Ht : Hid (t = o'.getD (k + p) 0) := ht
     clear ht
     have hdf : 0 ≤ (d : Int) * (f : Int) := Int.mul_nonneg (by omega) (by omega)
     have hdf2 : (d : Int) * (f : Int) ≤ 999999998000000001 := by
      have := Nat.mul_le_mul (show d ≤ 999999999 by omega) (show f ≤ 999999999 by omega)
      have h2 : ((d * f : Nat) : Int) ≤ ((999999999 * 999999999 : Nat) : Int) := Int.ofNat_le.2 this
      simpa using h2
     have hcast : ((d * f : Nat) : Int) = (d : Int) * (f : Int) := Int.natCast_mul _ _
     have Hcast := hid hcast
     clear hcast
     have hd3 : decide ((p : Int) < (m : Int)) = true := decide_eq_true (by omega)
     have i1 : (0 : Int) ≤ (k : Int) + p := by omega
     have i2 : (k : Int) + p < (n : Int) + m := by omega
     have i3 : (k : Int) < n := by omega
     have i4 : (p : Int) < m := by omega
     have i5 : (0 : Int) ≤ (k : Int) := by omega
     have i6 : (0 : Int) ≤ (p : Int) := by omega
     go_wp2
     go_quiet (fail)
     have HI2 := HI.drewN nq
     have hfr := HI2.own.free (k + p)
     have hout2 := HI2.own.cell (k := k + p) (by omega)
     go_wp2
     go_roundw
     case rel =>
      refine ⟨_, p + 1, _, by go_num, vint ?_, HI2.step hkn hpm hlt Hf2.out hltf _ ?_⟩
      ·rw [← Ht.out]; have := Hcast.out; generalize d * f = g at *; generalize (d : Int) * (f : Int) = g' at *; subst this; omega
      ·rw [← Ht.out]; have := Hcast.out; generalize d * f = g at *; generalize (d : Int) * (f : Int) = g' at *; subst this; omega
     case measure => simp [intOf]; omega
    ·obtain rfl : p = m := by omega
     have hout := HI.own.cell (k := k + p) (by omega)
     have hfr := HI.own.free (k + p)
     have hd3 : decide ((p : Int) < (p : Int)) = false := decide_eq_false (by omega)
     go_wp2
     go_roundw
     case rel => exact ⟨k + 1, _, by go_num, RMulIn.finish HI hkn Hd2.out Hm.out _ rfl⟩
     case measure => simp [intOf]; omega
  ·obtain rfl : k = n := by omega
   have HO := HR.own
   have hd1 : decide ((k : Int) < (k : Int)) = false := decide_eq_false (by omega)
   go_wp2_with (go_at_call 165; refine (rtrim_c _ _ _ (HO.slat (by unfold maxLen; omega)) HO.dig (by rw [HO.len]; omega)).mono ?_; rintro e w1 ⟨a1, n1, c1, rfl, h1, hb1⟩)
   go_ret
   have hv := HR.val
   rw [List.take_of_length_le (by rw [Hn.out]; exact Nat.le_refl _)] at hv
   rw [hv] at h1
   exact ⟨a1, n1, c1, rfl, h1, HO.ext.trans hb1⟩
theorem rmul_c (x y : Value) (M N K : Nat) (w : World) (hx : RefV w x M) (hy : RefV w y N) (sx : Sm K M) (sy : Sm K N) (hK : K ≤ 100000000) :
  Calls Tryz.prog 194 #[x, y] w fun e w' => ∃ a k cap, e = .returned (.slice a k cap) ∧ RefV w' (.slice a k cap) (M * N) ∧ Ext w w' := by
 obtain ⟨a, b, off, n, cap, l, rfl, h1, h2, h3, h4, h5, h6, h7, h8⟩ := hx.open
 obtain ⟨a', b', off', n', cap', l', rfl, h1', h2', h3', h4', h5', h6', h7', h8'⟩ := hy.open
 have e1 := sx.rlen h5.out h6.out
 have e2 := sy.rlen h5'.out h6'.out
 rw [h3.out] at e1
 rw [h3'.out] at e2
 have := rmul_core a a' b off cap b' off' cap' l l' n n' w h3 h3' (by omega) (by omega) h4 h4' (hid h5.out.dig) (hid h5'.out.dig) h7 h7'
 rw [h6.out, h6'.out] at this
 exact this
end Go.Proofs.YtajecapgmdfjcaaGreatDoor

/- The reference's natural numbers: half, odd return what they are named for. -/
namespace Go.Proofs.YtajecapgmdfjcaaGreatDoor
open Go.RowKit Vn
set_option maxHeartbeats 400000 in
theorem rodd_core (aa : Option Addr) (ba oa ca n d : Nat) (w : World) (hax : 0 < n → aa = some ⟨ba, oa, none⟩) (hd : d < 1000000000) (hcx : 0 < n → w.cell? ⟨ba, oa, none⟩ = some (.int .i64 d)) (r : Bool)
  (Hr : Hid (r = (decide (0 < n) && decide (d % 2 = 1)))) :
  Calls Tryz.prog 190 #[.slice aa n ca] w fun e w' => e = .returned (.bool r) ∧ Ext w w' := by
 rcases Nat.eq_zero_or_pos n with h0 | h0
 ·subst h0
  have hd0 : decide ((0 : Int) < ((0 : Nat) : Int)) = false := by decide
  have Hr2 : Hid (r = false) := by unfold Hid; rw [Hr.out]; simp
  clear Hr
  go_enter Tryz.func190, Tryz.ntmps190
  go_wp2
  go_ret
  exact ⟨by rw [Hr2.out]; rfl, Below.refl _ _⟩
 ·obtain rfl := hax h0
  have hc := hcx h0
  clear hax hcx
  have hd0 : decide ((0 : Int) < (n : Int)) = true := decide_eq_true (by omega)
  have Hr2 : Hid (r = decide (d % 2 = 1)) := by unfold Hid; rw [Hr.out]; simp [h0]
  clear Hr
  rcases (show d % 2 = 1 ∨ d % 2 = 0 by omega) with h2 | h2
  ·have h3 : (((d : Nat) : Int) % 2 == 1) = true := by simp; omega
   have Hr3 : Hid (r = true) := by unfold Hid; rw [Hr2.out, h2]; rfl
   go_enter Tryz.func190, Tryz.ntmps190
   go_wp2
   go_ret
   exact ⟨by rw [Hr3.out]; rfl, Below.refl _ _⟩
  ·have h3 : (((d : Nat) : Int) % 2 == 1) = false := by simp; omega
   have Hr3 : Hid (r = false) := by unfold Hid; rw [Hr2.out, h2]; rfl
   go_enter Tryz.func190, Tryz.ntmps190
   go_wp2
   go_ret
   exact ⟨by rw [Hr3.out]; rfl, Below.refl _ _⟩
theorem rodd_c (x : Value) (N : Nat) (w : World) (hx : RefV w x N) :
  Calls Tryz.prog 190 #[x] w fun e w' => e = .returned (.bool (decide (N % 2 = 1))) ∧ Ext w w' := by
 obtain ⟨a, b, off, n, cap, l, rfl, h1, h2, h3, h4, h5, h6, h7, h8⟩ := hx.open
 refine rodd_core a b off cap n (l.getD 0 0) w h4.out (h5.out.dig.get (by decide) _) (fun h => by simpa using h7.out 0 h) _ ?_
 unfold Hid
 rw [← h6.out, ← h3.out]
 match l with
 | [] => simp [dv]
 | d :: l =>
  rw [dv_cons]
  have : (d + 1000000000 * dv 1000000000 l) % 2 = d % 2 := by omega
  simp [this]
structure HalfRel (x : List Nat) (n : Nat) (w : World) (k r : Nat) (o : List Nat) (wr : World) : Prop where
 hk : k ≤ n
 hr : r < 2
 val : dv 1000000000 (x.drop k) = dv 1000000000 (o.drop k) * 2 + r
 own : ROwn w wr w.heap.size o n
theorem rdrop_set_self (l : List Nat) (k x : Nat) (h : k < l.length) : (l.set k x).drop k = x :: l.drop (k + 1) := by
 rw [List.drop_eq_getElem_cons (by simpa using h), List.getElem_set_self, List.drop_set_of_lt (by omega)]
theorem HalfRel.step {x : List Nat} {n : Nat} {w : World} {k r : Nat} {o : List Nat} {wr : World} (h : HalfRel x n w (k + 1) r o wr) (hn : x.length = n) {d : Nat}
  (hd : d = x.getD k 0) (hd' : d < 1000000000) (z : Nat) (hz : z = 1000000000 * r + d) (e : Int) (he : e = ((z / 2 : Nat) : Int)) :
  HalfRel x n w k (z % 2) (o.set k (z / 2)) (wr.setCell ⟨w.heap.size, k, none⟩ (.int .i64 e)) := by
 have hk := h.hk
 have hr := h.hr
 have hl : k < o.length := by rw [h.own.len]; omega
 have hq : z / 2 < 1000000000 := by omega
 refine ⟨by omega, Nat.mod_lt _ (by omega), ?_, h.own.set (Nat.le_refl _) k _ e he hq⟩
 rw [dv_drop _ x k (by omega), ← hd, rdrop_set_self _ _ _ hl, dv_cons, h.val]
 have := Nat.div_add_mod z 2
 generalize z / 2 = q at *
 generalize z % 2 = s at *
 generalize dv 1000000000 (o.drop (k + 1)) = D at *
 omega
set_option maxRecDepth 100000 in
set_option maxHeartbeats 1000000 in
theorem rhalf_core (aa : Option Addr) (ba oa ca : Nat) (x : List Nat) (n : Nat) (w : World) (Hn : Hid (x.length = n)) (hn : n ≤ 100000000000)
  (Hax : Hid (0 < n → aa = some ⟨ba, oa, none⟩))
  (Hx : Hid (Dig 1000000000 x)) (Hcx : RCells w ba oa n x) :
  Calls Tryz.prog 191 #[.slice aa n ca] w fun e w' => ∃ a k cap, e = .returned (.slice a k cap) ∧ RefV w' (.slice a k cap) (dv 1000000000 x / 2) ∧ Ext w w' := by
 have hmk := mkRef n (n : Int) (by omega) (by omega)
 go_enter Tryz.func191, Tryz.ntmps191
 go_wp2
 go_loopw [4, 5] (fun r i wr => ∃ (k q : Nat) (o : List Nat), i = .int .i64 ((k : Int) - 1) ∧ r = .int .i64 q ∧ HalfRel x n w k q o wr) (fun _ i _ => (intOf i + 1).toNat)
 case atStart => exact ⟨n, 0, _, by go_num, rfl, Nat.le_refl _, by decide, by rw [List.drop_eq_nil_of_le (by rw [Hn.out]; exact Nat.le_refl _), List.drop_eq_nil_of_le (by simp)]; simp [dv], ROwn.init w _⟩
 case round =>
  obtain ⟨k, q, o, rfl, rfl, HR⟩ := hrel
  have hk := HR.hk
  have hq := HR.hr
  rcases Nat.eq_zero_or_pos k with hk0 | hk0
  ·subst hk0
   have HO := HR.own
   have hd0 : decide ((0 : Int) ≤ ((0 : Nat) : Int) - 1) = false := by decide
   go_wp2_with (go_at_call 165; refine (rtrim_c _ _ _ (HO.slat (by unfold maxLen; omega)) HO.dig (by rw [HO.len]; omega)).mono ?_; rintro e w1 ⟨a1, n1, c1, rfl, h1, hb1⟩)
   go_ret
   have hv := HR.val
   simp only [List.drop_zero] at hv
   have e1 : dv 1000000000 x / 2 = dv 1000000000 o := by omega
   rw [e1]
   exact ⟨a1, n1, c1, rfl, h1, HO.ext.trans hb1⟩
  ·obtain ⟨j, rfl⟩ : ∃ j, k = j + 1 := ⟨k - 1, by omega⟩
   have ej : (((j + 1 : Nat) : Int) - 1) = (j : Int) := by omega
   rw [ej]
   obtain ⟨d, hd2⟩ : ∃ d, d = x.getD j 0 := ⟨_, rfl⟩
   have hcell : wr.cell? ⟨ba, oa + j, none⟩ = some (.int .i64 d) := by rw [hd2]; exact HR.own.ext.cell (Hcx.out j (by omega))
   have hlt : d < 1000000000 := by rw [hd2]; exact Hx.out.get (by decide) _
   obtain rfl := Hax.out (by omega)
   have hfr := HR.own.free j
   have hout := HR.own.cell (k := j) (by omega)
   have Hd2 : Hid (d = x.getD j 0) := hd2
   have hd0 : decide ((0 : Int) ≤ (j : Int)) = true := decide_eq_true (by omega)
   clear hd2 ej
   go_wp2
   go_roundw
   case rel =>
    refine ⟨j, (1000000000 * q + d) % 2, _, rfl, vint ?_, HR.step Hn.out Hd2.out hlt (1000000000 * q + d) rfl _ ?_⟩
    ·omega
    ·omega
   case measure => simp [intOf]
theorem rhalf_c (x : Value) (M K : Nat) (w : World) (hx : RefV w x M) (sx : Sm K M) (hK : K ≤ 100000000) :
  Calls Tryz.prog 191 #[x] w fun r w' => ∃ a k cap, r = .returned (.slice a k cap) ∧ RefV w' (.slice a k cap) (M / 2) ∧ Ext w w' := by
 obtain ⟨a, c, off, n, cap, l, rfl, h1', h2, h3, h4, h5, h6, h7, h8⟩ := hx.open
 have e1 := sx.rlen h5.out h6.out
 rw [h3.out] at e1
 have := rhalf_core a c off cap l n w h3 (by omega) h4 (hid h5.out.dig) h7
 rw [h6.out] at this
 exact this
end Go.Proofs.YtajecapgmdfjcaaGreatDoor

/- The reference's natural numbers: natural returns the number of a uint64. -/
namespace Go.Proofs.YtajecapgmdfjcaaGreatDoor
open Go.RowKit Vn
structure NatlR (n : Nat) (o : List Nat) (m : Nat) : Prop where
 val : dv 1000000000 o + 1000000000 ^ o.length * m = n
 dig : Dig 1000000000 o
 last : m = 0 → Norm 1000000000 o
 pow : m * 2 ^ o.length ≤ n
theorem NatlR.start (n : Nat) : NatlR n [] n := ⟨by simp [dv], Dig.nil, fun _ => Norm.nil, by simp⟩
theorem NatlR.step {n : Nat} {o : List Nat} {m : Nat} (h : NatlR n o m) (hm : 0 < m) : NatlR n (o ++ [m % 1000000000]) (m / 1000000000) := by
 have hd : Dig 1000000000 (o ++ [m % 1000000000]) := h.dig.append (Dig.mk (Nat.mod_lt _ (by decide)) Dig.nil)
 refine ⟨?_, hd, fun h0 => Norm.of_ge (by decide) hd (fun _ => ?_), ?_⟩
 ·have h1 := h.val
  rw [dv_snoc, List.length_append, List.length_singleton, Nat.pow_succ]
  have h2 := Nat.div_add_mod m 1000000000
  generalize m / 1000000000 = q at *
  generalize m % 1000000000 = s at *
  generalize dv 1000000000 o = D at *
  generalize 1000000000 ^ o.length = p at *
  subst h1
  rw [← h2]
  grind
 ·have h2 : m % 1000000000 = m := by omega
  rw [dv_snoc, h2, List.length_append, List.length_singleton, Nat.add_sub_cancel]
  have : 1 * 1000000000 ^ o.length ≤ m * 1000000000 ^ o.length := Nat.mul_le_mul_right _ hm
  omega
 ·have h1 := h.pow
  have h2 : m / 1000000000 * 2 ≤ m := by omega
  have h3 : m / 1000000000 * 2 * 2 ^ o.length ≤ m * 2 ^ o.length := Nat.mul_le_mul_right _ h2
  rw [List.length_append, List.length_singleton, Nat.pow_succ', ← Nat.mul_assoc]
  omega
theorem NatlR.few {n : Nat} {o : List Nat} {m : Nat} (h : NatlR n o m) (hm : 0 < m) (hn : n < 18446744073709551616) : o.length < 64 := by
 have h1 : 1 * 2 ^ o.length ≤ m * 2 ^ o.length := Nat.mul_le_mul_right _ hm
 have h2 := h.pow
 rcases Nat.lt_or_ge o.length 64 with h3 | h3
 ·exact h3
 ·have : 2 ^ 64 ≤ 2 ^ o.length := Nat.pow_le_pow_right (by decide) h3
  omega
end Go.Proofs.YtajecapgmdfjcaaGreatDoor
