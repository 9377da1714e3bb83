/- Natural numbers in words of 32 bits: div returns quotient and remainder. -/
import Derived.Test.YtopmjkkjlagfcaaGreatDoorW09
import Derived.Test.YtopmjkkjlagfcaaGreatDoorW03
namespace Go.Proofs.YtopmjkkjlagfcaaGreatDoor
open Go.RowKit Vn
set_option maxRecDepth 100000 in
set_option maxHeartbeats 2000000 in
theorem div_one (ax ay : Option Addr) (by_ oy cx cy n d M N K : Nat) (w : World) (hd0 : 0 < d) (hd1 : d < 4294967296) (Hay : Hid (ay = some ⟨by_, oy, none⟩)) (hcell : w.cell? ⟨by_, oy, none⟩ = some (.int .u32 d))
  (HX : Hid (NatV w (.slice ax n cx) M)) (HY : Hid (NatV w (.slice ay 1 cy) N)) (SX : Hid (Sm K M)) (SY : Hid (Sm K N)) (HK : Hid (K ≤ 50000000)) (hc : decide (cmpN M N < 0) = false) :
  Calls Tryz.prog 161 #[.slice ax n cx, .slice ay 1 cy] w fun e w' => ∃ a1 k1 c1 a2 k2 c2, e = .returned (.tuple #[.slice a1 k1 c1, .slice a2 k2 c2]) ∧ NatV w' (.slice a1 k1 c1) (M / d) ∧ NatV w' (.slice a2 k2 c2) (M % d) ∧ Ext w w' := by
 obtain rfl := Hay.out
 have Hcell := hid hcell
 clear hcell
 go_enter Tryz.func161, Tryz.ntmps161
 go_wp2_with fail
 go_step3
 go_wp2_with (go_at_call 77; refine (cmp_c _ _ M N K _ HX.out HY.out SX.out SY.out (by have := HK.out; omega)).mono ?_; rintro e w1 ⟨rfl, hb1⟩; have hcell1 := hb1.cell Hcell.out)
 refine (small_c _ M K d _ (HX.out.ext hb1) SX.out (by have := HK.out; omega) hd0 hd1).mono ?_
 rintro e w2 ⟨a2, n2, c2, rfl, h2, hb2⟩
 have hr : M % d < 4294967296 := Nat.lt_trans (Nat.mod_lt _ hd0) hd1
 obtain ⟨r, hr2⟩ : ∃ r, r = M % d := ⟨_, rfl⟩
 rw [← hr2] at hr ⊢
 have Hr := hid hr2
 clear hr2
 go_wp2_with fail
 refine (of_c _ _ (by omega) (by omega)).mono ?_
 rintro e w3 ⟨a3, n3, c3, rfl, h3, hb3⟩
 go_wp2_with fail
 (try rw [Exit.noGoto_ret])
 go_ret2
 rw [Int.toNat_natCast] at h3
 rw [Hr.out] at h3
 exact ⟨a2, n2, c2, a3, n3, c3, rfl, h2.ext hb3, h3, hb1.trans (hb2.trans hb3)⟩
theorem div_c (x y : Value) (M N K : Nat) (w : World) (hx : NatV w x M) (hy : NatV w y N) (sx : Sm K M) (sy : Sm K N) (hK : K ≤ 50000000) (hN : 0 < N) :
  Calls Tryz.prog 161 #[x, y] w fun e w' => ∃ a1 k1 c1 a2 k2 c2, e = .returned (.tuple #[.slice a1 k1 c1, .slice a2 k2 c2]) ∧ NatV w' (.slice a1 k1 c1) (M / N) ∧ NatV w' (.slice a2 k2 c2) (M % N) ∧ Ext w w' := by
 obtain ⟨a, b, off, n, cap, l, rfl, h1, h2, h3, h4, h5, h6, h7, h8⟩ := hx.open
 obtain ⟨a', b', off', n', cap', l', rfl, h1', h2', h3', h4', h5', h6', h7', h8'⟩ := hy.open
 have e1 := sx.len h5.out h6.out
 rw [h3.out] at e1
 rcases Nat.lt_or_ge M N with hlt | hge
 ·refine (div_lt a a' cap cap' n n' M N K w (hid hx) (hid hy) (hid sx) (hid sy) (hid hK) (by rw [cmpN_lt hlt]; rfl)).mono ?_
  rintro e w' ⟨rfl, hb⟩
  refine ⟨none, 0, 0, a, n, cap, rfl, ?_, ?_, hb⟩
  ·rw [Nat.div_eq_of_lt hlt]; exact NatV.zero _
  ·rw [Nat.mod_eq_of_lt hlt]; exact hx.ext hb
 ·have hc : decide (cmpN M N < 0) = false := by
   rcases Nat.eq_or_lt_of_le hge with h | h
   ·rw [cmpN_eq h.symm]; rfl
   ·rw [cmpN_gt h]; rfl
  have hlen : n' ≤ n := by
   have := norm_len h5'.out h5.out (by rw [h6.out, h6'.out]; exact hge)
   rwa [h3.out, h3'.out] at this
  have hn' : 0 < n' := by
   rcases Nat.eq_zero_or_pos n' with h | h
   ·subst h
    have : l' = [] := List.eq_nil_of_length_eq_zero h3'.out
    have h9 := h6'.out
    rw [this] at h9
    simp [dv] at h9; omega
   ·exact h
  rcases Nat.eq_or_lt_of_le (show 1 ≤ n' by omega) with h | h
  ·subst h
   have hl' : l' = [N] := by
    have hl := h3'.out
    have hv := h6'.out
    match l', hl with
    | [d], _ => simp [dv] at hv; rw [hv]
   have hd : N < 4294967296 := by
    have := h5'.out.dig
    rw [hl'] at this
    exact this N (by simp)
   have hc' := h7'.out 0 (by omega)
   rw [hl'] at hc'
   exact div_one a a' b' off' cap cap' n N M N K w hN hd (hid (h4'.out (by omega))) (by simpa using hc') (hid hx) (hid hy) (hid sx) (hid sy) (hid hK) hc
  ·exact div_core a a' cap b' off' cap' l l' n n' M N K w h3 h3' h hlen (by omega) h4' h5 h5' h7' (hid hx) (hid hy) (hid sx) (hid sy) (hid hK) h6 h6' hc
end Go.Proofs.YtopmjkkjlagfcaaGreatDoor

/- Natural numbers in words of 32 bits: gcd returns the greatest common divisor. -/
namespace Go.Proofs.YtopmjkkjlagfcaaGreatDoor
open Go.RowKit Vn
theorem NatV.len0 {w : World} {a : Option Addr} {n cap N : Nat} (h : NatV w (.slice a n cap) N) : n = 0 ↔ N = 0 := by
 obtain ⟨b, off, l, h1, h2, h3, h4, h5, h6, h7, h8⟩ := h.opens
 have hl := h3.out
 have hv := h6.out
 constructor
 ·intro h0
  have : l = [] := List.eq_nil_of_length_eq_zero (by omega)
  rw [← hv, this]; rfl
 ·intro h0
  have := h5.out.zero (by decide) (by omega)
  rw [this] at hl; simpa using hl.symm
theorem NatV.shape {w : World} {v : Value} {N : Nat} (h : NatV w v N) : ∃ a n cap, v = .slice a n cap := by
 obtain ⟨a, b, off, n, cap, l, h1, _⟩ := h.open
 exact ⟨a, n, cap, h1⟩
theorem Sm.of_le {K m n : Nat} (h : Sm K n) (hle : m ≤ n) : Sm K m := Nat.lt_of_le_of_lt hle h
set_option maxHeartbeats 1000000 in
theorem gcd_c (x y : Value) (M N K : Nat) (w : World) (hx : NatV w x M) (hy : NatV w y N) (sx : Sm K M) (sy : Sm K N) (hK : K ≤ 50000000) :
  Calls Tryz.prog 110 #[x, y] w fun e w' => ∃ a k c, e = .returned (.slice a k c) ∧ NatV w' (.slice a k c) (Nat.gcd M N) ∧ Ext w w' := by
 obtain ⟨ax, nx, cx, rfl⟩ := hx.shape
 obtain ⟨ay, ny, cy, rfl⟩ := hy.shape
 have Hx := hid hx
 have Hy := hid hy
 have Sx := hid sx
 have Sy := hid sy
 clear hx hy sx sy
 go_enter Tryz.func110, Tryz.ntmps110
 go_wp2
 go_loopg [0, 1] N (fun k p q wr => ∃ A a1 n1 c1 a2 n2 c2, p = .slice a1 n1 c1 ∧ q = .slice a2 n2 c2 ∧ Hid (NatV wr p A) ∧ Hid (NatV wr q k) ∧ Hid (Sm K A) ∧ Hid (Sm K k) ∧ Hid (Nat.gcd A k = Nat.gcd M N) ∧ Hid (Ext w wr))
 case atStart => exact ⟨M, ax, nx, cx, ay, ny, cy, rfl, rfl, Hx, Hy, Sx, Sy, hid rfl, hid (Below.refl _ _)⟩
 case round =>
  obtain ⟨A, a1, n1, c1, a2, n2, c2, rfl, rfl, HA, Hk, SA, Sk, HG, HE⟩ := hrel
  have hlen := Hk.out.len0
  rcases Nat.eq_zero_or_pos gk with h0 | h0
  ·obtain rfl : n2 = 0 := hlen.2 h0
   have hd : decide ((0 : Int) < 0) = false := by decide
   clear hlen
   have H0 := hid h0
   clear h0
   go_wp2
   go_ret
   have hg := HG.out
   rw [H0.out, Nat.gcd_zero_right] at hg
   exact ⟨a1, n1, c1, rfl, by rw [← hg]; exact HA.out, HE.out⟩
  ·have hn2 : 0 < n2 := by
    rcases Nat.eq_zero_or_pos n2 with h | h
    ·have := hlen.1 h; omega
    ·exact h
   clear hlen
   have hd : decide ((0 : Int) < (n2 : Int)) = true := decide_eq_true (by omega)
   go_wp2_with fail
   refine (div_c _ _ A gk K _ HA.out Hk.out SA.out Sk.out hK h0).mono ?_
   rintro e w2 ⟨a3, n3, c3, a4, n4, c4, rfl, h3, h4, hb⟩
   have H3 := hid h3
   have H4 := hid h4
   have Hb := hid hb
   clear h3 h4 hb
   go_wp2_with fail
   go_roundg (A % gk)
   case measure => exact Nat.mod_lt _ h0
   case rel => exact ⟨gk, a2, n2, c2, a4, n4, c4, rfl, rfl, hid (Hk.out.ext Hb.out), H4, Sk, hid (Sk.out.of_le (Nat.le_of_lt (Nat.mod_lt _ h0))), hid (by rw [← HG.out, Nat.gcd_comm A gk, Nat.gcd_rec gk A, Nat.gcd_comm]), hid (HE.out.trans Hb.out)⟩
end Go.Proofs.YtopmjkkjlagfcaaGreatDoor
