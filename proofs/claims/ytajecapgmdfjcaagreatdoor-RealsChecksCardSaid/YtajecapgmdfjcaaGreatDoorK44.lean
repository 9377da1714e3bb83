/- The reference's numbers: divisor returns the greatest common divisor. -/
import Derived.Test.YtajecapgmdfjcaaGreatDoorK43
import Derived.Test.YtajecapgmdfjcaaGreatDoorK23
namespace Go.Proofs.YtajecapgmdfjcaaGreatDoor
open Go.RowKit Vn
structure DvA (A B x y t : Nat) : Prop where
 x0 : 0 < x
 y0 : 0 < y
 g : Nat.gcd A B = 2 ^ t * Nat.gcd x y
 xa : x * 2 ^ t ≤ A
 yb : y ≤ B
theorem DvA.step {A B x y t : Nat} (h : DvA A B x y t) (hx : x % 2 = 0) (hy : y % 2 = 0) : DvA A B (x / 2) (y / 2) (t + 1) := by
 have h1 := h.x0
 have h2 := h.y0
 have h3 := h.yb
 refine ⟨by omega, by omega, ?_, ?_, by omega⟩
 ·rw [h.g, gcd_halves hx hy, Nat.pow_succ, Nat.mul_assoc]
 ·have h4 := h.xa
  have h5 : x / 2 * 2 * 2 ^ t ≤ x * 2 ^ t := Nat.mul_le_mul_right _ (by omega)
  rw [Nat.pow_succ', ← Nat.mul_assoc]; omega
theorem DvA.few {A B x y t K : Nat} (h : DvA A B x y t) (hA : A < 2 ^ K) : t < K := by
 have h1 : 1 * 2 ^ t ≤ x * 2 ^ t := Nat.mul_le_mul_right _ h.x0
 have h2 := h.xa
 rcases Nat.lt_or_ge t K with h3 | h3
 ·exact h3
 ·have : 2 ^ K ≤ 2 ^ t := Nat.pow_le_pow_right (by decide) h3
  omega
structure DvB (K G x y : Nat) : Prop where
 y0 : 0 < y
 g : Nat.gcd x y = G
 xk : x < 2 ^ K
 yk : y < 2 ^ K
 odd : G % 2 = 1
theorem DvB.halfX {K G x y : Nat} (h : DvB K G x y) (hx : x % 2 = 0) : DvB K G (x / 2) y := by
 have h1 := h.xk
 exact ⟨h.y0, by rw [gcd_half_odd hx (by rw [h.g]; exact h.odd), h.g], by omega, h.yk, h.odd⟩
theorem DvB.halfY {K G x y : Nat} (h : DvB K G x y) (hy : y % 2 = 0) : DvB K G x (y / 2) := by
 have h1 := h.yk
 have h2 := h.y0
 refine ⟨by omega, ?_, h.xk, by omega, h.odd⟩
 rw [Nat.gcd_comm, gcd_half_odd hy (by rw [Nat.gcd_comm, h.g]; exact h.odd), Nat.gcd_comm, h.g]
theorem DvB.less {K G x y : Nat} (h : DvB K G x y) (hle : y ≤ x) : DvB K G (x - y) y := by
 have h1 := h.xk
 exact ⟨h.y0, by rw [gcd_less hle, h.g], by omega, h.yk, h.odd⟩
theorem DvB.turn {K G x y : Nat} (h : DvB K G x y) (h0 : 0 < x) : DvB K G y x := ⟨h0, by rw [Nat.gcd_comm, h.g], h.yk, h.xk, h.odd⟩
theorem DvB.one {K G x : Nat} (h : DvB K G x 1) : 1 = G := by rw [← h.g]; exact (Nat.gcd_one_right x).symm
theorem DvB.nought {K G y : Nat} (h : DvB K G 0 y) : y = G := by rw [← h.g]; exact (Nat.gcd_zero_left y).symm
theorem DvA.to {A B x y t K : Nat} (h : DvA A B x y t) (ho : x % 2 = 1 ∨ y % 2 = 1) (hA : A < 2 ^ K) (hB : B < 2 ^ K) : DvB K (Nat.gcd x y) x y := by
 have h1 := h.yb
 have h2 := h.xa
 have h3 : x * 1 ≤ x * 2 ^ t := Nat.mul_le_mul_left _ (Nat.pow_pos (by decide))
 refine ⟨h.y0, rfl, by omega, by omega, ?_⟩
 rcases ho with h4 | h4
 ·exact odd_of_dvd (Nat.gcd_dvd_left _ _) h4
 ·exact odd_of_dvd (Nat.gcd_dvd_right _ _) h4
theorem RefV.n1 {w : World} {a : Option Addr} {n c : Nat} (h : RefV w (.slice a n c) 1) : n = 1 := by
 have h0 := h.len0
 obtain ⟨a', b, off, n', cap, l, h1, _, _, h4, _, h6, h7, _, _⟩ := h.open
 obtain ⟨rfl, rfl, rfl⟩ : a = a' ∧ n = n' ∧ c = cap := by simpa using h1
 have h8 : l.length ≤ 1 := rlen_le h6.out (by rw [h7.out]; decide)
 have h9 := h4.out
 omega
theorem RefV.cell1 {w : World} {a : Option Addr} {c Q : Nat} (h : RefV w (.slice a 1 c) Q) : ∃ b off, a = some ⟨b, off, none⟩ ∧ w.cell? ⟨b, off, none⟩ = some (.int .i64 (Q : Nat)) := by
 obtain ⟨a', b, off, n', cap, l, h1, _, _, h4, h5, h6, h7, h8, _⟩ := h.open
 obtain ⟨rfl, rfl, rfl⟩ : a = a' ∧ 1 = n' ∧ c = cap := by simpa using h1
 refine ⟨b, off, h5.out (by decide), ?_⟩
 have h9 := h8.out 0 (by decide)
 rw [Nat.add_zero] at h9
 rw [h9]
 have h10 := h4.out
 match l, h10 with
 | [d], _ =>
  have h11 := h7.out
  rw [dv_cons, dv_nil, Nat.mul_zero, Nat.add_zero] at h11
  rw [← h11]; rfl
set_option maxRecDepth 100000 in
set_option maxHeartbeats 4000000 in
theorem rgcd_core (a b : Option Addr) (n c n' c' A B K : Nat) (w : World) (HA : Hid (RefV w (.slice a n c) A)) (HB : Hid (RefV w (.slice b n' c') B)) (SA : Hid (Sm K A)) (SB : Hid (Sm K B)) (HK : Hid (K ≤ 30000000)) (hK : K ≤ 30000000) (hB : 0 < B) :
  Calls Tryz.prog 163 #[.slice a n c, .slice b n' c'] w fun e w' => ∃ a k cap, e = .returned (.slice a k cap) ∧ Hid (RefV w' (.slice a k cap) (Nat.gcd A B)) ∧ Ext w w' := by
 have CD := hid (rdiv_c _ _ A B K w HA.out HB.out SA.out SB.out (by omega) hB)
 have CH : Hid (∀ w v m, m < 2 ^ K → RefV w v m → Calls Tryz.prog 191 #[v] w fun e w' => ∃ a k cap, e = .returned (.slice a k cap) ∧ Hid (RefV w' (.slice a k cap) (m / 2)) ∧ Ext w w') := hid fun w v m h1 h2 => rhalf_c v m K w h2 h1 (by omega)
 go_enter Tryz.func163, Tryz.ntmps163
 go_upto_region 2 with (go_at_call 164; refine CD.out.mono ?_; rintro e w1 ⟨q1, q2, q3, a1, n1, c1, rfl, hq, hr, hb1⟩; have HE1 := hid hb1; have HR := hid hr; clear hq hr hb1)
 obtain ⟨R, hR⟩ : ∃ R, R = A % B := ⟨_, rfl⟩
 rw [← hR] at HR
 have HG : Hid (Nat.gcd A B = Nat.gcd R B) := hid (by rw [hR, Nat.gcd_comm A B, Nat.gcd_rec, Nat.gcd_comm])
 have SR : Hid (R < B) := hid (by rw [hR]; exact Nat.mod_lt _ hB)
 clear hR
 have hlen := HR.out.len0
 rcases Nat.eq_zero_or_pos R with h0 | h0
 ·obtain rfl : n1 = 0 := hlen.2 h0
  have H0 := hid h0
  clear hlen h0
  go_wp2_with fail
  go_ret
  refine ⟨_, _, _, rfl, hid ?_, HE1.out⟩
  rw [HG.out, H0.out, Nat.gcd_zero_left]
  exact HB.out.ext HE1.out
 ·have hn1 : ((n1 : Int) == 0) = false := by simp; intro e; have := hlen.1 e; omega
  clear hlen
  have HRK : Hid (R < 2 ^ K) := hid (Nat.lt_trans SR.out SB.out)
  go_upto_block 0 with (fail)
  go_cut [0, 1, 5] (fun x y t wx => ∃ (a : Option Addr) (n c : Nat) (a' : Option Addr) (n' c' X Y T : Nat), x = .slice a n c ∧ y = .slice a' n' c' ∧ t = .int .i64 (T : Nat) ∧ Hid (DvA R B X Y T) ∧ Hid (X % 2 = 1 ∨ Y % 2 = 1) ∧ Hid (RefV wx (.slice a n c) X) ∧ Hid (RefV wx (.slice a' n' c') Y) ∧ Hid (Ext w wx))
  case first =>
   go_wp2_with fail
   go_loopg [0, 1, 5] R (fun g x y t wx => ∃ (a : Option Addr) (n c : Nat) (a' : Option Addr) (n' c' Y T : Nat), x = .slice a n c ∧ y = .slice a' n' c' ∧ t = .int .i64 (T : Nat) ∧ Hid (DvA R B g Y T) ∧ Hid (RefV wx (.slice a n c) g) ∧ Hid (RefV wx (.slice a' n' c') Y) ∧ Hid (Ext w wx))
   case atStart => exact ⟨_, _, _, _, _, _, B, 0, rfl, rfl, rfl, hid ⟨h0, hB, by simp, by simp, Nat.le_refl _⟩, HR, hid (HB.out.ext HE1.out), HE1⟩
   case round =>
    clear HR hn1 h0
    obtain ⟨a2, n2, c2, a3, n3, c3, Y, T, rfl, rfl, rfl, HD, HX, HY, HE⟩ := hrel
    have hT : T < K := HD.out.few HRK.out
    have hx0 := HD.out.x0
    rcases (show gk % 2 = 1 ∨ gk % 2 = 0 by omega) with hgx | hgx
    ·have CO : Hid (∀ w, RefV w (.slice a2 n2 c2) gk → Calls Tryz.prog 190 #[.slice a2 n2 c2] w fun e w' => e = .returned (.bool true) ∧ Ext w w') := hid fun w h => by
      have := rodd_c _ gk w h
      rwa [decide_eq_true hgx] at this
     have HGX := hid hgx
     clear hgx
     go_wp2_with (go_at_call 190; refine (CO.out _ HX.out).mono ?_; rintro e w2 ⟨rfl, hb2⟩; have HB2 := hid hb2; clear hb2)
     go_meet
     exact ⟨_, _, _, _, _, _, _, _, _, rfl, rfl, rfl, HD, hid (.inl HGX.out), hid (HX.out.ext HB2.out), hid (HY.out.ext HB2.out), hid (HE.out.trans HB2.out)⟩
    ·have CO : Hid (∀ w, RefV w (.slice a2 n2 c2) gk → Calls Tryz.prog 190 #[.slice a2 n2 c2] w fun e w' => e = .returned (.bool false) ∧ Ext w w') := hid fun w h => by
      have := rodd_c _ gk w h
      rwa [decide_eq_false (by omega)] at this
     have HGX := hid hgx
     clear hgx
     rcases (show Y % 2 = 1 ∨ Y % 2 = 0 by omega) with hgy | hgy
     ·have CP : Hid (∀ w, RefV w (.slice a3 n3 c3) Y → Calls Tryz.prog 190 #[.slice a3 n3 c3] w fun e w' => e = .returned (.bool true) ∧ Ext w w') := hid fun w h => by
       have := rodd_c _ Y w h
       rwa [decide_eq_true hgy] at this
      have HGY := hid hgy
      clear hgy
      go_wp2_with fail
      refine (CO.out _ HX.out).mono ?_; rintro e w2 ⟨rfl, hb2⟩; have HB2 := hid hb2; clear hb2
      go_wp2_with fail
      refine (CP.out _ (HY.out.ext HB2.out)).mono ?_; rintro e w3 ⟨rfl, hb3⟩; have HB3 := hid hb3; clear hb3
      go_wp2_with fail
      go_meet
      exact ⟨_, _, _, _, _, _, _, _, _, rfl, rfl, rfl, HD, hid (.inr HGY.out), hid (HX.out.ext (HB2.out.trans HB3.out)), hid (HY.out.ext (HB2.out.trans HB3.out)), hid (HE.out.trans (HB2.out.trans HB3.out))⟩
     ·have CP : Hid (∀ w, RefV w (.slice a3 n3 c3) Y → Calls Tryz.prog 190 #[.slice a3 n3 c3] w fun e w' => e = .returned (.bool false) ∧ Ext w w') := hid fun w h => by
       have := rodd_c _ Y w h
       rwa [decide_eq_false (by omega)] at this
      have HGY := hid hgy
      have HXK : Hid (gk < 2 ^ K) := hid (by
       have h1 : gk * 1 ≤ gk * 2 ^ T := Nat.mul_le_mul_left _ (Nat.pow_pos (by decide))
       have := HD.out.xa
       have := HRK.out
       omega)
      have HYK : Hid (Y < 2 ^ K) := hid (Nat.lt_of_le_of_lt HD.out.yb SB.out)
      clear hgy
      go_wp2_with fail
      refine (CO.out _ HX.out).mono ?_; rintro e w2 ⟨rfl, hb2⟩; have HB2 := hid hb2; clear hb2
      go_wp2_with fail
      refine (CP.out _ (HY.out.ext HB2.out)).mono ?_; rintro e w3 ⟨rfl, hb3⟩; have HB3 := hid hb3; clear hb3
      go_wp2_with fail
      refine (CH.out _ _ gk HXK.out (HX.out.ext (HB2.out.trans HB3.out))).mono ?_; rintro e w4 ⟨a4, n4, c4, rfl, HX4, hb4⟩; have HB4 := hid hb4; clear hb4
      go_wp2_with fail
      refine (CH.out _ _ Y HYK.out (HY.out.ext (HB2.out.trans (HB3.out.trans HB4.out)))).mono ?_; rintro e w5 ⟨a5, n5, c5, rfl, HY5, hb5⟩; have HB5 := hid hb5; clear hb5
      go_wp2_with fail
      go_roundg (gk / 2)
      case measure => omega
      case rel => exact ⟨_, _, _, _, _, _, Y / 2, T + 1, rfl, rfl, by go_num, hid (HD.out.step HGX.out HGY.out), hid (HX4.out.ext HB5.out), HY5, hid (HE.out.trans (HB2.out.trans (HB3.out.trans (HB4.out.trans HB5.out))))⟩
  case rest =>
   obtain ⟨a2, n2, c2, a3, n3, c3, X, Y, T, rfl, rfl, rfl, HD, HO, HX, HY, HE⟩ := hcut
   obtain ⟨wd, rfl⟩ : ∃ x, x = wc := ⟨_, rfl⟩
   have HT : T < K := HD.out.few HRK.out
   obtain ⟨G, hG⟩ : ∃ G, G = Nat.gcd X Y := ⟨_, rfl⟩
   have HD2 : Hid (DvB K G X Y) := hid (by rw [hG]; exact HD.out.to HO.out HRK.out SB.out)
   have HGG : Hid (Nat.gcd A B = 2 ^ T * G) := hid (by rw [HG.out, HD.out.g, hG])
   have HGK : Hid (2 ^ T * G < 2 ^ K) := hid (by
    rw [← HGG.out]
    exact Nat.lt_of_le_of_lt (Nat.gcd_le_right _ hB) SB.out)
   clear hG HD HO HR hn1 h0 CD HG SR HRK
   go_upto_block 2 with (fail)
   go_cut [1] (fun y wx => ∃ (a : Option Addr) (n c : Nat), y = .slice a n c ∧ Hid (RefV wx (.slice a n c) G) ∧ Hid (Ext w wx))
   case first =>
    go_wp2_with fail
    go_loopg [0, 1] (X + Y) (fun g x y wx => ∃ (a : Option Addr) (n c : Nat) (a' : Option Addr) (n' c' P Q : Nat), x = .slice a n c ∧ y = .slice a' n' c' ∧ g = P + Q ∧ Hid (DvB K G P Q) ∧ Hid (RefV wx (.slice a n c) P) ∧ Hid (RefV wx (.slice a' n' c') Q) ∧ Hid (Ext w wx))
    case atStart => exact ⟨_, _, _, _, _, _, X, Y, rfl, rfl, rfl, HD2, HX, HY, HE⟩
    case round =>
     clear HD2 HX HY HE HT HGG HGK
     obtain ⟨a4, n4, c4, a5, n5, c5, P, Q, rfl, rfl, hg, HD, HP, HQ, HE⟩ := hrel
     have HGM := hid hg
     clear hg
     have hlen := HP.out.len0
     rcases Nat.eq_zero_or_pos P with h0 | h0
     ·obtain rfl : n4 = 0 := hlen.2 h0
      have hd : decide ((0 : Int) < 0) = false := by decide
      have H0 := hid h0
      clear hlen h0
      go_wp2_with fail
      go_meet
      exact ⟨_, _, _, rfl, hid (by rw [← (show DvB K G 0 Q from by rw [← H0.out]; exact HD.out).nought]; exact HQ.out), HE⟩
     ·have hn4 : 0 < n4 := by
       rcases Nat.eq_zero_or_pos n4 with h | h
       ·have := hlen.1 h; omega
       ·exact h
      have hd : decide ((0 : Int) < (n4 : Int)) = true := decide_eq_true (by omega)
      clear hlen
      obtain ⟨wo, rfl⟩ : ∃ x, x = wr := ⟨_, rfl⟩
      go_upto_block 4 with (fail)
      clear hd hn4
      go_cut [0] (fun x wx => ∃ (a : Option Addr) (n c P' : Nat), x = .slice a n c ∧ 0 < P' ∧ P' ≤ P ∧ Hid (P' % 2 = 1) ∧ Hid (DvB K G P' Q) ∧ Hid (RefV wx (.slice a n c) P') ∧ Hid (Ext wo wx))
      case first =>
       go_wp2_with fail
       go_loopg [0] P (fun g x wx => ∃ (a : Option Addr) (n c : Nat), x = .slice a n c ∧ 0 < g ∧ g ≤ P ∧ Hid (DvB K G g Q) ∧ Hid (RefV wx (.slice a n c) g) ∧ Hid (Ext wo wx))
       case atStart => exact ⟨_, _, _, rfl, h0, Nat.le_refl _, HD, HP, hid (Below.refl _ _)⟩
       case round =>
        clear HD HP h0 HE
        obtain ⟨a6, n6, c6, rfl, h0, h1, HD, HP, HE⟩ := hrel
        rcases (show gk % 2 = 1 ∨ gk % 2 = 0 by omega) with hp | hp
        ·have CO : Hid (∀ w, RefV w (.slice a6 n6 c6) gk → Calls Tryz.prog 190 #[.slice a6 n6 c6] w fun e w' => e = .returned (.bool true) ∧ Ext w w') := hid fun w h => by
          have := rodd_c _ gk w h
          rwa [decide_eq_true hp] at this
         have H0 := hid hp
         clear hp
         go_wp2_with fail
         refine (CO.out _ HP.out).mono ?_; rintro e w2 ⟨rfl, hb2⟩; have HB2 := hid hb2; clear hb2
         go_wp2_with fail
         go_meet
         exact ⟨_, _, _, gk, rfl, h0, h1, H0, HD, hid (HP.out.ext HB2.out), hid (HE.out.trans HB2.out)⟩
        ·have CO : Hid (∀ w, RefV w (.slice a6 n6 c6) gk → Calls Tryz.prog 190 #[.slice a6 n6 c6] w fun e w' => e = .returned (.bool false) ∧ Ext w w') := hid fun w h => by
          have := rodd_c _ gk w h
          rwa [decide_eq_false (by omega)] at this
         have H0 := hid hp
         clear hp
         go_wp2_with fail
         refine (CO.out _ HP.out).mono ?_; rintro e w2 ⟨rfl, hb2⟩; have HB2 := hid hb2; clear hb2
         go_wp2_with fail
         refine (CH.out _ _ gk HD.out.xk (HP.out.ext HB2.out)).mono ?_; rintro e w3 ⟨a7, n7, c7, rfl, HP3, hb3⟩; have HB3 := hid hb3; clear hb3
         go_wp2_with fail
         go_roundg (gk / 2)
         case measure => omega
         case rel => exact ⟨_, _, _, rfl, by have := H0.out; omega, by omega, hid (HD.out.halfX H0.out), HP3, hid (HE.out.trans (HB2.out.trans HB3.out))⟩
      case rest =>
       obtain ⟨a6, n6, c6, P1, rfl, hp0, hp1, HPO, HDa, HPa, HEa⟩ := hcut
       obtain ⟨wp, rfl⟩ : ∃ x, x = wc := ⟨_, rfl⟩
       have HQa := hid (HQ.out.ext HEa.out)
       have HEb := hid (HE.out.trans HEa.out)
       have hq0 := HDa.out.y0
       clear HD HP HQ HE HEa
       go_upto_block 6 with (fail)
       go_cut [1] (fun x wx => ∃ (a : Option Addr) (n c Q' : Nat), x = .slice a n c ∧ 0 < Q' ∧ Q' ≤ Q ∧ Hid (Q' % 2 = 1) ∧ Hid (DvB K G P1 Q') ∧ Hid (RefV wx (.slice a n c) Q') ∧ Hid (Ext wp wx))
       case first =>
        go_wp2_with fail
        go_loopg [1] Q (fun g x wx => ∃ (a : Option Addr) (n c : Nat), x = .slice a n c ∧ 0 < g ∧ g ≤ Q ∧ Hid (DvB K G P1 g) ∧ Hid (RefV wx (.slice a n c) g) ∧ Hid (Ext wp wx))
        case atStart => exact ⟨_, _, _, rfl, hq0, Nat.le_refl _, HDa, HQa, hid (Below.refl _ _)⟩
        case round =>
         clear HDa HQa hq0 HEb HPa
         obtain ⟨a6, n6, c6, rfl, h0, h1, HD, HP, HE⟩ := hrel
         rcases (show gk % 2 = 1 ∨ gk % 2 = 0 by omega) with hp | hp
         ·have CO : Hid (∀ w, RefV w (.slice a6 n6 c6) gk → Calls Tryz.prog 190 #[.slice a6 n6 c6] w fun e w' => e = .returned (.bool true) ∧ Ext w w') := hid fun w h => by
           have := rodd_c _ gk w h
           rwa [decide_eq_true hp] at this
          have H0 := hid hp
          clear hp
          go_wp2_with fail
          refine (CO.out _ HP.out).mono ?_; rintro e w2 ⟨rfl, hb2⟩; have HB2 := hid hb2; clear hb2
          go_wp2_with fail
          go_meet
          exact ⟨_, _, _, gk, rfl, h0, h1, H0, HD, hid (HP.out.ext HB2.out), hid (HE.out.trans HB2.out)⟩
         ·have CO : Hid (∀ w, RefV w (.slice a6 n6 c6) gk → Calls Tryz.prog 190 #[.slice a6 n6 c6] w fun e w' => e = .returned (.bool false) ∧ Ext w w') := hid fun w h => by
           have := rodd_c _ gk w h
           rwa [decide_eq_false (by omega)] at this
          have H0 := hid hp
          clear hp
          go_wp2_with fail
          refine (CO.out _ HP.out).mono ?_; rintro e w2 ⟨rfl, hb2⟩; have HB2 := hid hb2; clear hb2
          go_wp2_with fail
          refine (CH.out _ _ gk HD.out.yk (HP.out.ext HB2.out)).mono ?_; rintro e w3 ⟨a7, n7, c7, rfl, HP3, hb3⟩; have HB3 := hid hb3; clear hb3
          go_wp2_with fail
          go_roundg (gk / 2)
          case measure => omega
          case rel => exact ⟨_, _, _, rfl, by have := H0.out; omega, by omega, hid (HD.out.halfY H0.out), HP3, hid (HE.out.trans (HB2.out.trans HB3.out))⟩
       case rest =>
        obtain ⟨a7, n7, c7, Q1, rfl, hq1, hq2, HQO, HDb, HQb, HEc⟩ := hcut
        obtain ⟨wq, rfl⟩ : ∃ x, x = wc := ⟨_, rfl⟩
        have HPb := hid (HPa.out.ext HEc.out)
        have HEd := hid (HEb.out.trans HEc.out)
        clear HDa HPa HQa HEb HEc hq0
        go_upto_region 13 with (fail)
        go_cut [52] (fun x wx => x = .bool (decide (Q1 = 1)) ∧ Hid (Ext wq wx))
        case first =>
         by_cases hn : n7 = 1
         ·subst hn
          obtain ⟨bb, ob, rfl, hcell⟩ := HQb.out.cell1
          have e1 : decide ((Q1 : Int) = 1) = decide (Q1 = 1) := by rw [decide_eq_decide]; omega
          have e2 : ((Q1 : Int) == 1) = decide (Q1 = 1) := by rw [← e1]; rfl
          obtain ⟨bq, hbq⟩ : ∃ b, b = decide (Q1 = 1) := ⟨_, rfl⟩
          rw [← hbq] at e2
          have HBQ := hid hbq
          clear e1 hbq
          go_wp2_with fail
          go_meet
          exact ⟨by rw [HBQ.out], hid (Below.refl _ _)⟩
         ·have hb : ((n7 : Int) == 1) = false := by simp; omega
          have hd : decide (Q1 = 1) = false := decide_eq_false (fun e => hn (RefV.n1 (by have := HQb.out; rwa [e] at this)))
          go_wp2_with fail
          go_meet
          exact ⟨by rw [hd], hid (Below.refl _ _)⟩
        case rest =>
         obtain ⟨rfl, HEe⟩ := hcut
         obtain ⟨wu, rfl⟩ : ∃ x, x = wc := ⟨_, rfl⟩
         rcases Nat.lt_or_ge 1 Q1 with hq | hq
         ·have hd1 : decide (Q1 = 1) = false := decide_eq_false (by omega)
          have CC : Hid (∀ w u v, RefV w u P1 → RefV w v Q1 → Calls Tryz.prog 161 #[u, v] w fun e w' => e = .returned (.int .i64 (cmpN P1 Q1)) ∧ Ext w w') := hid fun w u v h1 h2 => rcmp_c u v P1 Q1 K w h1 h2 HDb.out.xk HDb.out.yk (by have := HK.out; omega)
          have CDF : Hid (∀ w u v m n, m < 2 ^ K → n ≤ m → RefV w u m → RefV w v n → Calls Tryz.prog 192 #[u, v] w fun e w' => ∃ a k cap, e = .returned (.slice a k cap) ∧ Hid (RefV w' (.slice a k cap) (m - n)) ∧ Ext w w') := hid fun w u v m n h1 h2 h3 h4 => rdif_c u v m n K w h3 h4 h1 (by have := HK.out; omega) h2
          rcases Nat.lt_or_ge P1 Q1 with hlt | hge
          ·have hcm : cmpN P1 Q1 = -1 := cmpN_lt hlt
           rw [hcm] at CC
           have hdc : decide ((-1 : Int) < 0) = true := by decide
           clear hcm
           go_wp2_with fail
           refine (CC.out _ _ _ (HPb.out.ext HEe.out) (HQb.out.ext HEe.out)).mono ?_; rintro e w2 ⟨rfl, hb2⟩; have HB2 := hid (HEe.out.trans hb2); clear hb2
           go_wp2_with fail
           refine (CDF.out _ _ _ Q1 P1 HDb.out.yk (Nat.le_of_lt hlt) (HQb.out.ext HB2.out) (HPb.out.ext HB2.out)).mono ?_; rintro e w3 ⟨a8, n8, c8, rfl, H8, hb3⟩; have HB3 := hid hb3; clear hb3
           go_wp2_with fail
           go_roundg (Q1 - P1 + P1)
           case measure => have := HGM.out; omega
           case rel => exact ⟨_, _, _, _, _, _, Q1 - P1, P1, rfl, rfl, rfl, hid ((HDb.out.turn hp0).less (Nat.le_of_lt hlt)), H8, hid (HPb.out.ext (HB2.out.trans HB3.out)), hid (HEd.out.trans (HB2.out.trans HB3.out))⟩
          ·obtain ⟨cc, hcc⟩ : ∃ c, c = cmpN P1 Q1 := ⟨_, rfl⟩
           rw [← hcc] at CC
           have hdc : decide (cc < 0) = false := decide_eq_false (by
            rw [hcc]; unfold cmpN
            split
            ·omega
            ·split <;> omega)
           clear hcc
           go_wp2_with fail
           refine (CC.out _ _ _ (HPb.out.ext HEe.out) (HQb.out.ext HEe.out)).mono ?_; rintro e w2 ⟨rfl, hb2⟩; have HB2 := hid (HEe.out.trans hb2); clear hb2
           go_wp2_with fail
           refine (CDF.out _ _ _ P1 Q1 HDb.out.xk hge (HPb.out.ext HB2.out) (HQb.out.ext HB2.out)).mono ?_; rintro e w3 ⟨a8, n8, c8, rfl, H8, hb3⟩; have HB3 := hid hb3; clear hb3
           go_wp2_with fail
           go_roundg (P1 - Q1 + Q1)
           case measure => have := HGM.out; omega
           case rel => exact ⟨_, _, _, _, _, _, P1 - Q1, Q1, rfl, rfl, rfl, hid (HDb.out.less hge), H8, hid (HQb.out.ext (HB2.out.trans HB3.out)), hid (HEd.out.trans (HB2.out.trans HB3.out))⟩
         ·obtain rfl : Q1 = 1 := by omega
          have hd1 : decide ((1 : Nat) = 1) = true := by decide
          go_wp2_with fail
          go_meet
          exact ⟨_, _, _, rfl, hid (by rw [← HDb.out.one]; exact HQb.out.ext HEe.out), hid (HEd.out.trans HEe.out)⟩
   case rest =>
    obtain ⟨a4, n4, c4, rfl, HY4, HE4⟩ := hcut
    obtain ⟨wz, rfl⟩ : ∃ x, x = wc := ⟨_, rfl⟩
    clear HD2 HX HY HE
    have CS : Hid (∀ w v t, t < T → RefV w v (2 ^ t * G) → Calls Tryz.prog 193 #[v, v] w fun e w' => ∃ a k cap, e = .returned (.slice a k cap) ∧ Hid (RefV w' (.slice a k cap) (2 ^ (t + 1) * G)) ∧ Ext w w') := hid fun w v t ht h => by
     have hs : Sm K (2 ^ t * G) := Nat.lt_of_le_of_lt (Nat.mul_le_mul_right _ (Nat.pow_le_pow_right (by decide) (Nat.le_of_lt ht))) HGK.out
     have h2 := rsum_c v v _ _ K w h h hs hs (by have := HK.out; omega)
     rw [show 2 ^ t * G + 2 ^ t * G = 2 ^ (t + 1) * G from by rw [Nat.pow_succ, Nat.mul_right_comm]; omega] at h2
     exact h2
    go_wp2_with fail
    go_loopg [1, 6] T (fun g y i wx => ∃ (a : Option Addr) (n c I : Nat), y = .slice a n c ∧ i = .int .i64 (I : Nat) ∧ g + I = T ∧ Hid (RefV wx (.slice a n c) (2 ^ I * G)) ∧ Hid (Ext w wx))
    case atStart => exact ⟨_, _, _, 0, rfl, by go_num, by omega, hid (by have := HY4.out; simpa using this), HE4⟩
    case round =>
     clear HY4 HE4
     obtain ⟨a5, n5, c5, I, rfl, rfl, hI, HY5, HE5⟩ := hrel
     rcases Nat.eq_zero_or_pos gk with h0 | h0
     ·obtain rfl : I = T := by omega
      have hd : decide ((I : Int) < (I : Int)) = false := by simp
      clear hI
      go_wp2_with fail
      go_ret
      exact ⟨_, _, _, rfl, hid (by rw [HGG.out]; exact HY5.out), HE5.out⟩
     ·have hIT : I < T := by omega
      have hd : decide ((I : Int) < (T : Int)) = true := decide_eq_true (by omega)
      go_wp2_with fail
      refine (CS.out _ _ I hIT HY5.out).mono ?_; rintro e w2 ⟨a6, n6, c6, rfl, HY6, hb2⟩; have HB2 := hid hb2; clear hb2
      go_wp2_with fail
      go_roundg (gk - 1)
      case measure => omega
      case rel => exact ⟨_, _, _, I + 1, rfl, by go_num, by omega, HY6, hid (HE5.out.trans HB2.out)⟩
theorem rgcd_c (x y : Value) (A B K : Nat) (w : World) (hx : RefV w x A) (hy : RefV w y B) (sx : Sm K A) (sy : Sm K B) (hK : K ≤ 30000000) (hB : 0 < B) :
  Calls Tryz.prog 163 #[x, y] w fun e w' => ∃ a k cap, e = .returned (.slice a k cap) ∧ RefV w' (.slice a k cap) (Nat.gcd A B) ∧ Ext w w' := by
 obtain ⟨a, n, c, rfl⟩ := hx.shape
 obtain ⟨b, n', c', rfl⟩ := hy.shape
 exact rgcd_core a b n c n' c' A B K w (hid hx) (hid hy) (hid sx) (hid sy) (hid hK) hK hB
end Go.Proofs.YtajecapgmdfjcaaGreatDoor

/- The reference's numbers: made returns the number with a sign, a numerator and a denominator. -/
namespace Go.Proofs.YtajecapgmdfjcaaGreatDoor
open Go.RowKit Vn
theorem cmpN_eq0 (a b : Nat) : (cmpN a b == 0) = decide (a = b) := by
 unfold cmpN
 by_cases h : a < b
 ·rw [if_pos h, decide_eq_false (by omega)]; rfl
 ·rw [if_neg h]
  by_cases h2 : b < a
  ·rw [if_pos h2, decide_eq_false (by omega)]; rfl
  ·rw [if_neg h2, decide_eq_true (by omega)]; rfl
theorem cmpN_ne0 (a b : Nat) : (cmpN a b != 0) = !decide (a = b) := by rw [← cmpN_eq0]; rfl
set_option maxRecDepth 100000 in
set_option maxHeartbeats 4000000 in
theorem rmade_c (s : Int) (x y : Value) (P Q K : Nat) (w : World) (hs : s = 1 ∨ s = -1 ∨ s = 0) (hx : RefV w x P) (hy : RefV w y Q) (sx : Sm K P) (sy : Sm K Q) (hK : K ≤ 30000000) (hQ : 0 < Q) :
  Calls Tryz.prog 131 #[.int .i64 s, x, y] w fun e w' => ∃ v, e = .returned v ∧ RNumV w' v (mkRat (s * P) Q) ∧ Ext w w' := by
 obtain ⟨a, n, c, rfl⟩ := hx.shape
 obtain ⟨b, m, d, rfl⟩ := hy.shape
 have hlen := hx.len0
 have HS := hid hs; have SX := hid sx; have SY := hid sy; have HK := hid hK; have HQ := hid hQ
 have hvx := hx
 have hvy := hy
 clear hs sx sy hK hQ hx hy
 obtain ⟨W0, hW0, g0, hz0, B_Z⟩ := pro1 w #[.int .i64 0, .slice none 0 0, .slice none 0 0] 147
 have HE := hid g0
 have HB_Z := hid B_Z
 clear g0 B_Z 
 go_enter Tryz.func131, Tryz.ntmps131
 go_upto_region 1 with (fail)
 rw [← hW0]
 clear hW0
 replace hvx := hvx.ext HE.out
 replace hvy := hvy.ext HE.out
 by_cases h0 : P = 0
 ·obtain rfl : n = 0 := hlen.2 h0
  have H0 := hid h0
  clear hlen h0
  obtain ⟨c_1, c_2, c_3⟩ := HB_Z.out.c3
  obtain ⟨f_4, f_5, f_6⟩ := HB_Z.out.f3
  go_wp2_with fail
  clear c_1 c_2 c_3 f_4 f_5 f_6
  obtain ⟨W1, hW1, g1, q1, B1, hy1, ho1⟩ := rsto3 HE.out (by omega) HB_Z.out (by decide) (.int .i64 0) (.slice none 0 0) (.slice none 0 0)
  rw [← hW1]
  clear hW1
  replace HE := hid g1
  replace HB_Z := hid B1
  replace hvx := hvx.keepR q1
  replace hvy := hvy.keepR q1
  obtain ⟨c_7, c_8, c_9⟩ := HB_Z.out.c3
  refine bodyPost_ret (v := .agg #[.int .i64 0, .slice none 0 0, .slice none 0 0]) (by simp [results, Tryz.results131, go_sem, c_7, c_8, c_9]) rfl ⟨_, rfl, ?_, HE.out⟩
  rw [H0.out]
  rw [Int.natCast_zero, Int.mul_zero, Rat.zero_mkRat]
  exact RNumV.zero _
 ·have hn0 : ((n : Int) == 0) = false := by simp; intro e; exact h0 (hlen.1 e)
  clear hlen
  by_cases hs0 : s = 0
  ·subst hs0
   obtain ⟨c_1, c_2, c_3⟩ := HB_Z.out.c3
   obtain ⟨f_4, f_5, f_6⟩ := HB_Z.out.f3
   go_wp2_with fail
   clear c_1 c_2 c_3 f_4 f_5 f_6
   obtain ⟨W1, hW1, g1, q1, B1, hy1, ho1⟩ := rsto3 HE.out (by omega) HB_Z.out (by decide) (.int .i64 0) (.slice none 0 0) (.slice none 0 0)
   rw [← hW1]
   clear hW1
   replace HE := hid g1
   replace HB_Z := hid B1
   replace hvx := hvx.keepR q1
   replace hvy := hvy.keepR q1
   obtain ⟨c_7, c_8, c_9⟩ := HB_Z.out.c3
   refine bodyPost_ret (v := .agg #[.int .i64 0, .slice none 0 0, .slice none 0 0]) (by simp [results, Tryz.results131, go_sem, c_7, c_8, c_9]) rfl ⟨_, rfl, ?_, HE.out⟩
   exact RNumV.zero _
  ·have hsb : (s == 0) = false := beq_eq_false_iff_ne.2 hs0
   have HP : Hid (0 < P) := hid (Nat.pos_of_ne_zero h0)
   have HS2 : Hid (s = 1 ∨ s = -1) := hid (by have := HS.out; omega)
   have s1 : Hid (Sm (K + 1) 1) := hid (Nat.lt_of_lt_of_le (by decide : 1 < 2 ^ 1) (Nat.pow_le_pow_right (by decide) (by omega)))
   have CC : Hid (∀ w u v m, m < 2 ^ (K + 1) → RefV w u m → RefV w v 1 → Calls Tryz.prog 161 #[u, v] w fun e w' => e = .returned (.int .i64 (cmpN m 1)) ∧ Ext w w') := hid fun w u v m h1 h2 h3 => rcmp_c u v m 1 (K + 1) w h2 h3 h1 s1.out (by have := HK.out; omega)
   have CP : Hid (∀ w u v, RefV w u P → RefV w v 1 → Calls Tryz.prog 161 #[u, v] w fun e w' => e = .returned (.int .i64 (cmpN P 1)) ∧ Ext w w') := hid fun w u v h2 h3 => CC.out w u v P (SX.out.mono (by omega)) h2 h3
   have CQ : Hid (∀ w u v, RefV w u Q → RefV w v 1 → Calls Tryz.prog 161 #[u, v] w fun e w' => e = .returned (.int .i64 (cmpN Q 1)) ∧ Ext w w') := hid fun w u v h2 h3 => CC.out w u v Q (SY.out.mono (by omega)) h2 h3
   obtain ⟨cp, hcp⟩ : ∃ c, c = cmpN P 1 := ⟨_, rfl⟩
   obtain ⟨cq, hcq⟩ : ∃ c, c = cmpN Q 1 := ⟨_, rfl⟩
   rw [← hcp] at CP
   rw [← hcq] at CQ
   have HCP : Hid ((cp == 0) = decide (P = 1)) := hid (by rw [hcp]; exact cmpN_eq0 _ _)
   have HCQ : Hid ((cq == 0) = decide (Q = 1)) := hid (by rw [hcq]; exact cmpN_eq0 _ _)
   clear hcp hcq s1 h0 hs0 HS
   by_cases hp1 : P = 1
   ·have hb1 : (cp == 0) = true := by rw [HCP.out]; exact decide_eq_true hp1
    have HP1 := hid hp1
    clear hp1
    obtain ⟨c_1, c_2, c_3⟩ := HB_Z.out.c3
    go_wp2_with fail
    clear c_1 c_2 c_3
    refine (rone_c _).mono ?_
    rintro e w1 ⟨o1a, o1n, o1c, rfl, hone, g1⟩
    have hz_w1 := g1.size
    replace HE := hid (HE.out.trans g1)
    replace HB_Z := hid (HB_Z.out.ext g1)
    replace hvx := hvx.ext g1
    replace hvy := hvy.ext g1
    obtain ⟨c_4, c_5, c_6⟩ := HB_Z.out.c3
    go_wp2_with fail
    clear c_4 c_5 c_6
    refine (CP.out _ _ _ hvx hone).mono ?_
    rintro e w2 ⟨rfl, g2⟩
    have hz_w2 := g2.size
    replace HE := hid (HE.out.trans g2)
    replace HB_Z := hid (HB_Z.out.ext g2)
    replace hvx := hvx.ext g2
    replace hvy := hvy.ext g2
    clear hone
    obtain ⟨c_7, c_8, c_9⟩ := HB_Z.out.c3
    obtain ⟨f_10, f_11, f_12⟩ := HB_Z.out.f3
    go_wp2_with fail
    clear c_7 c_8 c_9 f_10 f_11 f_12
    obtain ⟨W3, hW3, g3, q3, B3, hy3, ho3⟩ := rsto3 HE.out (by omega) HB_Z.out (by decide) (.int .i64 s) (.slice a n c) (.slice b m d)
    rw [← hW3]
    clear hW3
    replace HE := hid g3
    replace HB_Z := hid B3
    replace hvx := hvx.keepR q3
    replace hvy := hvy.keepR q3
    obtain ⟨c_13, c_14, c_15⟩ := HB_Z.out.c3
    refine bodyPost_ret (v := .agg #[.int .i64 s, .slice a n c, .slice b m d]) (by simp [results, Tryz.results131, go_sem, c_13, c_14, c_15]) rfl ⟨_, rfl, ?_, HE.out⟩
    have hg : Nat.gcd P Q = 1 := by rw [HP1.out]; exact Nat.gcd_one_left _
    exact RNumV.made HS2.out HP.out (Nat.ne_of_gt HQ.out) (by rw [hg, Nat.div_one]; exact hvx) (by rw [hg, Nat.div_one]; exact hvy)
   ·have hb1 : (cp == 0) = false := by rw [HCP.out]; exact decide_eq_false hp1
    clear hp1
    by_cases hq1 : Q = 1
    ·have hb2 : (cq == 0) = true := by rw [HCQ.out]; exact decide_eq_true hq1
     have HQ1 := hid hq1
     clear hq1
     obtain ⟨c_1, c_2, c_3⟩ := HB_Z.out.c3
     go_wp2_with fail
     clear c_1 c_2 c_3
     refine (rone_c _).mono ?_
     rintro e w1 ⟨o1a, o1n, o1c, rfl, hone, g1⟩
     have hz_w1 := g1.size
     replace HE := hid (HE.out.trans g1)
     replace HB_Z := hid (HB_Z.out.ext g1)
     replace hvx := hvx.ext g1
     replace hvy := hvy.ext g1
     obtain ⟨c_4, c_5, c_6⟩ := HB_Z.out.c3
     go_wp2_with fail
     clear c_4 c_5 c_6
     refine (CP.out _ _ _ hvx hone).mono ?_
     rintro e w2 ⟨rfl, g2⟩
     have hz_w2 := g2.size
     replace HE := hid (HE.out.trans g2)
     replace HB_Z := hid (HB_Z.out.ext g2)
     replace hvx := hvx.ext g2
     replace hvy := hvy.ext g2
     clear hone
     obtain ⟨c_7, c_8, c_9⟩ := HB_Z.out.c3
     go_wp2_with fail
     clear c_7 c_8 c_9
     refine (rone_c _).mono ?_
     rintro e w3 ⟨o3a, o3n, o3c, rfl, hone, g3⟩
     have hz_w3 := g3.size
     replace HE := hid (HE.out.trans g3)
     replace HB_Z := hid (HB_Z.out.ext g3)
     replace hvx := hvx.ext g3
     replace hvy := hvy.ext g3
     obtain ⟨c_10, c_11, c_12⟩ := HB_Z.out.c3
     go_wp2_with fail
     clear c_10 c_11 c_12
     refine (CQ.out _ _ _ hvy hone).mono ?_
     rintro e w4 ⟨rfl, g4⟩
     have hz_w4 := g4.size
     replace HE := hid (HE.out.trans g4)
     replace HB_Z := hid (HB_Z.out.ext g4)
     replace hvx := hvx.ext g4
     replace hvy := hvy.ext g4
     clear hone
     obtain ⟨c_13, c_14, c_15⟩ := HB_Z.out.c3
     obtain ⟨f_16, f_17, f_18⟩ := HB_Z.out.f3
     go_wp2_with fail
     clear c_13 c_14 c_15 f_16 f_17 f_18
     obtain ⟨W5, hW5, g5, q5, B5, hy5, ho5⟩ := rsto3 HE.out (by omega) HB_Z.out (by decide) (.int .i64 s) (.slice a n c) (.slice b m d)
     rw [← hW5]
     clear hW5
     replace HE := hid g5
     replace HB_Z := hid B5
     replace hvx := hvx.keepR q5
     replace hvy := hvy.keepR q5
     obtain ⟨c_19, c_20, c_21⟩ := HB_Z.out.c3
     refine bodyPost_ret (v := .agg #[.int .i64 s, .slice a n c, .slice b m d]) (by simp [results, Tryz.results131, go_sem, c_19, c_20, c_21]) rfl ⟨_, rfl, ?_, HE.out⟩
     have hg : Nat.gcd P Q = 1 := by rw [HQ1.out]; exact Nat.gcd_one_right _
     exact RNumV.made HS2.out HP.out (Nat.ne_of_gt HQ.out) (by rw [hg, Nat.div_one]; exact hvx) (by rw [hg, Nat.div_one]; exact hvy)
    ·have hb2 : (cq == 0) = false := by rw [HCQ.out]; exact decide_eq_false hq1
     clear hq1
     obtain ⟨c_1, c_2, c_3⟩ := HB_Z.out.c3
     go_wp2_with fail
     clear c_1 c_2 c_3
     refine (rone_c _).mono ?_
     rintro e w1 ⟨o1a, o1n, o1c, rfl, hone, g1⟩
     have hz_w1 := g1.size
     replace HE := hid (HE.out.trans g1)
     replace HB_Z := hid (HB_Z.out.ext g1)
     replace hvx := hvx.ext g1
     replace hvy := hvy.ext g1
     obtain ⟨c_4, c_5, c_6⟩ := HB_Z.out.c3
     go_wp2_with fail
     clear c_4 c_5 c_6
     refine (CP.out _ _ _ hvx hone).mono ?_
     rintro e w2 ⟨rfl, g2⟩
     have hz_w2 := g2.size
     replace HE := hid (HE.out.trans g2)
     replace HB_Z := hid (HB_Z.out.ext g2)
     replace hvx := hvx.ext g2
     replace hvy := hvy.ext g2
     clear hone
     obtain ⟨c_7, c_8, c_9⟩ := HB_Z.out.c3
     go_wp2_with fail
     clear c_7 c_8 c_9
     refine (rone_c _).mono ?_
     rintro e w3 ⟨o3a, o3n, o3c, rfl, hone, g3⟩
     have hz_w3 := g3.size
     replace HE := hid (HE.out.trans g3)
     replace HB_Z := hid (HB_Z.out.ext g3)
     replace hvx := hvx.ext g3
     replace hvy := hvy.ext g3
     obtain ⟨c_10, c_11, c_12⟩ := HB_Z.out.c3
     go_wp2_with fail
     clear c_10 c_11 c_12
     refine (CQ.out _ _ _ hvy hone).mono ?_
     rintro e w4 ⟨rfl, g4⟩
     have hz_w4 := g4.size
     replace HE := hid (HE.out.trans g4)
     replace HB_Z := hid (HB_Z.out.ext g4)
     replace hvx := hvx.ext g4
     replace hvy := hvy.ext g4
     clear hone
     obtain ⟨G, hG⟩ : ∃ G, G = Nat.gcd P Q := ⟨_, rfl⟩
     have CD : Hid (∀ w u v, RefV w u P → RefV w v Q → Calls Tryz.prog 163 #[u, v] w fun e w' => ∃ a k cap, e = .returned (.slice a k cap) ∧ RefV w' (.slice a k cap) G ∧ Ext w w') := hid fun w u v h1 h2 => by
      rw [hG]; exact rgcd_c u v P Q K w h1 h2 SX.out SY.out HK.out HQ.out
     have HG0 : Hid (0 < G) := hid (by rw [hG]; exact Nat.gcd_pos_of_pos_left _ HP.out)
     have HGK : Hid (Sm K G) := hid (by rw [hG]; exact Nat.lt_of_le_of_lt (Nat.gcd_le_left _ HP.out) SX.out)
     obtain ⟨cg, hcg⟩ : ∃ c, c = cmpN G 1 := ⟨_, rfl⟩
     have CG : Hid (∀ w u v, RefV w u G → RefV w v 1 → Calls Tryz.prog 161 #[u, v] w fun e w' => e = .returned (.int .i64 cg) ∧ Ext w w') := hid fun w u v h2 h3 => by
      rw [hcg]; exact CC.out w u v G (HGK.out.mono (by omega)) h2 h3
     have HCG : Hid ((cg != 0) = !decide (G = 1)) := hid (by rw [hcg]; exact cmpN_ne0 _ _)
     have CDV : Hid (∀ w u v m, m < 2 ^ K → RefV w u m → RefV w v G → Calls Tryz.prog 164 #[u, v] w fun e w' => ∃ a k cap a' k' cap', e = .returned (.tuple #[.slice a k cap, .slice a' k' cap']) ∧ RefV w' (.slice a k cap) (m / G) ∧ RefV w' (.slice a' k' cap') (m % G) ∧ Ext w w') := hid fun w u v m h1 h2 h3 => rdiv_c u v m G K w h2 h3 h1 HGK.out (by have := HK.out; omega) HG0.out
     have HG := hid hG
     clear hG hcg
     obtain ⟨c_13, c_14, c_15⟩ := HB_Z.out.c3
     go_wp2_with fail
     clear c_13 c_14 c_15
     refine (CD.out _ _ _ hvx hvy).mono ?_
     rintro e w5 ⟨e1, e2, e3, rfl, hvg, g5⟩
     have hz_w5 := g5.size
     replace HE := hid (HE.out.trans g5)
     replace HB_Z := hid (HB_Z.out.ext g5)
     replace hvx := hvx.ext g5
     replace hvy := hvy.ext g5
     by_cases hg1 : G = 1
     ·have hb3 : (cg != 0) = false := by rw [HCG.out, decide_eq_true hg1]; rfl
      have HG1 := hid hg1
      clear hg1
      obtain ⟨c_16, c_17, c_18⟩ := HB_Z.out.c3
      go_wp2_with fail
      clear c_16 c_17 c_18
      refine (rone_c _).mono ?_
      rintro e w6 ⟨o6a, o6n, o6c, rfl, hone, g6⟩
      have hz_w6 := g6.size
      replace HE := hid (HE.out.trans g6)
      replace HB_Z := hid (HB_Z.out.ext g6)
      replace hvx := hvx.ext g6
      replace hvy := hvy.ext g6
      replace hvg := hvg.ext g6
      obtain ⟨c_19, c_20, c_21⟩ := HB_Z.out.c3
      go_wp2_with fail
      clear c_19 c_20 c_21
      refine (CG.out _ _ _ hvg hone).mono ?_
      rintro e w7 ⟨rfl, g7⟩
      have hz_w7 := g7.size
      replace HE := hid (HE.out.trans g7)
      replace HB_Z := hid (HB_Z.out.ext g7)
      replace hvx := hvx.ext g7
      replace hvy := hvy.ext g7
      replace hvg := hvg.ext g7
      clear hone
      obtain ⟨c_22, c_23, c_24⟩ := HB_Z.out.c3
      obtain ⟨f_25, f_26, f_27⟩ := HB_Z.out.f3
      go_wp2_with fail
      clear c_22 c_23 c_24 f_25 f_26 f_27
      obtain ⟨W8, hW8, g8, q8, B8, hy8, ho8⟩ := rsto3 HE.out (by omega) HB_Z.out (by decide) (.int .i64 s) (.slice a n c) (.slice b m d)
      rw [← hW8]
      clear hW8
      replace HE := hid g8
      replace HB_Z := hid B8
      replace hvx := hvx.keepR q8
      replace hvy := hvy.keepR q8
      replace hvg := hvg.keepR q8
      obtain ⟨c_28, c_29, c_30⟩ := HB_Z.out.c3
      refine bodyPost_ret (v := .agg #[.int .i64 s, .slice a n c, .slice b m d]) (by simp [results, Tryz.results131, go_sem, c_28, c_29, c_30]) rfl ⟨_, rfl, ?_, HE.out⟩
      have hg : Nat.gcd P Q = 1 := by rw [← HG.out, HG1.out]
      exact RNumV.made HS2.out HP.out (Nat.ne_of_gt HQ.out) (by rw [hg, Nat.div_one]; exact hvx) (by rw [hg, Nat.div_one]; exact hvy)
     ·have hb3 : (cg != 0) = true := by rw [HCG.out, decide_eq_false hg1]; rfl
      clear hg1
      obtain ⟨c_16, c_17, c_18⟩ := HB_Z.out.c3
      go_wp2_with fail
      clear c_16 c_17 c_18
      refine (rone_c _).mono ?_
      rintro e w6 ⟨o6a, o6n, o6c, rfl, hone, g6⟩
      have hz_w6 := g6.size
      replace HE := hid (HE.out.trans g6)
      replace HB_Z := hid (HB_Z.out.ext g6)
      replace hvx := hvx.ext g6
      replace hvy := hvy.ext g6
      replace hvg := hvg.ext g6
      obtain ⟨c_19, c_20, c_21⟩ := HB_Z.out.c3
      go_wp2_with fail
      clear c_19 c_20 c_21
      refine (CG.out _ _ _ hvg hone).mono ?_
      rintro e w7 ⟨rfl, g7⟩
      have hz_w7 := g7.size
      replace HE := hid (HE.out.trans g7)
      replace HB_Z := hid (HB_Z.out.ext g7)
      replace hvx := hvx.ext g7
      replace hvy := hvy.ext g7
      replace hvg := hvg.ext g7
      clear hone
      obtain ⟨c_22, c_23, c_24⟩ := HB_Z.out.c3
      go_wp2_with fail
      clear c_22 c_23 c_24
      refine (CDV.out _ _ _ P SX.out hvx hvg).mono ?_
      rintro e w8 ⟨p1, p2, p3, p4, p5, p6, rfl, hvp, -, g8⟩
      have hz_w8 := g8.size
      replace HE := hid (HE.out.trans g8)
      replace HB_Z := hid (HB_Z.out.ext g8)
      replace hvx := hvx.ext g8
      replace hvy := hvy.ext g8
      replace hvg := hvg.ext g8
      obtain ⟨c_25, c_26, c_27⟩ := HB_Z.out.c3
      go_wp2_with fail
      clear c_25 c_26 c_27
      refine (CDV.out _ _ _ Q SY.out hvy hvg).mono ?_
      rintro e w9 ⟨q1, q2, q3, q4, q5, q6, rfl, hvq, -, g9⟩
      have hz_w9 := g9.size
      replace HE := hid (HE.out.trans g9)
      replace HB_Z := hid (HB_Z.out.ext g9)
      replace hvx := hvx.ext g9
      replace hvy := hvy.ext g9
      replace hvg := hvg.ext g9
      replace hvp := hvp.ext g9
      obtain ⟨c_28, c_29, c_30⟩ := HB_Z.out.c3
      obtain ⟨f_31, f_32, f_33⟩ := HB_Z.out.f3
      go_wp2_with fail
      clear c_28 c_29 c_30 f_31 f_32 f_33
      obtain ⟨W10, hW10, g10, q10, B10, hy10, ho10⟩ := rsto3 HE.out (by omega) HB_Z.out (by decide) (.int .i64 s) (.slice p1 p2 p3) (.slice q1 q2 q3)
      rw [← hW10]
      clear hW10
      replace HE := hid g10
      replace HB_Z := hid B10
      replace hvx := hvx.keepR q10
      replace hvy := hvy.keepR q10
      replace hvg := hvg.keepR q10
      replace hvp := hvp.keepR q10
      replace hvq := hvq.keepR q10
      obtain ⟨c_34, c_35, c_36⟩ := HB_Z.out.c3
      refine bodyPost_ret (v := .agg #[.int .i64 s, .slice p1 p2 p3, .slice q1 q2 q3]) (by simp [results, Tryz.results131, go_sem, c_34, c_35, c_36]) rfl ⟨_, rfl, ?_, HE.out⟩
      exact RNumV.made HS2.out HP.out (Nat.ne_of_gt HQ.out) (by rw [← HG.out]; exact hvp) (by rw [← HG.out]; exact hvq)
end Go.Proofs.YtajecapgmdfjcaaGreatDoor

/- The reference's numbers: Neg, Abs, Sign, IsInt; Mul. -/
namespace Go.Proofs.YtajecapgmdfjcaaGreatDoor
open Go.RowKit Vn
theorem sgn3 (q : Rat) : q.num.sign = 1 ∨ q.num.sign = -1 ∨ q.num.sign = 0 := by
 rcases Int.lt_trichotomy q.num 0 with h | h | h
 ·exact .inr (.inl (Int.sign_eq_neg_one_of_neg h))
 ·exact .inr (.inr (by rw [h]; rfl))
 ·exact .inl (Int.sign_eq_one_of_pos h)
theorem RNumV.same {w : World} {v : Value} {q r : Rat} (h : RNumV w v q) (e : q = r) : RNumV w v r := e ▸ h
theorem RNumV.neg {w : World} {s : Int} {a : Option Addr} {n c : Nat} {a' : Option Addr} {n' c' : Nat} {q : Rat} (h : RNumV w (.agg #[.int .i64 s, .slice a n c, .slice a' n' c']) q) : RNumV w (.agg #[.int .i64 (-s), .slice a n c, .slice a' n' c']) (-q) := by
 refine ⟨a, n, c, a', n', c', ?_, ?_, ?_⟩
 ·rw [h.sign, Rat.neg_num, Int.sign_neg]
 ·rw [Rat.neg_num, Int.natAbs_neg]; exact h.top
 ·have := h.den
  by_cases h0 : q = 0
  ·subst h0; rw [if_pos rfl] at this; rw [if_pos (by simp)]; exact this
  ·rw [if_neg h0] at this; rw [if_neg (fun e => h0 (by have := congrArg (- ·) e; simpa using this)), Rat.neg_den]; exact this
theorem RNumV.abs {w : World} {s : Int} {a : Option Addr} {n c : Nat} {a' : Option Addr} {n' c' : Nat} {q : Rat} (h : RNumV w (.agg #[.int .i64 s, .slice a n c, .slice a' n' c']) q) : RNumV w (.agg #[.int .i64 (s * s), .slice a n c, .slice a' n' c']) (absQ q) := by
 rcases Int.lt_or_le q.num 0 with h0 | h0
 ·have e : absQ q = -q := by rw [absQ_eq, if_pos h0]
  have hs : s = -1 := by rw [h.sign]; exact Int.sign_eq_neg_one_of_neg h0
  rw [e]
  have := h.neg
  rw [hs] at this ⊢
  exact this
 ·have e : absQ q = q := by rw [absQ_eq, if_neg (by omega)]
  rw [e]
  rcases sgn3 q with k | k | k
  ·rw [h.sign, k]; have h2 := h; rw [h.sign, k] at h2; exact h2
  ·have h4 := Int.sign_eq_neg_one_iff_neg.1 k; omega
  ·rw [h.sign, k]; have h2 := h; rw [h.sign, k] at h2; exact h2
end Go.Proofs.YtajecapgmdfjcaaGreatDoor

/- The reference's numbers: IsInt, Cmp, Quo, Add, Sub. -/
namespace Go.Proofs.YtajecapgmdfjcaaGreatDoor
open Go.RowKit Vn
set_option maxRecDepth 100000 in
set_option maxHeartbeats 1500000 in
theorem risint_c (x : Value) (q : Rat) (K : Nat) (w : World) (hx : RNumV w x q) (sx : SmQ K q) (hK : K ≤ 30000000) :
  Calls Tryz.prog 167 #[x] w fun e w' => e = .returned (.bool (decide (q.den = 1))) ∧ Ext w w' := by
 obtain ⟨s1, a1, n1, c1, a1', n1', c1', rfl⟩ := hx.shape
 have hvx := hx
 have SX := hid sx; have HK := hid hK
 have hcm : (cmpN q.den 1 == 0) = decide (q.den = 1) := cmpN_eq0 _ _
 obtain ⟨cc, hcc⟩ : ∃ c, c = cmpN q.den 1 := ⟨_, rfl⟩
 rw [← hcc] at hcm
 have HCC := hid hcc
 obtain ⟨bb, hbb⟩ : ∃ b, b = decide (q.den = 1) := ⟨_, rfl⟩
 rw [← hbb] at hcm
 have HBB := hid hbb
 clear hx sx hK hcc hbb
 obtain ⟨W0, hW0, g0, hz0, B_X⟩ := pro1 w #[.int .i64 s1, .slice a1 n1 c1, .slice a1' n1' c1'] 147
 have HE := hid g0
 have HB_X := hid B_X
 have ac := HB_X.out.a3
 have hr0 : Ext W0 W0 := Below.refl _ _
 clear g0 B_X 
 go_enter Tryz.func167, Tryz.ntmps167
 go_upto_region 1 with (fail)
 rw [← hW0]
 clear hW0
 replace hvx := hvx.ext HE.out
 go_wp2_with fail
 refine (rbottom_c _ q _ hvx).mono ?_
 rintro e w1 ⟨d1a, d1n, d1c, rfl, k1, g1⟩
 go_wp2_with fail
 refine (rone_c _).mono ?_
 rintro e w2 ⟨o2a, o2n, o2c, rfl, k2, g2⟩
 have hb1 := g1.trans g2
 go_wp2_with fail
 refine (rcmp_c _ _ _ _ (K + 1) _ (k1.ext g2) k2 (SX.out.2.mono (by omega)) (Nat.lt_of_lt_of_le (by decide : 1 < 2 ^ 1) (Nat.pow_le_pow_right (by decide) (by omega))) (by have := HK.out; omega)).mono ?_
 rintro e w3 ⟨rfl, g3⟩
 have hb2 := hb1.trans g3
 rw [← HCC.out]
 go_wp2_with fail
 go_ret
 exact ⟨(by show Ending.returned (.bool bb) = _; rw [HBB.out]), (HE.out.trans hb2)⟩
end Go.Proofs.YtajecapgmdfjcaaGreatDoor
