/- The reference's natural numbers: divided returns quotient and remainder. -/
import Derived.Test.YtajecapgmdfjcaaGreatDoorK42
namespace Go.Proofs.YtajecapgmdfjcaaGreatDoor
open Go.RowKit Vn
set_option maxRecDepth 100000 in
set_option maxHeartbeats 4000000 in
theorem rdiv_core (aa ab : Option Addr) (ba oa ca bb ob cb : Nat) (x y : List Nat) (n m K : Nat) (w : World) (Hn : Hid (x.length = n)) (Hm : Hid (y.length = m)) (hn : n ≤ 100000000000) (hm : m ≤ 100000000000) (hm0 : 0 < m)
  (Hax : Hid (0 < n → aa = some ⟨ba, oa, none⟩)) (Hay : Hid (0 < m → ab = some ⟨bb, ob, none⟩))
  (Hx : Hid (Norm 1000000000 x)) (Hy : Hid (Norm 1000000000 y)) (Hcx : RCells w ba oa n x) (Hcy : RCells w bb ob m y) (HB : Hid (RefV w (.slice ab m cb) (dv 1000000000 y))) (SB : Hid (Sm K (dv 1000000000 y))) (HK : Hid (K ≤ 50000000)) :
  Calls Tryz.prog 164 #[.slice aa n ca, .slice ab m cb] w fun e w' => ∃ a k cap a' k' cap', e = .returned (.tuple #[.slice a k cap, .slice a' k' cap']) ∧ RefV w' (.slice a k cap) (dv 1000000000 x / dv 1000000000 y) ∧ RefV w' (.slice a' k' cap') (dv 1000000000 x % dv 1000000000 y) ∧ Ext w w' := by
 obtain ⟨i0, hi, hz0, hz1, hz2⟩ := info_parts info64
 have hmk := mkRef n (n : Int) (by omega) (by omega)
 obtain ⟨M, hM⟩ : ∃ M, M = dv 1000000000 y := ⟨_, rfl⟩
 rw [← hM] at HB SB
 have HM := hid hM
 have hM0 : 0 < M := by
  rw [hM]
  exact Hy.out.dv_pos (by decide) (fun e => by have := Hm.out; rw [e] at this; simp at this; omega)
 clear hM
 obtain rfl := Hay.out hm0
 go_enter Tryz.func164, Tryz.ntmps164
 go_wp2_with fail
 go_loopg [8, 9] n (fun k v i wr => ∃ (R : Nat) (o : List Nat) (ar : Option Addr) (nr cr : Nat), v = .slice ar nr cr ∧ i = .int .i64 ((k : Int) - 1) ∧ k ≤ n ∧ Hid (DivRel x n M w k R o wr) ∧ Hid (RefV wr (.slice ar nr cr) R))
 case atStart => exact ⟨0, _, none, 0, 0, rfl, by go_num, Nat.le_refl _, hid ⟨Nat.le_refl _, hM0, by rw [List.drop_eq_nil_of_le (by rw [Hn.out]; exact Nat.le_refl _), List.drop_eq_nil_of_le (by simp)]; simp [dv], fun i _ => by rw [List.getD_eq_getElem?_getD, List.getElem?_replicate]; split <;> rfl, ROwn.init w _⟩, hid (RefV.nil _)⟩
 case round =>
  obtain ⟨R, o, ar, nr, cr, rfl, rfl, hkn, HR, HV⟩ := hrel
  rcases Nat.eq_zero_or_pos gk with hk0 | hk0
  ·subst hk0
   have HO := HR.out.own
   have hd0 : decide ((0 : Int) ≤ ((0 : Nat) : Int) - 1) = false := by decide
   go_wp2_with (go_at_call 165; refine (rtrim_c _ _ _ (HO.slat (by unfold maxLen; omega)) HO.dig (by rw [HO.len]; omega)).mono ?_; rintro e w1 ⟨a1, n1, c1, rfl, h1, hb1⟩)
   go_ret2
   have hv := HR.out.val
   have hr := HR.out.hr
   simp only [List.drop_zero] at hv
   have e1 : dv 1000000000 x / M = dv 1000000000 o := by rw [hv, Nat.mul_comm, Nat.mul_add_div hM0, Nat.div_eq_of_lt hr, Nat.add_zero]
   have e2 : dv 1000000000 x % M = R := by rw [hv, Nat.mul_comm, Nat.mul_add_mod, Nat.mod_eq_of_lt hr]
   rw [← HM.out, e1, e2]
   exact ⟨_, _, _, _, _, _, rfl, h1, HV.out.ext hb1, HO.ext.trans hb1⟩
  ·obtain ⟨j, rfl⟩ : ∃ j, gk = j + 1 := ⟨gk - 1, by omega⟩
   have ej : (((j + 1 : Nat) : Int) - 1) = (j : Int) := by omega
   rw [ej]
   obtain ⟨d, hd2⟩ : ∃ d, d = x.getD j 0 := ⟨_, rfl⟩
   have hE := HR.out.own.ext
   have hcell : wr.cell? ⟨ba, oa + j, none⟩ = some (.int .i64 d) := by rw [hd2]; exact hE.cell (Hcx.out j (by omega))
   have hlt : d < 1000000000 := by rw [hd2]; exact Hx.out.dig.get (by decide) _
   obtain rfl := Hax.out (by omega)
   have Hd2 : Hid (d = x.getD j 0) := hd2
   have hd0 : decide ((0 : Int) ≤ (j : Int)) = true := decide_eq_true (by omega)
   have i1 : (0 : Int) ≤ (j : Int) := by omega
   have i2 : (j : Int) < (n : Int) := by omega
   have HE := hid hE
   have hsz := HE.out.size
   obtain ⟨ar', br, or', nr', cr', r, hv1, hv2, hv3, hv4, hv5, hv6, hv7, hv8, hv9⟩ := HV.out.open
   obtain ⟨rfl, rfl, rfl⟩ : ar = ar' ∧ nr = nr' ∧ cr = cr' := by simpa using hv1
   clear hd2 ej hv1
   have hrl : r.length ≤ m := by
    have := rnorm_len hv6.out Hy.out (by rw [hv7.out, ← HM.out]; exact Nat.le_of_lt HR.out.hr)
    rwa [Hm.out] at this
   have hnr : nr ≤ m := by rw [← hv4.out]; exact hrl
   obtain ⟨N, hN⟩ : ∃ N, N = d + 1000000000 * R := ⟨_, rfl⟩
   have HN := hid hN
   clear hrl hN
   obtain ⟨wq, rfl⟩ : ∃ wq : World, wq = wr := ⟨_, rfl⟩
   have hown0 : (wq.alloc (.cells #[.int .i64 (d : Nat)] 2)).ownsRow wq.heap.size 2 1 (.slice (some ⟨wq.heap.size, 0, none⟩) 1 1) 1 (digs [d]) := World.ownsRow_lit wq #[.int .i64 (d : Nat)] 1 (Nat.le_refl _) (by unfold maxLen; omega) rfl
   have HO0 := hid hown0
   have HRD := hid hv6.out
   clear hown0
   go_upto_region 7 with (fail)
   go_cut [8] (fun v wx => ∃ g k cp, v = .slice (some ⟨g, 0, none⟩) k cp ∧ Hid (Fresh wq N g k cp wx))
   case first =>
    cases ar with
    | none =>
     obtain rfl : nr = 0 := by
      rcases Nat.eq_zero_or_pos nr with h | h
      ·exact h
      ·have := hv5.out h; cases this
     have hf := fresh_of (w0 := wq) (r := []) Norm.nil hlt (by simp) (Below.alloc (Below.refl _ wq) (Nat.le_refl _) _) HO0.out
     obtain ⟨g, cp, hg, -, CF⟩ := hf
     obtain ⟨rfl, rfl⟩ : wq.heap.size = g ∧ 1 = cp := by simpa using hg
     have hr0 : R = 0 := by rw [← hv7.out, List.eq_nil_of_length_eq_zero hv4.out]; rfl
     have HCF := hid CF
     have HR0 := hid hr0
     clear CF hr0 hg
     go_wp2_with (first | (at_builtin; refine wpList_append_none0 rfl _ _ 145 rfl wq.heap.size 2 i0 1 Tryz.underlying145 hi (.slice (some ⟨wq.heap.size, 0, none⟩) 1 1) 1 (digs [d]) rfl HO0.out cr rfl ?_) | (go_at_call 165; refine HCF.out.mono ?_; rintro e w1 ⟨k, rfl, hF⟩; have HF := hid hF; clear hF))
     go_meet
     refine ⟨_, _, _, rfl, ?_⟩
     rw [HN.out, HR0.out]
     exact HF
    | some p =>
     have hnews : Hid (∀ j u, (digs r)[j]? = some u → (wq.alloc (.cells #[.int .i64 (d : Nat)] 2)).cell? (p.add j) = some u) := hid fun i u hu => by
      have hir : i < r.length := by
       have := (List.getElem?_eq_some_iff.1 hu).1
       rwa [digs_len] at this
      have hi' : i < nr := by rw [← hv4.out]; exact hir
      obtain rfl : p = ⟨br, or', none⟩ := Option.some.inj (hv5.out (by omega))
      have h1 := hv8.out i hi'
      have h2 : (digs r)[i]? = some (.int .i64 (r.getD i 0 : Nat)) := by
       simp only [digs, List.getElem?_map, List.getD_eq_getElem?_getD, List.getElem?_eq_getElem hir, Option.map_some, Option.getD_some]
      rw [h2] at hu
      cases hu
      rw [show (⟨br, or', none⟩ : Addr).add i = ⟨br, or' + i, none⟩ from by simp [Addr.add]]
      exact Ext.cell (Below.alloc (Below.refl _ wq) (Nat.le_refl _) _) h1
     have hdl : (digs r).length = nr * 1 := by rw [digs_len, hv4.out, Nat.mul_one]
     have HDL := hid hdl
     have hone : Hid (∀ u ∈ digs r, u.oneCell' = true) := hid fun u hu => by
      obtain ⟨z, _, rfl⟩ := List.mem_map.1 hu; rfl
     clear hdl
     have CG : Hid (∀ v' w3, w3.ownsRow wq.heap.size 2 1 v' (1 + nr) (digs [d] ++ digs r) → (wq.alloc (.cells #[.int .i64 (d : Nat)] 2)).grownBy w3 (Value.ownBlock (.slice (some ⟨wq.heap.size, 0, none⟩) 1 1)) →
       ∃ g cp, v' = .slice (some ⟨g, 0, none⟩) (1 + nr) cp ∧ (Calls Tryz.prog 165 #[.slice (some ⟨g, 0, none⟩) (1 + nr) cp] w3 fun e w' => ∃ k, e = .returned (.slice (some ⟨g, 0, none⟩) k cp) ∧ Hid (Fresh wq N g k cp w'))) := hid fun v' w3 h1 h2 => by
      rw [digs_append] at h1
      obtain ⟨g, cp, h3, -, h4⟩ := fresh_of (w0 := wq) (r := r) HRD.out hlt (by rw [hv4.out]; omega) (Below.grown (Below.alloc (Below.refl _ wq) (Nat.le_refl _) _) h2 (by simp) (fun k hk => (HO0.out.lt k hk).1)) h1
      refine ⟨g, cp, h3, h4.mono ?_⟩
      rintro e w' ⟨k, rfl, hF⟩
      refine ⟨k, rfl, ?_⟩
      rw [HN.out, ← hv7.out]
      exact hF
     go_wp2_with (first | (at_builtin; refine wpList_append_own _ rfl _ _ 145 rfl wq.heap.size 2 i0 (.int .i64 0) 1 8 Tryz.underlying145 hi hz0 hz1 hz2 rfl (by decide) (.slice (some ⟨wq.heap.size, 0, none⟩) 1 1) 1 (digs [d]) rfl HO0.out p nr cr (digs r) rfl HDL.out hnews.out hone.out (by unfold maxLen; omega) (by omega) (by simp) ?_; intro v' w3 hown' hgrow3 hnil3; obtain ⟨g, cp, hveq, CF⟩ := CG.out _ _ hown' hgrow3; subst hveq; have HCF := hid CF; clear CF hgrow3 hown' hnil3) | (go_at_call 165; refine HCF.out.mono ?_; rintro e w1 ⟨k, rfl, HF⟩))
     go_meet
     exact ⟨_, _, _, rfl, HF⟩
   case rest =>
    obtain ⟨g, k, cp, rfl, HF⟩ := hcut
    clear HO0 HRD hv9 hv8 hv2 hv3 hv5 HV
    obtain ⟨wd, rfl⟩ : ∃ x, x = wc := ⟨_, rfl⟩
    have HED := hid (HE.out.trans HF.out.2.1)
    have SN : Hid (Sm (K + 30) N) := hid (by
     have h1 : R < 2 ^ K := Nat.lt_trans HR.out.hr SB.out
     have h2 : N < 1000000000 * (R + 1) := by rw [HN.out]; omega
     have h3 : 1000000000 * (R + 1) ≤ 2 ^ 30 * 2 ^ K := Nat.mul_le_mul (by decide) h1
     unfold Sm
     rw [Nat.pow_add, Nat.mul_comm]; omega)
    have CC : Hid (∀ w u v, RefV w u N → RefV w v M → Calls Tryz.prog 161 #[u, v] w fun e w' => e = .returned (.int .i64 (cmpN N M)) ∧ Ext w w') := hid fun w u v hu hv => rcmp_c u v N M (K + 30) w hu hv SN.out (SB.out.mono (by omega)) (by have := HK.out; omega)
    rcases Nat.lt_or_ge N M with hNM | hNM
    ·have hcm : cmpN N M = -1 := cmpN_lt hNM
     rw [hcm] at CC
     have hdc : decide ((-1 : Int) < 0) = true := by decide
     have HNM := hid hNM
     clear hcm hNM
     go_wp2_with (go_at_call 161; refine (CC.out _ _ _ HF.out.refv (HB.out.ext HED.out)).mono ?_; rintro e w1 ⟨rfl, hb1⟩; have HE1 := hid hb1; clear hb1)
     go_roundg j
     case measure => exact Nat.lt_succ_self j
     case rel => exact ⟨N, o, _, _, _, rfl, by go_num, by omega, hid (by rw [HN.out] at HNM ⊢; exact HR.out.stay (HF.out.2.1.trans HE1.out) Hn.out Hd2.out HNM.out), hid ((HF.out.refv).ext HE1.out)⟩
    ·obtain ⟨c, hc⟩ : ∃ c, c = cmpN N M := ⟨_, rfl⟩
     rw [← hc] at CC
     have hdc : decide (c < 0) = false := decide_eq_false (by
      rw [hc]; unfold cmpN
      split
      ·omega
      ·split <;> omega)
     obtain ⟨l, hl1, hl2, hl3, hl4⟩ := HF.out.cell
     have hNB : N < 1000000000 * M := by
      have h1 := HR.out.hr
      have h2 : 1000000000 * (R + 1) ≤ 1000000000 * M := Nat.mul_le_mul_left _ h1
      rw [HN.out]; omega
     obtain ⟨q1, q2, q3, q4, q5, q6⟩ := guess (B := 1000000000) (by decide) Hy.out Hm.out hm0 hl1 (by rw [hl2, ← HM.out]; exact hNM) (by rw [hl2, ← HM.out]; exact hNB)
     rw [hl2, ← HM.out] at q4 q5 q6
     obtain ⟨t, ht⟩ : ∃ t, t = l.getD (m - 1) 0 := ⟨_, rfl⟩
     obtain ⟨t2, ht2⟩ : ∃ t, t = l.getD m 0 := ⟨_, rfl⟩
     obtain ⟨u, hu⟩ : ∃ t, t = y.getD (m - 1) 0 := ⟨_, rfl⟩
     obtain ⟨X, hX⟩ : ∃ X, X = t + 1000000000 * t2 := ⟨_, rfl⟩
     obtain ⟨Q, hQ⟩ : ∃ Q, Q = N / M := ⟨_, rfl⟩
     rw [← ht, ← ht2, ← hu, ← hX, ← hQ] at q4 q5
     rw [← hu] at q3
     rw [← hQ] at q6
     have lt1 : t < 1000000000 := by rw [ht]; exact hl1.dig.get (by decide) _
     have lt2 : t2 < 1000000000 := by rw [ht2]; exact hl1.dig.get (by decide) _
     have ltu : u < 1000000000 := by rw [hu]; exact Hy.out.dig.get (by decide) _
     have HQ := hid hQ
     have HX := hid hX
     have HL4 : Hid (∀ i, i < k → wd.cell? ⟨g, i, none⟩ = some (.int .i64 (l.getD i 0 : Nat))) := hid hl4
     have HT := hid ht; have HT2 := hid ht2; have HU := hid hu
     have HNM := hid hNM
     have HL3 := hid hl3
     have Q4 := hid q4; have Q5 := hid q5; have Q6 := hid q6
     rw [hl3] at q1 q2
     clear hc hl1 hl2 hl3 hl4 hNB hNM ht ht2 hu hQ q4 q5 q6 hX
     obtain ⟨wf, rfl⟩ : ∃ x, x = wd := ⟨_, rfl⟩
     go_upto_region 9 with (go_at_call 161; refine (CC.out _ _ _ HF.out.refv (HB.out.ext HED.out)).mono ?_; rintro e w1 ⟨rfl, hb1⟩; have HE1 := hid hb1; clear hb1)
     have hc1 := Ext.cell HE1.out (HL4.out (m - 1) (by omega))
     rw [← HT.out] at hc1
     have hi1 : (0 : Int) ≤ (m : Int) - 1 := by omega
     have hi2 : (m : Int) - 1 < (k : Int) := by omega
     go_upto_region 10 with (fail)
     have HEF := hid (HED.out.trans HE1.out)
     have hXlt : X < 1000000000000000000 := by have := HX.out; omega
     go_upto_if 46 with (fail)
     go_cut [10] (fun v wx => v = .int .i64 (X : Nat) ∧ Hid (Ext w1 wx))
     case first =>
      rcases (show k = m ∨ k = m + 1 by omega) with hk | hk
      ·have hd1 : decide ((m : Int) < (k : Int)) = false := decide_eq_false (by omega)
       have EX : Hid ((t : Int) = (X : Int)) := hid <| by
        have h1 : t2 = 0 := by rw [HT2.out]; exact getD_ge (by rw [HL3.out]; omega)
        have := HX.out
        omega
       clear hi2
       first | rw [hd1] | rw [show decide (m < k) = false from decide_eq_false (by omega)] | rw [show decide (m < k) = true from decide_eq_true (by omega)]
       repeat (first | go_step | go_upon)
       go_meet
       exact ⟨vint EX.out, hid (Below.refl _ _)⟩
      ·have hd1 : decide ((m : Int) < (k : Int)) = true := decide_eq_true (by omega)
       have hc2 := Ext.cell HE1.out (HL4.out m (by omega))
       rw [← HT2.out] at hc2
       have hi3 : (0 : Int) ≤ (m : Int) := by omega
       have hi4 : (m : Int) < (k : Int) := by omega
       have EX : Hid ((t : Int) + 1000000000 * (t2 : Int) = (X : Int)) := hid <| by
        have := HX.out
        omega
       first | rw [hd1] | rw [show decide (m < k) = false from decide_eq_false (by omega)] | rw [show decide (m < k) = true from decide_eq_true (by omega)]
       repeat (first | go_step | go_upon)
       go_meet
       exact ⟨vint EX.out, hid (Below.refl _ _)⟩
     case rest =>
      obtain ⟨rfl, HEc⟩ := hcut
      obtain ⟨w2, rfl⟩ : ∃ x, x = wc := ⟨_, rfl⟩
      replace HE1 := hid (HE1.out.trans HEc.out)
      replace HEF := hid (HEF.out.trans HEc.out)
      clear HEc hc1 q1 q2
      have hcb := Ext.cell HEF.out (Hcy.out (m - 1) (by omega))
      rw [← HU.out] at hcb
      have hu1 : (1 : Int) ≤ (u : Int) := by omega
      have hj2 : (m : Int) - 1 < (m : Int) := by omega
      go_upto_region 12 with (fail)
      have hwm : IntKind.i64.wrap ((m : Int) - 1) = (m : Int) - 1 := IntWalk.i64_in _ (by omega)
      have hwu : IntKind.i64.wrap ((u : Int) + 1) = (u : Int) + 1 := IntWalk.i64_in _ (by omega)
      have hwx : IntKind.i64.wrap ((X : Int) + 1) = (X : Int) + 1 := IntWalk.i64_in _ (by omega)
      have hm1 : (1 : Int) ≤ (m : Int) := by omega
      go_quiet (fail)
      obtain ⟨lo0, hlo0⟩ : ∃ a, a = X / (u + 1) := ⟨_, rfl⟩
      obtain ⟨hi0, hhi0⟩ : ∃ a, a = min ((X + 1) / u) 999999999 := ⟨_, rfl⟩
      have E1 : wrap64 ((X : Int) / ((u : Int) + 1)) = ((lo0 : Nat) : Int) := by
       have h1 : ((lo0 : Nat) : Int) = (X : Int) / ((u : Int) + 1) := by rw [hlo0, Int.natCast_ediv]; rfl
       have h2 : lo0 ≤ X := by rw [hlo0]; exact Nat.div_le_self _ _
       rw [← h1]
       exact w64r _ (by omega)
      have E2 : min (((X : Int) + 1) / (u : Int)) 999999999 = ((hi0 : Nat) : Int) := by
       have h1 : ((X : Int) + 1) / (u : Int) = (((X + 1) / u : Nat) : Int) := by rw [Int.natCast_ediv]; rfl
       rw [h1, hhi0]
       generalize (X + 1) / u = z
       omega
      rw [E1, E2]
      have l1 : lo0 ≤ Q := by rw [hlo0]; exact Q4.out
      have l2 : Q ≤ hi0 := by have h1 := Q5.out; have h2 := Q6.out; omega
      have l3 : hi0 ≤ 999999999 := by omega
      have HQ0 : 0 < Q := by rw [HQ.out]; exact Nat.div_pos HNM.out hM0
      clear hcb hwm hwu hwx hlo0 hhi0 E1 E2 hu1 hXlt Q4 Q5
      have HEW := hid (below_drewN (HE1.out) nq)
      have CP : Hid (∀ w v d, RefV w v d → d ≤ 999999999 → RefV w (.slice (some ⟨bb, ob, none⟩) m cb) M → Calls Tryz.prog 194 #[.slice (some ⟨bb, ob, none⟩) m cb, v] w fun e w' => ∃ a k cap, e = .returned (.slice a k cap) ∧ Hid (RefV w' (.slice a k cap) (M * d)) ∧ Ext w w') := hid fun w v d h1 h2 h3 => rmul_c _ v M d (K + 30) w h3 h1 (SB.out.mono (by omega)) (Nat.lt_of_lt_of_le (show d < 2 ^ 30 by omega) (Nat.pow_le_pow_right (by decide) (by omega))) (by have := HK.out; omega)
      have CC2 : Hid (∀ w u v d, d ≤ 999999999 → RefV w u (M * d) → RefV w v N → Calls Tryz.prog 161 #[u, v] w fun e w' => e = .returned (.int .i64 (cmpN (M * d) N)) ∧ Ext w w') := hid fun w u v d h1 hu hv => rcmp_c u v (M * d) N (K + 30) w hu hv (by
       have h2 : M < 2 ^ K := SB.out
       have h3 : M * d < 2 ^ K * 2 ^ 30 := Nat.mul_lt_mul'' h2 (by omega)
       unfold Sm; rw [Nat.pow_add]; exact h3) SN.out (by have := HK.out; omega)
      obtain ⟨wh, hwh⟩ : ∃ x, x = w2.drewN nq := ⟨_, rfl⟩
      rw [← hwh] at HEW ⊢
      clear hwh
      go_upto_block 2 with (fail)
      go_cut [11, 12, 13] (fun a b d wx => a = .int .i64 (Q : Nat) ∧ (∃ hi : Nat, b = .int .i64 (hi : Nat)) ∧ Hid (Ext wf wx))
      case first =>
       go_wp2_with fail
       go_loopw [11, 12] (fun a b wx => ∃ lo hi : Nat, a = .int .i64 (lo : Nat) ∧ b = .int .i64 (hi : Nat) ∧ lo ≤ Q ∧ Q ≤ hi ∧ hi ≤ 999999999 ∧ Hid (Ext wf wx)) (fun a b _ => (intOf b).toNat - (intOf a).toNat)
       case atStart => exact ⟨lo0, hi0, rfl, rfl, l1, l2, l3, HEW⟩
       case round =>
        clear l1 l2 l3 HEW HE1 HEF
        obtain ⟨lo, hi, rfl, rfl, l1, l2, l3, HEX⟩ := hrel
        have HFX := hid (HF.out.ext HEX.out)
        have HEB := hid (HED.out.trans HEX.out)
        have hszX := HEX.out.size
        rcases Nat.lt_or_ge lo hi with hlh | hlh
        ·have hd2 : decide ((lo : Int) < (hi : Int)) = true := decide_eq_true (by omega)
         obtain ⟨mid, hmid⟩ : ∃ a, a = (lo + hi + 1) / 2 := ⟨_, rfl⟩
         have hmi : ((lo : Int) + (hi : Int) + 1) / 2 = ((mid : Nat) : Int) := by omega
         have hm2 : mid ≤ 999999999 := by omega
         have HMI := hid hmi
         have hmlo : lo < mid := by omega
         have hmhi : mid ≤ hi := by omega
         clear hmid hmi
         obtain ⟨cc, hcc⟩ : ∃ a, a = cmpN (M * mid) N := ⟨_, rfl⟩
         have CC3 : Hid (∀ w u v, RefV w u (M * mid) → RefV w v N → Calls Tryz.prog 161 #[u, v] w fun e w' => e = .returned (.int .i64 cc) ∧ Ext w w') := hid fun w u v => by rw [hcc]; exact CC2.out w u v mid hm2
         have hle : decide (cc ≤ 0) = decide (mid ≤ Q) := by
          rw [hcc, cmpN_le, HQ.out, decide_eq_decide, Nat.le_div_iff_mul_le hM0, Nat.mul_comm]
         clear hcc
         rcases Nat.lt_or_ge Q mid with hqm | hqm
         ·have hd3 : decide (cc ≤ 0) = false := by rw [hle]; exact decide_eq_false (by omega)
          clear hle
          go_wp2_with (first | (go_at_call 194; refine (CP.out _ _ mid (refv_oneI _ _ mid HMI.out (by omega) (by omega)) hm2 (HB.out.ext (HEB.out.trans (Below.alloc (Below.refl _ _) (Nat.le_refl _) _)))).mono ?_; rintro e w3 ⟨a3, n3, c3, rfl, HP3, hg3⟩; have HG3 := hid (Ext.trans (Below.alloc (Below.refl _ _) (Nat.le_refl _) _) hg3); clear hg3) | (go_at_call 161; refine (CC3.out _ _ _ HP3.out (HFX.out.refv.ext HG3.out)).mono ?_; rintro e w4 ⟨rfl, hg4⟩; have HG4 := hid hg4; clear hg4))
          go_roundw
          case measure => simp [intOf]; omega
          case rel => exact ⟨lo, mid - 1, rfl, vint (by have := HMI.out; omega), l1, by omega, by omega, hid (HEX.out.trans (HG3.out.trans HG4.out))⟩
         ·have hd3 : decide (cc ≤ 0) = true := by rw [hle]; exact decide_eq_true (by omega)
          clear hle
          go_wp2_with (first | (go_at_call 194; refine (CP.out _ _ mid (refv_oneI _ _ mid HMI.out (by omega) (by omega)) hm2 (HB.out.ext (HEB.out.trans (Below.alloc (Below.refl _ _) (Nat.le_refl _) _)))).mono ?_; rintro e w3 ⟨a3, n3, c3, rfl, HP3, hg3⟩; have HG3 := hid (Ext.trans (Below.alloc (Below.refl _ _) (Nat.le_refl _) _) hg3); clear hg3) | (go_at_call 161; refine (CC3.out _ _ _ HP3.out (HFX.out.refv.ext HG3.out)).mono ?_; rintro e w4 ⟨rfl, hg4⟩; have HG4 := hid hg4; clear hg4))
          go_roundw
          case measure => simp [intOf]; omega
          case rel => exact ⟨mid, hi, vint HMI.out, rfl, hqm, l2, l3, hid (HEX.out.trans (HG3.out.trans HG4.out))⟩
        ·have hd2 : decide ((lo : Int) < (hi : Int)) = false := decide_eq_false (by omega)
         go_upto_if 73 with (fail)
         first | rw [hd2] | rw [show decide (lo < hi) = false from decide_eq_false (by omega)]
         repeat (first | go_step | go_upon)
         go_meet
         exact ⟨vint (by omega), ⟨hi, rfl⟩, HEX⟩
      case rest =>
       obtain ⟨rfl, ⟨hi1, rfl⟩, HEX⟩ := hcut
       obtain ⟨wj, rfl⟩ : ∃ x, x = wc := ⟨_, rfl⟩
       have HFX := hid (HF.out.ext HEX.out)
       have HW := hid (Ext.trans HF.out.2.1 HEX.out)
       have HOX := hid (HR.out.own.ext' HW.out)
       have hcq := HOX.out.cell (k := j) (by omega)
       have hfq := HOX.out.free j
       have HST := hid (HR.out.step HW.out Hn.out Hd2.out hlt (Q : Int) (by rw [← HN.out, ← HQ.out]))
       have HRV := hid (HFX.out.setCell (b := w.heap.size) (i := j) (cell_lt HR.out.own.row) (.int .i64 (Q : Int)))
       have HES := hid HST.out.own.ext
       have CD : Hid (∀ w u v, RefV w u N → RefV w v (M * Q) → Calls Tryz.prog 192 #[u, v] w fun e w' => ∃ a k cap, e = .returned (.slice a k cap) ∧ Hid (RefV w' (.slice a k cap) (N - M * Q)) ∧ Ext w w') := hid fun w u v hu hv => rdif_c u v N (M * Q) (K + 30) w hu hv SN.out (by have := HK.out; omega) (by rw [HQ.out]; exact Nat.mul_div_le N M)
       have hQ9 : Q ≤ 999999999 := by have := Q6.out; omega
       go_upto_region 19 with (fail)
       obtain ⟨wk, hwk⟩ : ∃ x, x = wj.setCell ⟨w.heap.size, j, none⟩ (.int .i64 (Q : Int)) := ⟨_, rfl⟩
       rw [← hwk] at HST HRV HES ⊢
       clear hwk hcq hfq
       have hszK := HES.out.size
       go_upto_region 6 with (first | (go_at_call 194; refine (CP.out _ _ Q (refv_oneI _ _ Q rfl HQ0 (by omega)) hQ9 (HB.out.ext (HES.out.trans (Below.alloc (Below.refl _ _) (Nat.le_refl _) _)))).mono ?_; rintro e w3 ⟨a3, n3, c3, rfl, HP3, hg3⟩; have HG3 := hid (Ext.trans (Below.alloc (Below.refl _ _) (Nat.le_refl _) _) hg3); clear hg3) | (go_at_call 192; refine (CD.out _ _ _ (HRV.out.ext HG3.out) HP3.out).mono ?_; rintro e w4 ⟨a4, n4, c4, rfl, HD4, hg4⟩; have HG4 := hid hg4; clear hg4))
       go_wp2_with fail
       go_roundg j
       case measure => exact Nat.lt_succ_self j
       case rel => exact ⟨N % M, _, _, _, _, rfl, by go_num, by omega, hid (by rw [HN.out]; exact HST.out.ext (HG3.out.trans HG4.out)), hid (by
        have h1 := HD4.out
        rw [HQ.out] at h1
        have h2 : N - M * (N / M) = N % M := by have := Nat.div_add_mod N M; omega
        rwa [h2] at h1)⟩
theorem rdiv_c (x y : Value) (M N K : Nat) (w : World) (hx : RefV w x M) (hy : RefV w y N) (sx : Sm K M) (sy : Sm K N) (hK : K ≤ 50000000) (h0 : 0 < N) :
  Calls Tryz.prog 164 #[x, y] w fun e w' => ∃ a k cap a' k' cap', e = .returned (.tuple #[.slice a k cap, .slice a' k' cap']) ∧ RefV w' (.slice a k cap) (M / N) ∧ RefV w' (.slice a' k' cap') (M % N) ∧ Ext w w' := by
 obtain ⟨a, b, off, n, cap, l, rfl, h1, h2, h3, h4, h5, h6, h7, h8⟩ := hx.open
 have hy0 := hy
 obtain ⟨a', b', off', n', cap', l', rfl, h1', h2', h3', h4', h5', h6', h7', h8'⟩ := hy.open
 have e1 := sx.rlen h5.out h6.out
 have e2 := sy.rlen h5'.out h6'.out
 rw [h3.out] at e1
 rw [h3'.out] at e2
 have hn0 : 0 < n' := by
  rcases Nat.eq_zero_or_pos n' with h | h
  ·have := hy0.len0.1 h; omega
  ·exact h
 have := rdiv_core a a' b off cap b' off' cap' l l' n n' K w h3 h3' (by omega) (by omega) hn0 h4 h4' h5 h5' h7 h7' (hid (by rw [h6'.out]; exact hy0)) (hid (by rw [h6'.out]; exact sy)) (hid hK)
 rw [h6.out, h6'.out] at this
 exact this
end Go.Proofs.YtajecapgmdfjcaaGreatDoor
